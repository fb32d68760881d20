-- Written by wip/tools/myprint.py of this session's repo, over the kit's printer and hand texts.
import Derived.Test.YtgobffgogmnmpaaDoorPx0
import Derived.Test.YtgobffgogmnmpaaDoorPre
namespace Go.Proofs.YtgobffgogmnmpaaDoor.P
open Go.RowKit Go.Proofs.YtgobffgogmnmpaaDoorW.PrintWords Go.Proofs.YtgobffgogmnmpaaDoorW.PrintLast Go.Proofs.YtgobffgogmnmpaaDoorW.PrintMore
attribute [local go_sem] max2_int min2_int max_two min_two max_three min_three max_four min_four   -- for this text's walks alone
set_option linter.unusedVariables false
set_option linter.unusedSimpArgs false

/-! ### trishawref01_Days: function 24 -/
def trishawref01_Days.l0 : Nat → List Int → Int → Int → Option (Int)
  | 0, _, _, _ => none
  | k + 1, x0, x1, x5 => if x5 < (x0.length : Int) then (if 0 ≤ x5 then (if (rd x0 x5) < 0 then (some 2) else (if (rd x0 x5) ≥ x1 then (some 2) else (trishawref01_Days.l0 k x0 x1 (wrap64 (x5 + 1))))) else (none)) else (some 0)
def trishawref01_Days.f (k : Nat) (l0 : List Int) (a1 : Int) : Option (Int) := if (l0.length : Int) > 400 then (some 3) else (trishawref01_Days.l0 k l0 a1 0)
theorem trishawref01_Days.mono_l : ∀ k, (∀ y0 y1 y2, LeO (trishawref01_Days.l0 k y0 y1 y2) (trishawref01_Days.l0 (k + 1) y0 y1 y2))
  | 0 => fun _ _ _ r h => by simp [trishawref01_Days.l0] at h
  | k + 1 => by
    have ih0 := trishawref01_Days.mono_l k
    · intro y0 y1 y2
      unfold trishawref01_Days.l0
      with_reducible repeat' first | exact ih0 _ _ _ | exact LeO.refl _ | exact LeO.none _ | refine LeO.ite ?_ ?_ | refine LeO.bind ?_ (fun _ => ?_)
theorem trishawref01_Days.mono : ∀ a0 a1 k, LeO (trishawref01_Days.f k a0 a1) (trishawref01_Days.f (k + 1) a0 a1) := by
  intro a0 a1 k
  have ih0 := trishawref01_Days.mono_l k
  unfold trishawref01_Days.f
  with_reducible repeat' first | exact ih0 _ _ _ | exact LeO.refl _ | exact LeO.none _ | refine LeO.ite ?_ ?_ | refine LeO.bind ?_ (fun _ => ?_)
set_option maxHeartbeats 8000000 in
set_option maxRecDepth 100000 in
theorem trishawref01_Days.calls (k : Nat) (A0 : Option Addr) (c0 : Nat) (l0 : List Int) (a1 : Int) (r : Int) (w : World) (hr0 : Kd.C (Kd.int .i64) w A0 l0.length l0) (hc0 : l0.length ≤ c0) (h : trishawref01_Days.f k l0 a1 = some r) :
    Calls Tryd.prog 24 #[.slice A0 l0.length c0, .int .i64 a1] w fun e w' => e = .returned (.int .i64 r) ∧ Drawn0 w w' := by
 have HR0 := Aside0.mk hr0
 have HC0 := Aside0.mk hc0
 clear hr0 hc0
 have H : (if (l0.length : Int) > 400 then (some 3) else (trishawref01_Days.l0 k l0 a1 0)) = some r := h
 clear h
 by_cases c3 : (l0.length : Int) > 400
 ·rw [if_pos c3] at H
  have c3b0 : decide (400 < (l0.length : Int)) = true := decide_eq_true c3
  have c3b1 : decide (400 < l0.length) = true := decide_eq_true (by omega)
  clear c3
  obtain rfl := Option.some.inj H
  go_enter Tryd.func24, Tryd.ntmps24
  go_wp2
  go_ret
  exact ⟨by first | rfl | (simp; done) | (simp [*]; done), by repeat (first | exact Drawn0.refl _ | apply Drawn0.step)⟩
 ·rw [if_neg c3] at H
  have c3b0 : decide (400 < (l0.length : Int)) = false := decide_eq_false c3
  have c3b1 : decide (400 < l0.length) = false := decide_eq_false (by omega)
  clear c3
  have H' := Aside0.mk H
  clear H
  go_enter Tryd.func24, Tryd.ntmps24
  go_wp2
  go_loopg [5] k (fun kq v5 w' => ∃ (x5_1 : Int), v5 = .int .i64 x5_1 ∧ Aside0 (trishawref01_Days.l0 kq l0 a1 x5_1 = some r) ∧ Aside0 (kq ≤ k) ∧ Drawn0 w w')
  case atStart => exact ⟨(0), rs_, H', ⟨Nat.le_refl _⟩, by repeat (first | exact Drawn0.refl _ | apply Drawn0.step)⟩
  case round =>
   clear H'
   try clear c2
   try clear p2
   try clear c3
   try clear c3b0
   try clear c3b1
   obtain ⟨x5_1, rfl, HA, HK1, ⟨m1, rfl⟩⟩ := hrel
   cases gk with
   | zero => exact absurd HA.out (by simp [trishawref01_Days.l0])
   | succ k1 =>
    have H := HA.out
    clear HA
    simp only [trishawref01_Days.l0] at H
    by_cases c4 : x5_1 < (l0.length : Int)
    ·rw [if_pos c4] at H
     have c4b0 : decide (x5_1 < (l0.length : Int)) = true := decide_eq_true c4
     clear c4
     obtain ⟨c5b0, H⟩ := fp_ H
     by_cases c6 : (rd l0 x5_1) < 0
     ·rw [if_pos c6] at H
      have c6b0 : decide ((rd l0 x5_1) < 0) = true := decide_eq_true c6
      clear c6
      obtain rfl := Option.some.inj H
      obtain ⟨ad388, e388, hx388_0, p388, q388⟩ := ai_ HR0.out x5_1
      cases e388
      go_wp2
      go_ret
      exact ⟨by first | rfl | (simp; done) | (simp [*]; done), by repeat (first | exact Drawn0.refl _ | apply Drawn0.step)⟩
     ·rw [if_neg c6] at H
      have c6b0 : decide ((rd l0 x5_1) < 0) = false := decide_eq_false c6
      clear c6
      by_cases c7 : (rd l0 x5_1) ≥ a1
      ·rw [if_pos c7] at H
       have c7b0 : decide (a1 ≤ (rd l0 x5_1)) = true := decide_eq_true c7
       clear c7
       obtain rfl := Option.some.inj H
       obtain ⟨ad388, e388, hx388_0, p388, q388⟩ := ai_ HR0.out x5_1
       cases e388
       obtain ⟨ad389, e389, hx389_0, p389, q389⟩ := ai_ HR0.out x5_1
       obtain rfl : ad388 = ad389 := (by injection e389)
       go_wp2
       go_ret
       exact ⟨by first | rfl | (simp; done) | (simp [*]; done), by repeat (first | exact Drawn0.refl _ | apply Drawn0.step)⟩
      ·rw [if_neg c7] at H
       have c7b0 : decide (a1 ≤ (rd l0 x5_1)) = false := decide_eq_false c7
       clear c7
       have H' := Aside0.mk H
       clear H
       obtain ⟨ad388, e388, hx388_0, p388, q388⟩ := ai_ HR0.out x5_1
       cases e388
       obtain ⟨ad389, e389, hx389_0, p389, q389⟩ := ai_ HR0.out x5_1
       obtain rfl : ad388 = ad389 := (by injection e389)
       go_wp2
       go_roundg k1
       case measure => have := HK1.out; omega
       case rel => exact ⟨(wrap64 (x5_1 + 1)), rs_, H', ⟨by have := HK1.out; omega⟩, by repeat (first | exact Drawn0.refl _ | apply Drawn0.step)⟩
    ·rw [if_neg c4] at H
     have c4b0 : decide (x5_1 < (l0.length : Int)) = false := decide_eq_false c4
     clear c4
     obtain rfl := Option.some.inj H
     go_wp2
     go_ret
     exact ⟨by first | rfl | (simp; done) | (simp [*]; done), by repeat (first | exact Drawn0.refl _ | apply Drawn0.step)⟩

/-! ### trishawlaw01_small: function 26 -/
def trishawlaw01_small.f (a0_0 : Int) (a0_1 : Int) : Option (Bool) := if a0_0 ≥ 0 then (if a0_1 ≥ 1 then (if a0_0 < 1073741824 then (some (decide (a0_1 < 1073741824))) else (some false)) else (some false)) else (some false)
set_option maxHeartbeats 8000000 in
set_option maxRecDepth 100000 in
theorem trishawlaw01_small.calls (a0_0 : Int) (a0_1 : Int) (r : Bool) (w : World) (h : trishawlaw01_small.f a0_0 a0_1 = some r) :
    Calls Tryd.prog 26 #[.agg #[.int .i64 a0_0, .int .i64 a0_1]] w fun e w' => e = .returned (.bool r) ∧ Below w.heap.size w w' := by
 have hu26 := Tryd.underlying26
 have HB := Aside0.mk (Below.refl w.heap.size w)
 have H : (if a0_0 ≥ 0 then (if a0_1 ≥ 1 then (if a0_0 < 1073741824 then (some (decide (a0_1 < 1073741824))) else (some false)) else (some false)) else (some false)) = some r := h
 clear h
 by_cases c2 : a0_0 ≥ 0
 ·rw [if_pos c2] at H
  have c2b0 : decide (0 ≤ a0_0) = true := decide_eq_true c2
  clear c2
  by_cases c3 : a0_1 ≥ 1
  ·rw [if_pos c3] at H
   have c3b0 : decide (1 ≤ a0_1) = true := decide_eq_true c3
   clear c3
   by_cases c4 : a0_0 < 1073741824
   ·rw [if_pos c4] at H
    have c4b0 : decide (a0_0 < 1073741824) = true := decide_eq_true c4
    clear c4
    obtain rfl := Option.some.inj H
    go_enter Tryd.func26, Tryd.ntmps26
    go_wp2_with (first | ((with_reducible refine gate_dst (N := 1) rfl ?_); refine be_ #[.int .i64 a0_0, .int .i64 a0_1] 26 ?_; intro gb390 hg w5 hbox hb; have BK390 := Aside0.mk (hbox); have GW390 := gw_ hg; have GE390 := gw_ hg; replace HB := hb_ hb; clear hb hbox hg; have hcz6_0 := bc_ BK390 0 (.int .i64 a0_0); have hcz6_1 := bc_ BK390 1 (.int .i64 a0_1); have hfz6_0 := bz_ BK390 0; have hfz6_1 := bz_ BK390 1))
    go_ret
    exact ⟨er_, bl_⟩
   ·rw [if_neg c4] at H
    have c4b0 : decide (a0_0 < 1073741824) = false := decide_eq_false c4
    clear c4
    obtain rfl := Option.some.inj H
    go_enter Tryd.func26, Tryd.ntmps26
    go_wp2_with (first | ((with_reducible refine gate_dst (N := 1) rfl ?_); refine be_ #[.int .i64 a0_0, .int .i64 a0_1] 26 ?_; intro gb390 hg w7 hbox hb; have BK390 := Aside0.mk (hbox); have GW390 := gw_ hg; have GE390 := gw_ hg; replace HB := hb_ hb; clear hb hbox hg; have hcz8_0 := bc_ BK390 0 (.int .i64 a0_0); have hcz8_1 := bc_ BK390 1 (.int .i64 a0_1); have hfz8_0 := bz_ BK390 0; have hfz8_1 := bz_ BK390 1))
    go_ret
    exact ⟨er_, bl_⟩
  ·rw [if_neg c3] at H
   have c3b0 : decide (1 ≤ a0_1) = false := decide_eq_false c3
   clear c3
   obtain rfl := Option.some.inj H
   go_enter Tryd.func26, Tryd.ntmps26
   go_wp2_with (first | ((with_reducible refine gate_dst (N := 1) rfl ?_); refine be_ #[.int .i64 a0_0, .int .i64 a0_1] 26 ?_; intro gb390 hg w9 hbox hb; have BK390 := Aside0.mk (hbox); have GW390 := gw_ hg; have GE390 := gw_ hg; replace HB := hb_ hb; clear hb hbox hg; have hcz10_0 := bc_ BK390 0 (.int .i64 a0_0); have hcz10_1 := bc_ BK390 1 (.int .i64 a0_1); have hfz10_0 := bz_ BK390 0; have hfz10_1 := bz_ BK390 1))
   go_ret
   exact ⟨er_, bl_⟩
 ·rw [if_neg c2] at H
  have c2b0 : decide (0 ≤ a0_0) = false := decide_eq_false c2
  clear c2
  obtain rfl := Option.some.inj H
  go_enter Tryd.func26, Tryd.ntmps26
  go_wp2_with (first | ((with_reducible refine gate_dst (N := 1) rfl ?_); refine be_ #[.int .i64 a0_0, .int .i64 a0_1] 26 ?_; intro gb390 hg w11 hbox hb; have BK390 := Aside0.mk (hbox); have GW390 := gw_ hg; have GE390 := gw_ hg; replace HB := hb_ hb; clear hb hbox hg; have hcz12_0 := bc_ BK390 0 (.int .i64 a0_0); have hcz12_1 := bc_ BK390 1 (.int .i64 a0_1); have hfz12_0 := bz_ BK390 0; have hfz12_1 := bz_ BK390 1))
  go_ret
  exact ⟨er_, bl_⟩

/-! ### trishawlaw01_atMost: function 27 -/
def trishawlaw01_atMost.f (a0_0 : Int) (a0_1 : Int) (a1_0 : Int) (a1_1 : Int) : Option (Bool) := some (decide ((wrap64 (a0_0 * a1_1)) ≤ (wrap64 (a1_0 * a0_1))))
set_option maxHeartbeats 8000000 in
set_option maxRecDepth 100000 in
theorem trishawlaw01_atMost.calls (a0_0 : Int) (a0_1 : Int) (a1_0 : Int) (a1_1 : Int) (r : Bool) (w : World) (h : trishawlaw01_atMost.f a0_0 a0_1 a1_0 a1_1 = some r) :
    Calls Tryd.prog 27 #[.agg #[.int .i64 a0_0, .int .i64 a0_1], .agg #[.int .i64 a1_0, .int .i64 a1_1]] w fun e w' => e = .returned (.bool r) ∧ Below w.heap.size w w' := by
 have hu26 := Tryd.underlying26
 have HB := Aside0.mk (Below.refl w.heap.size w)
 have H : (some (decide ((wrap64 (a0_0 * a1_1)) ≤ (wrap64 (a1_0 * a0_1))))) = some r := h
 clear h
 obtain rfl := Option.some.inj H
 go_enter Tryd.func27, Tryd.ntmps27
 go_wp2_with (first | ((with_reducible refine gate_dst (N := 2) rfl ?_); refine be_ #[.int .i64 a0_0, .int .i64 a0_1] 26 ?_; intro gb391 hg w3 hbox hb; have BK391 := Aside0.mk (hbox); have GW391 := gw_ hg; have GE391 := gw_ hg; replace HB := hb_ hb; clear hb hbox hg) | ((with_reducible refine gate_dst (N := 3) rfl ?_); refine be_ #[.int .i64 a1_0, .int .i64 a1_1] 26 ?_; intro gb392 hg w4 hbox hb; have BK392 := Aside0.mk (hbox); have GW392 := gw_ hg; have GE392 := gw_ hg; replace HB := hb_ hb; have NB391_392 := nl_ hg BK391; have NB392_391 := sy_ NB391_392; replace BK391 := bb_ BK391 hb; clear hb hbox hg; have hnb5 := NB391_392.out; have hnc5 := NB392_391.out; have hcz6_0 := bc_ BK391 0 (.int .i64 a0_0); have hcz6_1 := bc_ BK391 1 (.int .i64 a0_1); have hfz6_0 := bz_ BK391 0; have hfz6_1 := bz_ BK391 1; have hcz7_0 := bc_ BK392 0 (.int .i64 a1_0); have hcz7_1 := bc_ BK392 1 (.int .i64 a1_1); have hfz7_0 := bz_ BK392 0; have hfz7_1 := bz_ BK392 1))
 go_ret
 exact ⟨er_, bl_⟩

end Go.Proofs.YtgobffgogmnmpaaDoor.P
