-- Written by wip/tools/myprint.py of this session's repo, over the kit's printer and hand texts.
import Derived.Test.YtgobffgogmnmpaaDoorPx0
import Derived.Test.YtgobffgogmnmpaaDoorPre
import Derived.Test.YtgobffgogmnmpaaDoorPx4
namespace Go.Proofs.YtgobffgogmnmpaaDoor.P
open Go.RowKit Go.Proofs.YtgobffgogmnmpaaDoorW.PrintWords Go.Proofs.YtgobffgogmnmpaaDoorW.PrintLast Go.Proofs.YtgobffgogmnmpaaDoorW.PrintMore
attribute [local go_sem] max2_int min2_int max_two min_two max_three min_three max_four min_four   -- for this text's walks alone
set_option linter.unusedVariables false
set_option linter.unusedSimpArgs false

/-! ### turn_table_fits: function 47 -/
mutual
def turn_table_fits.l0 : Nat → List (List (S51)) → List Int → Int → List Int → Int → Option (Bool)
  | 0, _, _, _, _, _ => none
  | k + 1, x1, x2, x3, x131000, x131001 => if x3 < x131001 then (turn_table_fits.l1 k x1 x2 x3 (-1) x2 (x2.length : Int) 0 x131000 x131001) else (some true)
def turn_table_fits.l1 : Nat → List (List (S51)) → List Int → Int → Int → List Int → Int → Int → List Int → Int → Option (Bool)
  | 0, _, _, _, _, _, _, _, _, _ => none
  | k + 1, x1, x2, x3, x9, x21, x22, x23, x131000, x131001 => if x23 < x22 then (if 0 ≤ x23 then (if x23 < (x21.length : Int) then (if x23 < (x131000.length : Int) then (if (rd x21 x23) = (rd x131000 x23) then (turn_table_fits.l1 k x1 x2 x3 x9 x21 x22 (wrap64 (x23 + 1)) x131000 x131001) else (if x23 < (x1.length : Int) then (if 0 ≤ (rd x21 x23) then (if (rd x21 x23) < ((rd_L2 x1 x23).length : Int) then (if ((rd_T51 (rd_L2 x1 x23) (rd x21 x23)).f1) < x3 then (some false) else (if ((rd_T51 (rd_L2 x1 x23) (rd x21 x23)).f0) ≤ x3 then (if x9 < 0 then (turn_table_fits.l1 k x1 x2 x3 x23 x21 x22 (wrap64 (x23 + 1)) x131000 x131001) else (if 0 ≤ x9 then (if x9 < (x1.length : Int) then (if x9 < (x2.length : Int) then (if 0 ≤ (rd x2 x9) then (if (rd x2 x9) < ((rd_L2 x1 x9).length : Int) then (if ((rd_T51 (rd_L2 x1 x23) (rd x21 x23)).f1) < ((rd_T51 (rd_L2 x1 x9) (rd x2 x9)).f1) then (turn_table_fits.l1 k x1 x2 x3 x23 x21 x22 (wrap64 (x23 + 1)) x131000 x131001) else (turn_table_fits.l1 k x1 x2 x3 x9 x21 x22 (wrap64 (x23 + 1)) x131000 x131001)) else (none)) else (none)) else (none)) else (none)) else (none))) else (turn_table_fits.l1 k x1 x2 x3 x9 x21 x22 (wrap64 (x23 + 1)) x131000 x131001))) else (none)) else (none)) else (none))) else (none)) else (none)) else (none)) else (if x9 < 0 then (some false) else (if 0 ≤ x9 then (if x9 < (x2.length : Int) then (turn_table_fits.l0 k x1 (x2.set (x9 : Int).toNat (wrap64 ((rd x2 x9) + 1))) (wrap64 (x3 + 1)) x131000 x131001) else (none)) else (none)))
end
def turn_table_fits.f (k : Nat) (l0_0 : List Int) (a0_1 : Int) (l1 : List (List (S51))) (l2 : List Int) (a3 : Int) : Option (Bool) := (slices_Clone_int_int.f l2).bind fun t131 => (turn_table_fits.l0 k l1 t131 a3 l0_0 a0_1)
theorem turn_table_fits.mono_l : ∀ k, (∀ y0 y1 y2 y3 y4, LeO (turn_table_fits.l0 k y0 y1 y2 y3 y4) (turn_table_fits.l0 (k + 1) y0 y1 y2 y3 y4)) ∧ (∀ y0 y1 y2 y3 y4 y5 y6 y7 y8, LeO (turn_table_fits.l1 k y0 y1 y2 y3 y4 y5 y6 y7 y8) (turn_table_fits.l1 (k + 1) y0 y1 y2 y3 y4 y5 y6 y7 y8))
  | 0 => ⟨fun _ _ _ _ _ r h => by simp [turn_table_fits.l0] at h, fun _ _ _ _ _ _ _ _ _ r h => by simp [turn_table_fits.l1] at h⟩
  | k + 1 => by
    obtain ⟨ih0, ih1⟩ := turn_table_fits.mono_l k
    refine ⟨?_, ?_⟩
    · intro y0 y1 y2 y3 y4
      unfold turn_table_fits.l0
      with_reducible repeat' first | exact ih0 _ _ _ _ _ | exact ih1 _ _ _ _ _ _ _ _ _ | exact LeO.refl _ | exact LeO.none _ | refine LeO.ite ?_ ?_ | refine LeO.bind ?_ (fun _ => ?_)
    · intro y0 y1 y2 y3 y4 y5 y6 y7 y8
      unfold turn_table_fits.l1
      with_reducible repeat' first | exact ih0 _ _ _ _ _ | exact ih1 _ _ _ _ _ _ _ _ _ | exact LeO.refl _ | exact LeO.none _ | refine LeO.ite ?_ ?_ | refine LeO.bind ?_ (fun _ => ?_)
theorem turn_table_fits.mono : ∀ a0 a1 a2 a3 a4 k, LeO (turn_table_fits.f k a0 a1 a2 a3 a4) (turn_table_fits.f (k + 1) a0 a1 a2 a3 a4) := by
  intro a0 a1 a2 a3 a4 k
  obtain ⟨ih0, ih1⟩ := turn_table_fits.mono_l k
  unfold turn_table_fits.f
  with_reducible repeat' first | exact ih0 _ _ _ _ _ | exact ih1 _ _ _ _ _ _ _ _ _ | exact LeO.refl _ | exact LeO.none _ | refine LeO.ite ?_ ?_ | refine LeO.bind ?_ (fun _ => ?_)
set_option maxHeartbeats 8000000 in
set_option maxRecDepth 100000 in
theorem turn_table_fits.calls (k : Nat) (A0_0 : Option Addr) (c0_0 : Nat) (l0_0 : List Int) (a0_1 : Int) (A1 : Option Addr) (c1 : Nat) (l1 : List (List (S51))) (A2 : Option Addr) (c2 : Nat) (l2 : List Int) (a3 : Int) (r : Bool) (w : World) (hr0_0 : Kd.C (Kd.int .i64) w A0_0 l0_0.length l0_0) (hc0_0 : l0_0.length ≤ c0_0) (hr1 : Kd.C (Kd.slice 51 k51) w A1 l1.length l1) (hc1 : l1.length ≤ c1) (hr2 : Kd.C (Kd.int .i64) w A2 l2.length l2) (hc2 : l2.length ≤ c2) (h : turn_table_fits.f k l0_0 a0_1 l1 l2 a3 = some r) :
    Calls Tryd.prog 47 #[.agg #[.slice A0_0 l0_0.length c0_0, .int .i64 a0_1], .slice A1 l1.length c1, .slice A2 l2.length c2, .int .i64 a3] w fun e w' => e = .returned (.bool r) ∧ Below w.heap.size w w' := by
 have hu60 := Tryd.underlying60
 have hu51 := Tryd.underlying51
 have HR0_0 := Aside0.mk hr0_0
 have HC0_0 := Aside0.mk hc0_0
 clear hr0_0 hc0_0
 have HR1 := Aside0.mk hr1
 have HC1 := Aside0.mk hc1
 clear hr1 hc1
 have HR2 := Aside0.mk hr2
 have HC2 := Aside0.mk hc2
 clear hr2 hc2
 have HB := Aside0.mk (Below.refl w.heap.size w)
 have H : ((slices_Clone_int_int.f l2).bind fun t131 => (turn_table_fits.l0 k l1 t131 a3 l0_0 a0_1)) = some r := h
 clear h
 obtain ⟨t131, A5, H⟩ := bi_ H
 replace H : (turn_table_fits.l0 k l1 t131 a3 l0_0 a0_1) = some r := H
 have H' := Aside0.mk H
 clear H
 go_enter Tryd.func47, Tryd.ntmps47
 go_wp2_with (first | ((with_reducible refine gate_dst (N := 4) rfl ?_); refine be_ #[.slice A0_0 l0_0.length c0_0, .int .i64 a0_1] 60 ?_; intro gb130 hg w6 hbox hb; have BK130 := Aside0.mk (hbox); have GW130 := gw_ hg; have GE130 := gw_ hg; replace HB := hb_ hb; clear hb hbox hg) | (go_at_call 71; (with_reducible refine (slices_Clone_int_int.calls _ _ l2 t131 _ ?side1 ?side2 A5.out).mono ?_); (case side1 => exact cb_ HR2.out); (case side2 => exact HC2.out); rintro e w7 ⟨v132, rfl, ho0, hb⟩; have HO133 := rl_ ho0; replace BK130 := bb_ BK130 hb; replace HB := hb_ hb; clear hb ho0))
 repeat (go_quiet (first | ((with_reducible refine gate_dst (N := 4) rfl ?_); refine be_ #[.slice A0_0 l0_0.length c0_0, .int .i64 a0_1] 60 ?_; intro gb130 hg w6 hbox hb; have BK130 := Aside0.mk (hbox); have GW130 := gw_ hg; have GE130 := gw_ hg; replace HB := hb_ hb; clear hb hbox hg) | (go_at_call 71; (with_reducible refine (slices_Clone_int_int.calls _ _ l2 t131 _ ?side1 ?side2 A5.out).mono ?_); (case side1 => exact cb_ HR2.out); (case side2 => exact HC2.out); rintro e w7 ⟨v132, rfl, ho0, hb⟩; have HO133 := rl_ ho0; replace BK130 := bb_ BK130 hb; replace HB := hb_ hb; clear hb ho0)); try go_wp2_with (first | ((with_reducible refine gate_dst (N := 4) rfl ?_); refine be_ #[.slice A0_0 l0_0.length c0_0, .int .i64 a0_1] 60 ?_; intro gb130 hg w6 hbox hb; have BK130 := Aside0.mk (hbox); have GW130 := gw_ hg; have GE130 := gw_ hg; replace HB := hb_ hb; clear hb hbox hg) | (go_at_call 71; (with_reducible refine (slices_Clone_int_int.calls _ _ l2 t131 _ ?side1 ?side2 A5.out).mono ?_); (case side1 => exact cb_ HR2.out); (case side2 => exact HC2.out); rintro e w7 ⟨v132, rfl, ho0, hb⟩; have HO133 := rl_ ho0; replace BK130 := bb_ BK130 hb; replace HB := hb_ hb; clear hb ho0)))
 go_loopg [3] k (fun kq v3 w' => ∃ (x2_1 : List Int) (x3_1 : Int), v3 = .int .i64 x3_1 ∧ Aside0 (turn_table_fits.l0 kq l1 x2_1 x3_1 l0_0 a0_1 = some r) ∧ Aside0 (kq ≤ k) ∧ Aside0 (Kd.R (Kd.int .i64) 3 w' w.heap.size (fun _ => True) v132 x2_1) ∧ Aside0 (w'.heap[gb130]? = some (.cells #[(.slice A0_0 l0_0.length c0_0), .int .i64 a0_1] 60 (0, 0))) ∧ Aside0 (Below w.heap.size w w'))
 case atStart => exact ⟨(t131), (a3), rs_, H', ⟨Nat.le_refl _⟩, ⟨kr_ HO133.out⟩, ⟨bk_ BK130.out⟩, ⟨bl_⟩⟩
 case round =>
  clear H'
  try clear c1
  try clear c2
  try clear p2
  try clear c4
  obtain ⟨x2_1, x3_1, rfl, HA, HK1, HO_2, BK130, HB⟩ := hrel
  cases gk with
  | zero => exact absurd HA.out (by simp [turn_table_fits.l0])
  | succ k1 =>
   have H := HA.out
   clear HA
   simp only [turn_table_fits.l0] at H
   by_cases c8 : x3_1 < a0_1
   ·rw [if_pos c8] at H
    have c8b0 : decide (x3_1 < a0_1) = true := decide_eq_true c8
    clear c8
    have H' := Aside0.mk H
    clear H
    have hcz9_0 := bc_ BK130 0 (.slice A0_0 l0_0.length c0_0)
    have hcz9_1 := bc_ BK130 1 (.int .i64 a0_1)
    have hfz9_0 := bz_ BK130 0
    have hfz9_1 := bz_ BK130 1
    obtain ⟨Ao10, co10, eo10⟩ := Kd.R_slice HO_2.out
    subst eo10
    go_wp2
    repeat (go_quiet (fail); try go_wp2)
    go_loopg [9, 23] k1 (fun kq v9 v23 w' => ∃ (x9_2 : Int) (x23_2 : Int), v9 = .int .i64 x9_2 ∧ v23 = .int .i64 x23_2 ∧ Aside0 (turn_table_fits.l1 kq l1 x2_1 x3_1 x9_2 x2_1 (x2_1.length : Int) x23_2 l0_0 a0_1 = some r) ∧ Aside0 (kq ≤ k1) ∧ Aside0 (Kd.R (Kd.int .i64) 3 w' w.heap.size (fun _ => True) (.slice Ao10 x2_1.length co10) x2_1) ∧ Aside0 (Kd.R (Kd.int .i64) 3 w' w.heap.size (fun _ => True) (.slice Ao10 x2_1.length co10) x2_1) ∧ Aside0 (w'.heap[gb130]? = some (.cells #[(.slice A0_0 l0_0.length c0_0), .int .i64 a0_1] 60 (0, 0))) ∧ Aside0 (Below w.heap.size w w'))
    case atStart => exact ⟨((-1)), (0), rs_, rs_, H', ⟨Nat.le_refl _⟩, ⟨kr_ HO_2.out⟩, ⟨kr_ HO_2.out⟩, ⟨bk_ BK130.out⟩, ⟨bl_⟩⟩
    case round =>
     clear H'
     try clear c1
     try clear c2
     try clear p2
     try clear c4
     try clear c8
     try clear c8b0
     try clear hcz9_0
     try clear hcz9_1
     try clear hfz9_0
     try clear hfz9_1
     try clear p2
     obtain ⟨x9_2, x23_2, rfl, rfl, HA, HK2, HO_2, HO_21, BK130, HB⟩ := hrel
     cases gk with
     | zero => exact absurd HA.out (by simp [turn_table_fits.l1])
     | succ k2 =>
      have H := HA.out
      clear HA
      simp only [turn_table_fits.l1] at H
      by_cases c11 : x23_2 < (x2_1.length : Int)
      ·rw [if_pos c11] at H
       have c11b0 : decide (x23_2 < (x2_1.length : Int)) = true := decide_eq_true c11
       clear c11
       obtain ⟨c12b0, H⟩ := fp_ H
       obtain ⟨c13b0, H⟩ := fp_ H
       obtain ⟨c14b0, H⟩ := fp_ H
       by_cases c15 : (rd x2_1 x23_2) = (rd l0_0 x23_2)
       ·rw [if_pos c15] at H
        have c15b0 : ((rd x2_1 x23_2) == (rd l0_0 x23_2)) = true := beq_iff_eq.mpr c15
        have c15b1 : ((rd x2_1 x23_2) != (rd l0_0 x23_2)) = false := bne_eq_false_iff_eq.mpr c15
        clear c15
        have H' := Aside0.mk H
        clear H
        obtain ⟨ad136, e136, hx136_0, p136, q136⟩ := ai_ (Kd.R_reads' HO_21.out).2.2 x23_2
        cases e136
        have hcz16_0 := bc_ BK130 0 (.slice A0_0 l0_0.length c0_0)
        have hcz16_1 := bc_ BK130 1 (.int .i64 a0_1)
        have hfz16_0 := bz_ BK130 0
        have hfz16_1 := bz_ BK130 1
        obtain ⟨ad137, e137, hx137_0, p137, q137⟩ := ai_ HR0_0.out x23_2
        cases e137
        replace hx137_0 := hc_ HB hx137_0
        go_wp2
        repeat (go_quiet (fail); try go_wp2)
        go_roundg k2
        case measure => have := HK1.out; have := HK2.out; omega
        case rel => exact ⟨(x9_2), (wrap64 (x23_2 + 1)), rs_, rs_, H', ⟨by have := HK1.out; have := HK2.out; omega⟩, ⟨kr_ HO_2.out⟩, ⟨kr_ HO_21.out⟩, ⟨bk_ BK130.out⟩, ⟨bl_⟩⟩
       ·rw [if_neg c15] at H
        have c15b0 : ((rd x2_1 x23_2) == (rd l0_0 x23_2)) = false := beq_eq_false_iff_ne.mpr c15
        have c15b1 : ((rd x2_1 x23_2) != (rd l0_0 x23_2)) = true := bne_iff_ne.mpr c15
        obtain ⟨c17b0, H⟩ := fp_ H
        obtain ⟨c18b0, H⟩ := fp_ H
        obtain ⟨c19b0, H⟩ := fp_ H
        by_cases c20 : ((rd_T51 (rd_L2 l1 x23_2) (rd x2_1 x23_2)).f1) < x3_1
        ·rw [if_pos c20] at H
         have c20b0 : decide (((rd_T51 (rd_L2 l1 x23_2) (rd x2_1 x23_2)).f1) < x3_1) = true := decide_eq_true c20
         clear c20
         obtain rfl := Option.some.inj H
         obtain ⟨ad136, e136, hx136_0, p136, q136⟩ := ai_ (Kd.R_reads' HO_21.out).2.2 x23_2
         cases e136
         have hcz21_0 := bc_ BK130 0 (.slice A0_0 l0_0.length c0_0)
         have hcz21_1 := bc_ BK130 1 (.int .i64 a0_1)
         have hfz21_0 := bz_ BK130 0
         have hfz21_1 := bz_ BK130 1
         obtain ⟨ad137, e137, hx137_0, p137, q137⟩ := ai_ HR0_0.out x23_2
         cases e137
         replace hx137_0 := hc_ HB hx137_0
         have p138 : 0 ≤ (x23_2 : Int) := od_
         have q138 : x23_2 < (l1.length : Int) := od_
         obtain ⟨ad138, A138_0, c138_0, e138, hx138_0, hl138_0, hi138_0⟩ := at_L2 HR1.out x23_2 p138 q138
         cases e138
         replace hx138_0 := hc_ HB hx138_0
         have HR138_0 := Aside0.mk hi138_0
         have HC138_0 := Aside0.mk hl138_0
         clear hi138_0 hl138_0
         replace p138 := eq_true p138
         replace q138 := eq_true q138
         have p139 : 0 ≤ ((rd x2_1 x23_2) : Int) := od_
         have q139 : (rd x2_1 x23_2) < ((rd_L2 l1 x23_2).length : Int) := od_
         obtain ⟨ad139, e139, hx139_0, hx139_1⟩ := at_T51 HR138_0.out (rd x2_1 x23_2) p139 q139
         cases e139
         replace hx139_0 := hc_ HB hx139_0
         replace hx139_1 := hc_ HB hx139_1
         replace p139 := eq_true p139
         replace q139 := eq_true q139
         go_wp2_with (first | ((with_reducible refine gate_dst (N := 12) rfl ?_); refine be_ #[.int .i64 0, .int .i64 0] 51 ?_; intro gb140 hg w22 hbox hb; replace HO_2 := rb_ HO_2 hb; replace HO_21 := rb_ HO_21 hb; have BK140 := Aside0.mk (hbox); have GW140 := gw_ hg; have GE140 := gw_ hg; replace HB := hb_ hb; have NB130_140 := nl_ hg BK130; have NB140_130 := sy_ NB130_140; replace BK130 := bb_ BK130 hb; clear hb hbox hg; have hnb23 := NB140_130.out; have hnc23 := NB130_140.out; have hcz24_0 := bc_ BK140 0 (.int .i64 0); have hcz24_1 := bc_ BK140 1 (.int .i64 0); have hfz24_0 := bz_ BK140 0; have hfz24_1 := bz_ BK140 1))
         repeat (go_quiet (first | ((with_reducible refine gate_dst (N := 12) rfl ?_); refine be_ #[.int .i64 0, .int .i64 0] 51 ?_; intro gb140 hg w22 hbox hb; replace HO_2 := rb_ HO_2 hb; replace HO_21 := rb_ HO_21 hb; have BK140 := Aside0.mk (hbox); have GW140 := gw_ hg; have GE140 := gw_ hg; replace HB := hb_ hb; have NB130_140 := nl_ hg BK130; have NB140_130 := sy_ NB130_140; replace BK130 := bb_ BK130 hb; clear hb hbox hg; have hnb23 := NB140_130.out; have hnc23 := NB130_140.out; have hcz24_0 := bc_ BK140 0 (.int .i64 0); have hcz24_1 := bc_ BK140 1 (.int .i64 0); have hfz24_0 := bz_ BK140 0; have hfz24_1 := bz_ BK140 1)); try go_wp2_with (first | ((with_reducible refine gate_dst (N := 12) rfl ?_); refine be_ #[.int .i64 0, .int .i64 0] 51 ?_; intro gb140 hg w22 hbox hb; replace HO_2 := rb_ HO_2 hb; replace HO_21 := rb_ HO_21 hb; have BK140 := Aside0.mk (hbox); have GW140 := gw_ hg; have GE140 := gw_ hg; replace HB := hb_ hb; have NB130_140 := nl_ hg BK130; have NB140_130 := sy_ NB130_140; replace BK130 := bb_ BK130 hb; clear hb hbox hg; have hnb23 := NB140_130.out; have hnc23 := NB130_140.out; have hcz24_0 := bc_ BK140 0 (.int .i64 0); have hcz24_1 := bc_ BK140 1 (.int .i64 0); have hfz24_0 := bz_ BK140 0; have hfz24_1 := bz_ BK140 1)))
         go_ret
         exact ⟨er_, bl_⟩
        ·rw [if_neg c20] at H
         have c20b0 : decide (((rd_T51 (rd_L2 l1 x23_2) (rd x2_1 x23_2)).f1) < x3_1) = false := decide_eq_false c20
         clear c20
         by_cases c25 : ((rd_T51 (rd_L2 l1 x23_2) (rd x2_1 x23_2)).f0) ≤ x3_1
         ·rw [if_pos c25] at H
          have c25b0 : decide (((rd_T51 (rd_L2 l1 x23_2) (rd x2_1 x23_2)).f0) ≤ x3_1) = true := decide_eq_true c25
          clear c25
          by_cases c26 : x9_2 < 0
          ·rw [if_pos c26] at H
           have c26b0 : decide (x9_2 < 0) = true := decide_eq_true c26
           clear c26
           have H' := Aside0.mk H
           clear H
           obtain ⟨ad136, e136, hx136_0, p136, q136⟩ := ai_ (Kd.R_reads' HO_21.out).2.2 x23_2
           cases e136
           have hcz27_0 := bc_ BK130 0 (.slice A0_0 l0_0.length c0_0)
           have hcz27_1 := bc_ BK130 1 (.int .i64 a0_1)
           have hfz27_0 := bz_ BK130 0
           have hfz27_1 := bz_ BK130 1
           obtain ⟨ad137, e137, hx137_0, p137, q137⟩ := ai_ HR0_0.out x23_2
           cases e137
           replace hx137_0 := hc_ HB hx137_0
           have p138 : 0 ≤ (x23_2 : Int) := od_
           have q138 : x23_2 < (l1.length : Int) := od_
           obtain ⟨ad138, A138_0, c138_0, e138, hx138_0, hl138_0, hi138_0⟩ := at_L2 HR1.out x23_2 p138 q138
           cases e138
           replace hx138_0 := hc_ HB hx138_0
           have HR138_0 := Aside0.mk hi138_0
           have HC138_0 := Aside0.mk hl138_0
           clear hi138_0 hl138_0
           replace p138 := eq_true p138
           replace q138 := eq_true q138
           have p139 : 0 ≤ ((rd x2_1 x23_2) : Int) := od_
           have q139 : (rd x2_1 x23_2) < ((rd_L2 l1 x23_2).length : Int) := od_
           obtain ⟨ad139, e139, hx139_0, hx139_1⟩ := at_T51 HR138_0.out (rd x2_1 x23_2) p139 q139
           cases e139
           replace hx139_0 := hc_ HB hx139_0
           replace hx139_1 := hc_ HB hx139_1
           replace p139 := eq_true p139
           replace q139 := eq_true q139
           go_wp2_with (first | ((with_reducible refine gate_dst (N := 12) rfl ?_); refine be_ #[.int .i64 0, .int .i64 0] 51 ?_; intro gb140 hg w28 hbox hb; replace HO_2 := rb_ HO_2 hb; replace HO_21 := rb_ HO_21 hb; have BK140 := Aside0.mk (hbox); have GW140 := gw_ hg; have GE140 := gw_ hg; replace HB := hb_ hb; have NB130_140 := nl_ hg BK130; have NB140_130 := sy_ NB130_140; replace BK130 := bb_ BK130 hb; clear hb hbox hg; have hnb29 := NB140_130.out; have hnc29 := NB130_140.out; have hcz30_0 := bc_ BK140 0 (.int .i64 0); have hcz30_1 := bc_ BK140 1 (.int .i64 0); have hfz30_0 := bz_ BK140 0; have hfz30_1 := bz_ BK140 1))
           repeat (go_quiet (first | ((with_reducible refine gate_dst (N := 12) rfl ?_); refine be_ #[.int .i64 0, .int .i64 0] 51 ?_; intro gb140 hg w28 hbox hb; replace HO_2 := rb_ HO_2 hb; replace HO_21 := rb_ HO_21 hb; have BK140 := Aside0.mk (hbox); have GW140 := gw_ hg; have GE140 := gw_ hg; replace HB := hb_ hb; have NB130_140 := nl_ hg BK130; have NB140_130 := sy_ NB130_140; replace BK130 := bb_ BK130 hb; clear hb hbox hg; have hnb29 := NB140_130.out; have hnc29 := NB130_140.out; have hcz30_0 := bc_ BK140 0 (.int .i64 0); have hcz30_1 := bc_ BK140 1 (.int .i64 0); have hfz30_0 := bz_ BK140 0; have hfz30_1 := bz_ BK140 1)); try go_wp2_with (first | ((with_reducible refine gate_dst (N := 12) rfl ?_); refine be_ #[.int .i64 0, .int .i64 0] 51 ?_; intro gb140 hg w28 hbox hb; replace HO_2 := rb_ HO_2 hb; replace HO_21 := rb_ HO_21 hb; have BK140 := Aside0.mk (hbox); have GW140 := gw_ hg; have GE140 := gw_ hg; replace HB := hb_ hb; have NB130_140 := nl_ hg BK130; have NB140_130 := sy_ NB130_140; replace BK130 := bb_ BK130 hb; clear hb hbox hg; have hnb29 := NB140_130.out; have hnc29 := NB130_140.out; have hcz30_0 := bc_ BK140 0 (.int .i64 0); have hcz30_1 := bc_ BK140 1 (.int .i64 0); have hfz30_0 := bz_ BK140 0; have hfz30_1 := bz_ BK140 1)))
           go_roundg k2
           case measure => have := HK1.out; have := HK2.out; omega
           case rel => exact ⟨(x23_2), (wrap64 (x23_2 + 1)), rs_, rs_, H', ⟨by have := HK1.out; have := HK2.out; omega⟩, ⟨by refine kr_ ?_; exact Kd.R_mono (Kd.R_far (p := ⟨gb140, 1, none⟩) (Kd.R_far (p := ⟨gb140, 0, none⟩) (Kd.R_types HO_2.out BK140.out (by decide)) (fun _ hk => hk.2) (.int .i64 ((rd_T51 (rd_L2 l1 x23_2) (rd x2_1 x23_2)).f0))) (fun _ hk => hk.2) (.int .i64 ((rd_T51 (rd_L2 l1 x23_2) (rd x2_1 x23_2)).f1))) (fun _ hk => trivial)⟩, ⟨by refine kr_ ?_; exact Kd.R_mono (Kd.R_far (p := ⟨gb140, 1, none⟩) (Kd.R_far (p := ⟨gb140, 0, none⟩) (Kd.R_types HO_21.out BK140.out (by decide)) (fun _ hk => hk.2) (.int .i64 ((rd_T51 (rd_L2 l1 x23_2) (rd x2_1 x23_2)).f0))) (fun _ hk => hk.2) (.int .i64 ((rd_T51 (rd_L2 l1 x23_2) (rd x2_1 x23_2)).f1))) (fun _ hk => trivial)⟩, ⟨by refine bk_ ?_; refine blk_far ?_ NB130_140.out _; refine bk_ ?_; refine blk_far ?_ NB130_140.out _; refine bk_ ?_; exact BK130.out⟩, ⟨bl_⟩⟩
          ·rw [if_neg c26] at H
           have c26b0 : decide (x9_2 < 0) = false := decide_eq_false c26
           clear c26
           obtain ⟨c31b0, H⟩ := fp_ H
           obtain ⟨c32b0, H⟩ := fp_ H
           obtain ⟨c33b0, H⟩ := fp_ H
           obtain ⟨c34b0, H⟩ := fp_ H
           obtain ⟨c35b0, H⟩ := fp_ H
           by_cases c36 : ((rd_T51 (rd_L2 l1 x23_2) (rd x2_1 x23_2)).f1) < ((rd_T51 (rd_L2 l1 x9_2) (rd x2_1 x9_2)).f1)
           ·rw [if_pos c36] at H
            have c36b0 : decide (((rd_T51 (rd_L2 l1 x23_2) (rd x2_1 x23_2)).f1) < ((rd_T51 (rd_L2 l1 x9_2) (rd x2_1 x9_2)).f1)) = true := decide_eq_true c36
            clear c36
            have H' := Aside0.mk H
            clear H
            obtain ⟨ad136, e136, hx136_0, p136, q136⟩ := ai_ (Kd.R_reads' HO_21.out).2.2 x23_2
            cases e136
            have hcz37_0 := bc_ BK130 0 (.slice A0_0 l0_0.length c0_0)
            have hcz37_1 := bc_ BK130 1 (.int .i64 a0_1)
            have hfz37_0 := bz_ BK130 0
            have hfz37_1 := bz_ BK130 1
            obtain ⟨ad137, e137, hx137_0, p137, q137⟩ := ai_ HR0_0.out x23_2
            cases e137
            replace hx137_0 := hc_ HB hx137_0
            have p138 : 0 ≤ (x23_2 : Int) := od_
            have q138 : x23_2 < (l1.length : Int) := od_
            obtain ⟨ad138, A138_0, c138_0, e138, hx138_0, hl138_0, hi138_0⟩ := at_L2 HR1.out x23_2 p138 q138
            cases e138
            replace hx138_0 := hc_ HB hx138_0
            have HR138_0 := Aside0.mk hi138_0
            have HC138_0 := Aside0.mk hl138_0
            clear hi138_0 hl138_0
            replace p138 := eq_true p138
            replace q138 := eq_true q138
            have p139 : 0 ≤ ((rd x2_1 x23_2) : Int) := od_
            have q139 : (rd x2_1 x23_2) < ((rd_L2 l1 x23_2).length : Int) := od_
            obtain ⟨ad139, e139, hx139_0, hx139_1⟩ := at_T51 HR138_0.out (rd x2_1 x23_2) p139 q139
            cases e139
            replace hx139_0 := hc_ HB hx139_0
            replace hx139_1 := hc_ HB hx139_1
            replace p139 := eq_true p139
            replace q139 := eq_true q139
            go_wp2_with (first | ((with_reducible refine gate_dst (N := 12) rfl ?_); refine be_ #[.int .i64 0, .int .i64 0] 51 ?_; intro gb140 hg w38 hbox hb; replace HO_2 := rb_ HO_2 hb; replace HO_21 := rb_ HO_21 hb; have BK140 := Aside0.mk (hbox); have GW140 := gw_ hg; have GE140 := gw_ hg; replace HB := hb_ hb; have NB130_140 := nl_ hg BK130; have NB140_130 := sy_ NB130_140; replace BK130 := bb_ BK130 hb; clear hb hbox hg; have hnb39 := NB140_130.out; have hnc39 := NB130_140.out; have hcz40_0 := bc_ BK140 0 (.int .i64 0); have hcz40_1 := bc_ BK140 1 (.int .i64 0); have hfz40_0 := bz_ BK140 0; have hfz40_1 := bz_ BK140 1; have p141 : 0 ≤ (x9_2 : Int) := od_; have q141 : x9_2 < (l1.length : Int) := od_; obtain ⟨ad141, A141_0, c141_0, e141, hx141_0, hl141_0, hi141_0⟩ := at_L2 HR1.out x9_2 p141 q141; obtain rfl : ad138 = ad141 := (by injection e141); have hn141_0 : ad138.block ≠ gb140 := Nat.ne_of_lt (Nat.lt_of_lt_of_le (by have := World.block_lt_of_cell? _ _ hx141_0; first | rwa [add_block] at this | exact this) GW140.out); have hn141_1 : ad138.block ≠ gb140 := Nat.ne_of_lt (Nat.lt_of_lt_of_le (by have := World.block_lt_of_cell? _ _ hx141_0; first | rwa [add_block] at this | exact this) GW140.out); replace hx141_0 := hc_ HB hx141_0; have HR141_0 := Aside0.mk hi141_0; have HC141_0 := Aside0.mk hl141_0; clear hi141_0 hl141_0; replace hx141_0 := (cell_far (p := ⟨gb140, 0, none⟩) (by first | (rw [add_block]; exact hn141_0) | (show (Addr.add _ _).block ≠ _; rw [add_block]; exact hn141_0) | exact hn141_0) (.int .i64 ((rd_T51 (rd_L2 l1 x23_2) (rd x2_1 x23_2)).f0))).trans hx141_0; replace hx141_0 := (cell_far (p := ⟨gb140, 1, none⟩) (by first | (rw [add_block]; exact hn141_1) | (show (Addr.add _ _).block ≠ _; rw [add_block]; exact hn141_1) | exact hn141_1) (.int .i64 ((rd_T51 (rd_L2 l1 x23_2) (rd x2_1 x23_2)).f1))).trans hx141_0; (try have hy141_0 := fun (n_ : Nat) => (show ((((w38.drewN n_).setCell ⟨gb140, 0, none⟩ (.int .i64 ((rd_T51 (rd_L2 l1 x23_2) (rd x2_1 x23_2)).f0))).setCell ⟨gb140, 1, none⟩ (.int .i64 ((rd_T51 (rd_L2 l1 x23_2) (rd x2_1 x23_2)).f1)))).cell? _ = some _ from hx141_0)); clear hn141_0; clear hn141_1; replace p141 := eq_true p141; replace q141 := eq_true q141; have p142 : 0 ≤ (x9_2 : Int) := od_; have q142 : x9_2 < (x2_1.length : Int) := od_; obtain ⟨ad142, e142, hx142_0⟩ := Kd.at_int (Kd.R_reads' HO_2.out).2.2 x9_2 p142 q142; obtain rfl : ad136 = ad142 := (by injection e142); have hn142_0 : ad136.block ≠ gb140 := Kd.own_blk (Kd.R_ne HO_2.out BK140.out (by decide)); have hn142_1 : ad136.block ≠ gb140 := Kd.own_blk (Kd.R_ne HO_2.out BK140.out (by decide)); replace hx142_0 := (cell_far (p := ⟨gb140, 0, none⟩) (by first | (rw [add_block]; exact hn142_0) | (show (Addr.add _ _).block ≠ _; rw [add_block]; exact hn142_0) | exact hn142_0) (.int .i64 ((rd_T51 (rd_L2 l1 x23_2) (rd x2_1 x23_2)).f0))).trans hx142_0; replace hx142_0 := (cell_far (p := ⟨gb140, 1, none⟩) (by first | (rw [add_block]; exact hn142_1) | (show (Addr.add _ _).block ≠ _; rw [add_block]; exact hn142_1) | exact hn142_1) (.int .i64 ((rd_T51 (rd_L2 l1 x23_2) (rd x2_1 x23_2)).f1))).trans hx142_0; (try have hy142_0 := fun (n_ : Nat) => (show ((((w38.drewN n_).setCell ⟨gb140, 0, none⟩ (.int .i64 ((rd_T51 (rd_L2 l1 x23_2) (rd x2_1 x23_2)).f0))).setCell ⟨gb140, 1, none⟩ (.int .i64 ((rd_T51 (rd_L2 l1 x23_2) (rd x2_1 x23_2)).f1)))).cell? _ = some _ from hx142_0)); clear hn142_0; clear hn142_1; replace p142 := eq_true p142; replace q142 := eq_true q142; have p143 : 0 ≤ ((rd x2_1 x9_2) : Int) := od_; have q143 : (rd x2_1 x9_2) < ((rd_L2 l1 x9_2).length : Int) := od_; obtain ⟨ad143, e143, hx143_0, hx143_1⟩ := at_T51 HR141_0.out (rd x2_1 x9_2) p143 q143; cases e143; have hn143_0 : ad143.block ≠ gb140 := Nat.ne_of_lt (Nat.lt_of_lt_of_le (by have := World.block_lt_of_cell? _ _ hx143_0; first | rwa [add_block] at this | exact this) GW140.out); have hn143_1 : ad143.block ≠ gb140 := Nat.ne_of_lt (Nat.lt_of_lt_of_le (by have := World.block_lt_of_cell? _ _ hx143_0; first | rwa [add_block] at this | exact this) GW140.out); replace hx143_0 := hc_ HB hx143_0; replace hx143_1 := hc_ HB hx143_1; replace hx143_0 := (cell_far (p := ⟨gb140, 0, none⟩) (by first | (rw [add_block]; exact hn143_0) | (show (Addr.add _ _).block ≠ _; rw [add_block]; exact hn143_0) | exact hn143_0) (.int .i64 ((rd_T51 (rd_L2 l1 x23_2) (rd x2_1 x23_2)).f0))).trans hx143_0; replace hx143_1 := (cell_far (p := ⟨gb140, 0, none⟩) (by first | (rw [add_block]; exact hn143_0) | (show (Addr.add _ _).block ≠ _; rw [add_block]; exact hn143_0) | exact hn143_0) (.int .i64 ((rd_T51 (rd_L2 l1 x23_2) (rd x2_1 x23_2)).f0))).trans hx143_1; replace hx143_0 := (cell_far (p := ⟨gb140, 1, none⟩) (by first | (rw [add_block]; exact hn143_1) | (show (Addr.add _ _).block ≠ _; rw [add_block]; exact hn143_1) | exact hn143_1) (.int .i64 ((rd_T51 (rd_L2 l1 x23_2) (rd x2_1 x23_2)).f1))).trans hx143_0; replace hx143_1 := (cell_far (p := ⟨gb140, 1, none⟩) (by first | (rw [add_block]; exact hn143_1) | (show (Addr.add _ _).block ≠ _; rw [add_block]; exact hn143_1) | exact hn143_1) (.int .i64 ((rd_T51 (rd_L2 l1 x23_2) (rd x2_1 x23_2)).f1))).trans hx143_1; (try have hy143_0 := fun (n_ : Nat) => (show ((((w38.drewN n_).setCell ⟨gb140, 0, none⟩ (.int .i64 ((rd_T51 (rd_L2 l1 x23_2) (rd x2_1 x23_2)).f0))).setCell ⟨gb140, 1, none⟩ (.int .i64 ((rd_T51 (rd_L2 l1 x23_2) (rd x2_1 x23_2)).f1)))).cell? _ = some _ from hx143_0)); (try have hy143_1 := fun (n_ : Nat) => (show ((((w38.drewN n_).setCell ⟨gb140, 0, none⟩ (.int .i64 ((rd_T51 (rd_L2 l1 x23_2) (rd x2_1 x23_2)).f0))).setCell ⟨gb140, 1, none⟩ (.int .i64 ((rd_T51 (rd_L2 l1 x23_2) (rd x2_1 x23_2)).f1)))).cell? _ = some _ from hx143_1)); clear hn143_0; clear hn143_1; replace p143 := eq_true p143; replace q143 := eq_true q143))
            repeat (go_quiet (first | ((with_reducible refine gate_dst (N := 12) rfl ?_); refine be_ #[.int .i64 0, .int .i64 0] 51 ?_; intro gb140 hg w38 hbox hb; replace HO_2 := rb_ HO_2 hb; replace HO_21 := rb_ HO_21 hb; have BK140 := Aside0.mk (hbox); have GW140 := gw_ hg; have GE140 := gw_ hg; replace HB := hb_ hb; have NB130_140 := nl_ hg BK130; have NB140_130 := sy_ NB130_140; replace BK130 := bb_ BK130 hb; clear hb hbox hg; have hnb39 := NB140_130.out; have hnc39 := NB130_140.out; have hcz40_0 := bc_ BK140 0 (.int .i64 0); have hcz40_1 := bc_ BK140 1 (.int .i64 0); have hfz40_0 := bz_ BK140 0; have hfz40_1 := bz_ BK140 1; have p141 : 0 ≤ (x9_2 : Int) := od_; have q141 : x9_2 < (l1.length : Int) := od_; obtain ⟨ad141, A141_0, c141_0, e141, hx141_0, hl141_0, hi141_0⟩ := at_L2 HR1.out x9_2 p141 q141; obtain rfl : ad138 = ad141 := (by injection e141); have hn141_0 : ad138.block ≠ gb140 := Nat.ne_of_lt (Nat.lt_of_lt_of_le (by have := World.block_lt_of_cell? _ _ hx141_0; first | rwa [add_block] at this | exact this) GW140.out); have hn141_1 : ad138.block ≠ gb140 := Nat.ne_of_lt (Nat.lt_of_lt_of_le (by have := World.block_lt_of_cell? _ _ hx141_0; first | rwa [add_block] at this | exact this) GW140.out); replace hx141_0 := hc_ HB hx141_0; have HR141_0 := Aside0.mk hi141_0; have HC141_0 := Aside0.mk hl141_0; clear hi141_0 hl141_0; replace hx141_0 := (cell_far (p := ⟨gb140, 0, none⟩) (by first | (rw [add_block]; exact hn141_0) | (show (Addr.add _ _).block ≠ _; rw [add_block]; exact hn141_0) | exact hn141_0) (.int .i64 ((rd_T51 (rd_L2 l1 x23_2) (rd x2_1 x23_2)).f0))).trans hx141_0; replace hx141_0 := (cell_far (p := ⟨gb140, 1, none⟩) (by first | (rw [add_block]; exact hn141_1) | (show (Addr.add _ _).block ≠ _; rw [add_block]; exact hn141_1) | exact hn141_1) (.int .i64 ((rd_T51 (rd_L2 l1 x23_2) (rd x2_1 x23_2)).f1))).trans hx141_0; (try have hy141_0 := fun (n_ : Nat) => (show ((((w38.drewN n_).setCell ⟨gb140, 0, none⟩ (.int .i64 ((rd_T51 (rd_L2 l1 x23_2) (rd x2_1 x23_2)).f0))).setCell ⟨gb140, 1, none⟩ (.int .i64 ((rd_T51 (rd_L2 l1 x23_2) (rd x2_1 x23_2)).f1)))).cell? _ = some _ from hx141_0)); clear hn141_0; clear hn141_1; replace p141 := eq_true p141; replace q141 := eq_true q141; have p142 : 0 ≤ (x9_2 : Int) := od_; have q142 : x9_2 < (x2_1.length : Int) := od_; obtain ⟨ad142, e142, hx142_0⟩ := Kd.at_int (Kd.R_reads' HO_2.out).2.2 x9_2 p142 q142; obtain rfl : ad136 = ad142 := (by injection e142); have hn142_0 : ad136.block ≠ gb140 := Kd.own_blk (Kd.R_ne HO_2.out BK140.out (by decide)); have hn142_1 : ad136.block ≠ gb140 := Kd.own_blk (Kd.R_ne HO_2.out BK140.out (by decide)); replace hx142_0 := (cell_far (p := ⟨gb140, 0, none⟩) (by first | (rw [add_block]; exact hn142_0) | (show (Addr.add _ _).block ≠ _; rw [add_block]; exact hn142_0) | exact hn142_0) (.int .i64 ((rd_T51 (rd_L2 l1 x23_2) (rd x2_1 x23_2)).f0))).trans hx142_0; replace hx142_0 := (cell_far (p := ⟨gb140, 1, none⟩) (by first | (rw [add_block]; exact hn142_1) | (show (Addr.add _ _).block ≠ _; rw [add_block]; exact hn142_1) | exact hn142_1) (.int .i64 ((rd_T51 (rd_L2 l1 x23_2) (rd x2_1 x23_2)).f1))).trans hx142_0; (try have hy142_0 := fun (n_ : Nat) => (show ((((w38.drewN n_).setCell ⟨gb140, 0, none⟩ (.int .i64 ((rd_T51 (rd_L2 l1 x23_2) (rd x2_1 x23_2)).f0))).setCell ⟨gb140, 1, none⟩ (.int .i64 ((rd_T51 (rd_L2 l1 x23_2) (rd x2_1 x23_2)).f1)))).cell? _ = some _ from hx142_0)); clear hn142_0; clear hn142_1; replace p142 := eq_true p142; replace q142 := eq_true q142; have p143 : 0 ≤ ((rd x2_1 x9_2) : Int) := od_; have q143 : (rd x2_1 x9_2) < ((rd_L2 l1 x9_2).length : Int) := od_; obtain ⟨ad143, e143, hx143_0, hx143_1⟩ := at_T51 HR141_0.out (rd x2_1 x9_2) p143 q143; cases e143; have hn143_0 : ad143.block ≠ gb140 := Nat.ne_of_lt (Nat.lt_of_lt_of_le (by have := World.block_lt_of_cell? _ _ hx143_0; first | rwa [add_block] at this | exact this) GW140.out); have hn143_1 : ad143.block ≠ gb140 := Nat.ne_of_lt (Nat.lt_of_lt_of_le (by have := World.block_lt_of_cell? _ _ hx143_0; first | rwa [add_block] at this | exact this) GW140.out); replace hx143_0 := hc_ HB hx143_0; replace hx143_1 := hc_ HB hx143_1; replace hx143_0 := (cell_far (p := ⟨gb140, 0, none⟩) (by first | (rw [add_block]; exact hn143_0) | (show (Addr.add _ _).block ≠ _; rw [add_block]; exact hn143_0) | exact hn143_0) (.int .i64 ((rd_T51 (rd_L2 l1 x23_2) (rd x2_1 x23_2)).f0))).trans hx143_0; replace hx143_1 := (cell_far (p := ⟨gb140, 0, none⟩) (by first | (rw [add_block]; exact hn143_0) | (show (Addr.add _ _).block ≠ _; rw [add_block]; exact hn143_0) | exact hn143_0) (.int .i64 ((rd_T51 (rd_L2 l1 x23_2) (rd x2_1 x23_2)).f0))).trans hx143_1; replace hx143_0 := (cell_far (p := ⟨gb140, 1, none⟩) (by first | (rw [add_block]; exact hn143_1) | (show (Addr.add _ _).block ≠ _; rw [add_block]; exact hn143_1) | exact hn143_1) (.int .i64 ((rd_T51 (rd_L2 l1 x23_2) (rd x2_1 x23_2)).f1))).trans hx143_0; replace hx143_1 := (cell_far (p := ⟨gb140, 1, none⟩) (by first | (rw [add_block]; exact hn143_1) | (show (Addr.add _ _).block ≠ _; rw [add_block]; exact hn143_1) | exact hn143_1) (.int .i64 ((rd_T51 (rd_L2 l1 x23_2) (rd x2_1 x23_2)).f1))).trans hx143_1; (try have hy143_0 := fun (n_ : Nat) => (show ((((w38.drewN n_).setCell ⟨gb140, 0, none⟩ (.int .i64 ((rd_T51 (rd_L2 l1 x23_2) (rd x2_1 x23_2)).f0))).setCell ⟨gb140, 1, none⟩ (.int .i64 ((rd_T51 (rd_L2 l1 x23_2) (rd x2_1 x23_2)).f1)))).cell? _ = some _ from hx143_0)); (try have hy143_1 := fun (n_ : Nat) => (show ((((w38.drewN n_).setCell ⟨gb140, 0, none⟩ (.int .i64 ((rd_T51 (rd_L2 l1 x23_2) (rd x2_1 x23_2)).f0))).setCell ⟨gb140, 1, none⟩ (.int .i64 ((rd_T51 (rd_L2 l1 x23_2) (rd x2_1 x23_2)).f1)))).cell? _ = some _ from hx143_1)); clear hn143_0; clear hn143_1; replace p143 := eq_true p143; replace q143 := eq_true q143)); try go_wp2_with (first | ((with_reducible refine gate_dst (N := 12) rfl ?_); refine be_ #[.int .i64 0, .int .i64 0] 51 ?_; intro gb140 hg w38 hbox hb; replace HO_2 := rb_ HO_2 hb; replace HO_21 := rb_ HO_21 hb; have BK140 := Aside0.mk (hbox); have GW140 := gw_ hg; have GE140 := gw_ hg; replace HB := hb_ hb; have NB130_140 := nl_ hg BK130; have NB140_130 := sy_ NB130_140; replace BK130 := bb_ BK130 hb; clear hb hbox hg; have hnb39 := NB140_130.out; have hnc39 := NB130_140.out; have hcz40_0 := bc_ BK140 0 (.int .i64 0); have hcz40_1 := bc_ BK140 1 (.int .i64 0); have hfz40_0 := bz_ BK140 0; have hfz40_1 := bz_ BK140 1; have p141 : 0 ≤ (x9_2 : Int) := od_; have q141 : x9_2 < (l1.length : Int) := od_; obtain ⟨ad141, A141_0, c141_0, e141, hx141_0, hl141_0, hi141_0⟩ := at_L2 HR1.out x9_2 p141 q141; obtain rfl : ad138 = ad141 := (by injection e141); have hn141_0 : ad138.block ≠ gb140 := Nat.ne_of_lt (Nat.lt_of_lt_of_le (by have := World.block_lt_of_cell? _ _ hx141_0; first | rwa [add_block] at this | exact this) GW140.out); have hn141_1 : ad138.block ≠ gb140 := Nat.ne_of_lt (Nat.lt_of_lt_of_le (by have := World.block_lt_of_cell? _ _ hx141_0; first | rwa [add_block] at this | exact this) GW140.out); replace hx141_0 := hc_ HB hx141_0; have HR141_0 := Aside0.mk hi141_0; have HC141_0 := Aside0.mk hl141_0; clear hi141_0 hl141_0; replace hx141_0 := (cell_far (p := ⟨gb140, 0, none⟩) (by first | (rw [add_block]; exact hn141_0) | (show (Addr.add _ _).block ≠ _; rw [add_block]; exact hn141_0) | exact hn141_0) (.int .i64 ((rd_T51 (rd_L2 l1 x23_2) (rd x2_1 x23_2)).f0))).trans hx141_0; replace hx141_0 := (cell_far (p := ⟨gb140, 1, none⟩) (by first | (rw [add_block]; exact hn141_1) | (show (Addr.add _ _).block ≠ _; rw [add_block]; exact hn141_1) | exact hn141_1) (.int .i64 ((rd_T51 (rd_L2 l1 x23_2) (rd x2_1 x23_2)).f1))).trans hx141_0; (try have hy141_0 := fun (n_ : Nat) => (show ((((w38.drewN n_).setCell ⟨gb140, 0, none⟩ (.int .i64 ((rd_T51 (rd_L2 l1 x23_2) (rd x2_1 x23_2)).f0))).setCell ⟨gb140, 1, none⟩ (.int .i64 ((rd_T51 (rd_L2 l1 x23_2) (rd x2_1 x23_2)).f1)))).cell? _ = some _ from hx141_0)); clear hn141_0; clear hn141_1; replace p141 := eq_true p141; replace q141 := eq_true q141; have p142 : 0 ≤ (x9_2 : Int) := od_; have q142 : x9_2 < (x2_1.length : Int) := od_; obtain ⟨ad142, e142, hx142_0⟩ := Kd.at_int (Kd.R_reads' HO_2.out).2.2 x9_2 p142 q142; obtain rfl : ad136 = ad142 := (by injection e142); have hn142_0 : ad136.block ≠ gb140 := Kd.own_blk (Kd.R_ne HO_2.out BK140.out (by decide)); have hn142_1 : ad136.block ≠ gb140 := Kd.own_blk (Kd.R_ne HO_2.out BK140.out (by decide)); replace hx142_0 := (cell_far (p := ⟨gb140, 0, none⟩) (by first | (rw [add_block]; exact hn142_0) | (show (Addr.add _ _).block ≠ _; rw [add_block]; exact hn142_0) | exact hn142_0) (.int .i64 ((rd_T51 (rd_L2 l1 x23_2) (rd x2_1 x23_2)).f0))).trans hx142_0; replace hx142_0 := (cell_far (p := ⟨gb140, 1, none⟩) (by first | (rw [add_block]; exact hn142_1) | (show (Addr.add _ _).block ≠ _; rw [add_block]; exact hn142_1) | exact hn142_1) (.int .i64 ((rd_T51 (rd_L2 l1 x23_2) (rd x2_1 x23_2)).f1))).trans hx142_0; (try have hy142_0 := fun (n_ : Nat) => (show ((((w38.drewN n_).setCell ⟨gb140, 0, none⟩ (.int .i64 ((rd_T51 (rd_L2 l1 x23_2) (rd x2_1 x23_2)).f0))).setCell ⟨gb140, 1, none⟩ (.int .i64 ((rd_T51 (rd_L2 l1 x23_2) (rd x2_1 x23_2)).f1)))).cell? _ = some _ from hx142_0)); clear hn142_0; clear hn142_1; replace p142 := eq_true p142; replace q142 := eq_true q142; have p143 : 0 ≤ ((rd x2_1 x9_2) : Int) := od_; have q143 : (rd x2_1 x9_2) < ((rd_L2 l1 x9_2).length : Int) := od_; obtain ⟨ad143, e143, hx143_0, hx143_1⟩ := at_T51 HR141_0.out (rd x2_1 x9_2) p143 q143; cases e143; have hn143_0 : ad143.block ≠ gb140 := Nat.ne_of_lt (Nat.lt_of_lt_of_le (by have := World.block_lt_of_cell? _ _ hx143_0; first | rwa [add_block] at this | exact this) GW140.out); have hn143_1 : ad143.block ≠ gb140 := Nat.ne_of_lt (Nat.lt_of_lt_of_le (by have := World.block_lt_of_cell? _ _ hx143_0; first | rwa [add_block] at this | exact this) GW140.out); replace hx143_0 := hc_ HB hx143_0; replace hx143_1 := hc_ HB hx143_1; replace hx143_0 := (cell_far (p := ⟨gb140, 0, none⟩) (by first | (rw [add_block]; exact hn143_0) | (show (Addr.add _ _).block ≠ _; rw [add_block]; exact hn143_0) | exact hn143_0) (.int .i64 ((rd_T51 (rd_L2 l1 x23_2) (rd x2_1 x23_2)).f0))).trans hx143_0; replace hx143_1 := (cell_far (p := ⟨gb140, 0, none⟩) (by first | (rw [add_block]; exact hn143_0) | (show (Addr.add _ _).block ≠ _; rw [add_block]; exact hn143_0) | exact hn143_0) (.int .i64 ((rd_T51 (rd_L2 l1 x23_2) (rd x2_1 x23_2)).f0))).trans hx143_1; replace hx143_0 := (cell_far (p := ⟨gb140, 1, none⟩) (by first | (rw [add_block]; exact hn143_1) | (show (Addr.add _ _).block ≠ _; rw [add_block]; exact hn143_1) | exact hn143_1) (.int .i64 ((rd_T51 (rd_L2 l1 x23_2) (rd x2_1 x23_2)).f1))).trans hx143_0; replace hx143_1 := (cell_far (p := ⟨gb140, 1, none⟩) (by first | (rw [add_block]; exact hn143_1) | (show (Addr.add _ _).block ≠ _; rw [add_block]; exact hn143_1) | exact hn143_1) (.int .i64 ((rd_T51 (rd_L2 l1 x23_2) (rd x2_1 x23_2)).f1))).trans hx143_1; (try have hy143_0 := fun (n_ : Nat) => (show ((((w38.drewN n_).setCell ⟨gb140, 0, none⟩ (.int .i64 ((rd_T51 (rd_L2 l1 x23_2) (rd x2_1 x23_2)).f0))).setCell ⟨gb140, 1, none⟩ (.int .i64 ((rd_T51 (rd_L2 l1 x23_2) (rd x2_1 x23_2)).f1)))).cell? _ = some _ from hx143_0)); (try have hy143_1 := fun (n_ : Nat) => (show ((((w38.drewN n_).setCell ⟨gb140, 0, none⟩ (.int .i64 ((rd_T51 (rd_L2 l1 x23_2) (rd x2_1 x23_2)).f0))).setCell ⟨gb140, 1, none⟩ (.int .i64 ((rd_T51 (rd_L2 l1 x23_2) (rd x2_1 x23_2)).f1)))).cell? _ = some _ from hx143_1)); clear hn143_0; clear hn143_1; replace p143 := eq_true p143; replace q143 := eq_true q143)))
            go_roundg k2
            case measure => have := HK1.out; have := HK2.out; omega
            case rel => exact ⟨(x23_2), (wrap64 (x23_2 + 1)), rs_, rs_, H', ⟨by have := HK1.out; have := HK2.out; omega⟩, ⟨by refine kr_ ?_; exact Kd.R_mono (Kd.R_far (p := ⟨gb140, 1, none⟩) (Kd.R_far (p := ⟨gb140, 0, none⟩) (Kd.R_types HO_2.out BK140.out (by decide)) (fun _ hk => hk.2) (.int .i64 ((rd_T51 (rd_L2 l1 x23_2) (rd x2_1 x23_2)).f0))) (fun _ hk => hk.2) (.int .i64 ((rd_T51 (rd_L2 l1 x23_2) (rd x2_1 x23_2)).f1))) (fun _ hk => trivial)⟩, ⟨by refine kr_ ?_; exact Kd.R_mono (Kd.R_far (p := ⟨gb140, 1, none⟩) (Kd.R_far (p := ⟨gb140, 0, none⟩) (Kd.R_types HO_21.out BK140.out (by decide)) (fun _ hk => hk.2) (.int .i64 ((rd_T51 (rd_L2 l1 x23_2) (rd x2_1 x23_2)).f0))) (fun _ hk => hk.2) (.int .i64 ((rd_T51 (rd_L2 l1 x23_2) (rd x2_1 x23_2)).f1))) (fun _ hk => trivial)⟩, ⟨by refine bk_ ?_; refine blk_far ?_ NB130_140.out _; refine bk_ ?_; refine blk_far ?_ NB130_140.out _; refine bk_ ?_; exact BK130.out⟩, ⟨bl_⟩⟩
           ·rw [if_neg c36] at H
            have c36b0 : decide (((rd_T51 (rd_L2 l1 x23_2) (rd x2_1 x23_2)).f1) < ((rd_T51 (rd_L2 l1 x9_2) (rd x2_1 x9_2)).f1)) = false := decide_eq_false c36
            clear c36
            have H' := Aside0.mk H
            clear H
            obtain ⟨ad136, e136, hx136_0, p136, q136⟩ := ai_ (Kd.R_reads' HO_21.out).2.2 x23_2
            cases e136
            have hcz41_0 := bc_ BK130 0 (.slice A0_0 l0_0.length c0_0)
            have hcz41_1 := bc_ BK130 1 (.int .i64 a0_1)
            have hfz41_0 := bz_ BK130 0
            have hfz41_1 := bz_ BK130 1
            obtain ⟨ad137, e137, hx137_0, p137, q137⟩ := ai_ HR0_0.out x23_2
            cases e137
            replace hx137_0 := hc_ HB hx137_0
            have p138 : 0 ≤ (x23_2 : Int) := od_
            have q138 : x23_2 < (l1.length : Int) := od_
            obtain ⟨ad138, A138_0, c138_0, e138, hx138_0, hl138_0, hi138_0⟩ := at_L2 HR1.out x23_2 p138 q138
            cases e138
            replace hx138_0 := hc_ HB hx138_0
            have HR138_0 := Aside0.mk hi138_0
            have HC138_0 := Aside0.mk hl138_0
            clear hi138_0 hl138_0
            replace p138 := eq_true p138
            replace q138 := eq_true q138
            have p139 : 0 ≤ ((rd x2_1 x23_2) : Int) := od_
            have q139 : (rd x2_1 x23_2) < ((rd_L2 l1 x23_2).length : Int) := od_
            obtain ⟨ad139, e139, hx139_0, hx139_1⟩ := at_T51 HR138_0.out (rd x2_1 x23_2) p139 q139
            cases e139
            replace hx139_0 := hc_ HB hx139_0
            replace hx139_1 := hc_ HB hx139_1
            replace p139 := eq_true p139
            replace q139 := eq_true q139
            go_wp2_with (first | ((with_reducible refine gate_dst (N := 12) rfl ?_); refine be_ #[.int .i64 0, .int .i64 0] 51 ?_; intro gb140 hg w42 hbox hb; replace HO_2 := rb_ HO_2 hb; replace HO_21 := rb_ HO_21 hb; have BK140 := Aside0.mk (hbox); have GW140 := gw_ hg; have GE140 := gw_ hg; replace HB := hb_ hb; have NB130_140 := nl_ hg BK130; have NB140_130 := sy_ NB130_140; replace BK130 := bb_ BK130 hb; clear hb hbox hg; have hnb43 := NB140_130.out; have hnc43 := NB130_140.out; have hcz44_0 := bc_ BK140 0 (.int .i64 0); have hcz44_1 := bc_ BK140 1 (.int .i64 0); have hfz44_0 := bz_ BK140 0; have hfz44_1 := bz_ BK140 1; have p141 : 0 ≤ (x9_2 : Int) := od_; have q141 : x9_2 < (l1.length : Int) := od_; obtain ⟨ad141, A141_0, c141_0, e141, hx141_0, hl141_0, hi141_0⟩ := at_L2 HR1.out x9_2 p141 q141; obtain rfl : ad138 = ad141 := (by injection e141); have hn141_0 : ad138.block ≠ gb140 := Nat.ne_of_lt (Nat.lt_of_lt_of_le (by have := World.block_lt_of_cell? _ _ hx141_0; first | rwa [add_block] at this | exact this) GW140.out); have hn141_1 : ad138.block ≠ gb140 := Nat.ne_of_lt (Nat.lt_of_lt_of_le (by have := World.block_lt_of_cell? _ _ hx141_0; first | rwa [add_block] at this | exact this) GW140.out); replace hx141_0 := hc_ HB hx141_0; have HR141_0 := Aside0.mk hi141_0; have HC141_0 := Aside0.mk hl141_0; clear hi141_0 hl141_0; replace hx141_0 := (cell_far (p := ⟨gb140, 0, none⟩) (by first | (rw [add_block]; exact hn141_0) | (show (Addr.add _ _).block ≠ _; rw [add_block]; exact hn141_0) | exact hn141_0) (.int .i64 ((rd_T51 (rd_L2 l1 x23_2) (rd x2_1 x23_2)).f0))).trans hx141_0; replace hx141_0 := (cell_far (p := ⟨gb140, 1, none⟩) (by first | (rw [add_block]; exact hn141_1) | (show (Addr.add _ _).block ≠ _; rw [add_block]; exact hn141_1) | exact hn141_1) (.int .i64 ((rd_T51 (rd_L2 l1 x23_2) (rd x2_1 x23_2)).f1))).trans hx141_0; (try have hy141_0 := fun (n_ : Nat) => (show ((((w42.drewN n_).setCell ⟨gb140, 0, none⟩ (.int .i64 ((rd_T51 (rd_L2 l1 x23_2) (rd x2_1 x23_2)).f0))).setCell ⟨gb140, 1, none⟩ (.int .i64 ((rd_T51 (rd_L2 l1 x23_2) (rd x2_1 x23_2)).f1)))).cell? _ = some _ from hx141_0)); clear hn141_0; clear hn141_1; replace p141 := eq_true p141; replace q141 := eq_true q141; have p142 : 0 ≤ (x9_2 : Int) := od_; have q142 : x9_2 < (x2_1.length : Int) := od_; obtain ⟨ad142, e142, hx142_0⟩ := Kd.at_int (Kd.R_reads' HO_2.out).2.2 x9_2 p142 q142; obtain rfl : ad136 = ad142 := (by injection e142); have hn142_0 : ad136.block ≠ gb140 := Kd.own_blk (Kd.R_ne HO_2.out BK140.out (by decide)); have hn142_1 : ad136.block ≠ gb140 := Kd.own_blk (Kd.R_ne HO_2.out BK140.out (by decide)); replace hx142_0 := (cell_far (p := ⟨gb140, 0, none⟩) (by first | (rw [add_block]; exact hn142_0) | (show (Addr.add _ _).block ≠ _; rw [add_block]; exact hn142_0) | exact hn142_0) (.int .i64 ((rd_T51 (rd_L2 l1 x23_2) (rd x2_1 x23_2)).f0))).trans hx142_0; replace hx142_0 := (cell_far (p := ⟨gb140, 1, none⟩) (by first | (rw [add_block]; exact hn142_1) | (show (Addr.add _ _).block ≠ _; rw [add_block]; exact hn142_1) | exact hn142_1) (.int .i64 ((rd_T51 (rd_L2 l1 x23_2) (rd x2_1 x23_2)).f1))).trans hx142_0; (try have hy142_0 := fun (n_ : Nat) => (show ((((w42.drewN n_).setCell ⟨gb140, 0, none⟩ (.int .i64 ((rd_T51 (rd_L2 l1 x23_2) (rd x2_1 x23_2)).f0))).setCell ⟨gb140, 1, none⟩ (.int .i64 ((rd_T51 (rd_L2 l1 x23_2) (rd x2_1 x23_2)).f1)))).cell? _ = some _ from hx142_0)); clear hn142_0; clear hn142_1; replace p142 := eq_true p142; replace q142 := eq_true q142; have p143 : 0 ≤ ((rd x2_1 x9_2) : Int) := od_; have q143 : (rd x2_1 x9_2) < ((rd_L2 l1 x9_2).length : Int) := od_; obtain ⟨ad143, e143, hx143_0, hx143_1⟩ := at_T51 HR141_0.out (rd x2_1 x9_2) p143 q143; cases e143; have hn143_0 : ad143.block ≠ gb140 := Nat.ne_of_lt (Nat.lt_of_lt_of_le (by have := World.block_lt_of_cell? _ _ hx143_0; first | rwa [add_block] at this | exact this) GW140.out); have hn143_1 : ad143.block ≠ gb140 := Nat.ne_of_lt (Nat.lt_of_lt_of_le (by have := World.block_lt_of_cell? _ _ hx143_0; first | rwa [add_block] at this | exact this) GW140.out); replace hx143_0 := hc_ HB hx143_0; replace hx143_1 := hc_ HB hx143_1; replace hx143_0 := (cell_far (p := ⟨gb140, 0, none⟩) (by first | (rw [add_block]; exact hn143_0) | (show (Addr.add _ _).block ≠ _; rw [add_block]; exact hn143_0) | exact hn143_0) (.int .i64 ((rd_T51 (rd_L2 l1 x23_2) (rd x2_1 x23_2)).f0))).trans hx143_0; replace hx143_1 := (cell_far (p := ⟨gb140, 0, none⟩) (by first | (rw [add_block]; exact hn143_0) | (show (Addr.add _ _).block ≠ _; rw [add_block]; exact hn143_0) | exact hn143_0) (.int .i64 ((rd_T51 (rd_L2 l1 x23_2) (rd x2_1 x23_2)).f0))).trans hx143_1; replace hx143_0 := (cell_far (p := ⟨gb140, 1, none⟩) (by first | (rw [add_block]; exact hn143_1) | (show (Addr.add _ _).block ≠ _; rw [add_block]; exact hn143_1) | exact hn143_1) (.int .i64 ((rd_T51 (rd_L2 l1 x23_2) (rd x2_1 x23_2)).f1))).trans hx143_0; replace hx143_1 := (cell_far (p := ⟨gb140, 1, none⟩) (by first | (rw [add_block]; exact hn143_1) | (show (Addr.add _ _).block ≠ _; rw [add_block]; exact hn143_1) | exact hn143_1) (.int .i64 ((rd_T51 (rd_L2 l1 x23_2) (rd x2_1 x23_2)).f1))).trans hx143_1; (try have hy143_0 := fun (n_ : Nat) => (show ((((w42.drewN n_).setCell ⟨gb140, 0, none⟩ (.int .i64 ((rd_T51 (rd_L2 l1 x23_2) (rd x2_1 x23_2)).f0))).setCell ⟨gb140, 1, none⟩ (.int .i64 ((rd_T51 (rd_L2 l1 x23_2) (rd x2_1 x23_2)).f1)))).cell? _ = some _ from hx143_0)); (try have hy143_1 := fun (n_ : Nat) => (show ((((w42.drewN n_).setCell ⟨gb140, 0, none⟩ (.int .i64 ((rd_T51 (rd_L2 l1 x23_2) (rd x2_1 x23_2)).f0))).setCell ⟨gb140, 1, none⟩ (.int .i64 ((rd_T51 (rd_L2 l1 x23_2) (rd x2_1 x23_2)).f1)))).cell? _ = some _ from hx143_1)); clear hn143_0; clear hn143_1; replace p143 := eq_true p143; replace q143 := eq_true q143))
            repeat (go_quiet (first | ((with_reducible refine gate_dst (N := 12) rfl ?_); refine be_ #[.int .i64 0, .int .i64 0] 51 ?_; intro gb140 hg w42 hbox hb; replace HO_2 := rb_ HO_2 hb; replace HO_21 := rb_ HO_21 hb; have BK140 := Aside0.mk (hbox); have GW140 := gw_ hg; have GE140 := gw_ hg; replace HB := hb_ hb; have NB130_140 := nl_ hg BK130; have NB140_130 := sy_ NB130_140; replace BK130 := bb_ BK130 hb; clear hb hbox hg; have hnb43 := NB140_130.out; have hnc43 := NB130_140.out; have hcz44_0 := bc_ BK140 0 (.int .i64 0); have hcz44_1 := bc_ BK140 1 (.int .i64 0); have hfz44_0 := bz_ BK140 0; have hfz44_1 := bz_ BK140 1; have p141 : 0 ≤ (x9_2 : Int) := od_; have q141 : x9_2 < (l1.length : Int) := od_; obtain ⟨ad141, A141_0, c141_0, e141, hx141_0, hl141_0, hi141_0⟩ := at_L2 HR1.out x9_2 p141 q141; obtain rfl : ad138 = ad141 := (by injection e141); have hn141_0 : ad138.block ≠ gb140 := Nat.ne_of_lt (Nat.lt_of_lt_of_le (by have := World.block_lt_of_cell? _ _ hx141_0; first | rwa [add_block] at this | exact this) GW140.out); have hn141_1 : ad138.block ≠ gb140 := Nat.ne_of_lt (Nat.lt_of_lt_of_le (by have := World.block_lt_of_cell? _ _ hx141_0; first | rwa [add_block] at this | exact this) GW140.out); replace hx141_0 := hc_ HB hx141_0; have HR141_0 := Aside0.mk hi141_0; have HC141_0 := Aside0.mk hl141_0; clear hi141_0 hl141_0; replace hx141_0 := (cell_far (p := ⟨gb140, 0, none⟩) (by first | (rw [add_block]; exact hn141_0) | (show (Addr.add _ _).block ≠ _; rw [add_block]; exact hn141_0) | exact hn141_0) (.int .i64 ((rd_T51 (rd_L2 l1 x23_2) (rd x2_1 x23_2)).f0))).trans hx141_0; replace hx141_0 := (cell_far (p := ⟨gb140, 1, none⟩) (by first | (rw [add_block]; exact hn141_1) | (show (Addr.add _ _).block ≠ _; rw [add_block]; exact hn141_1) | exact hn141_1) (.int .i64 ((rd_T51 (rd_L2 l1 x23_2) (rd x2_1 x23_2)).f1))).trans hx141_0; (try have hy141_0 := fun (n_ : Nat) => (show ((((w42.drewN n_).setCell ⟨gb140, 0, none⟩ (.int .i64 ((rd_T51 (rd_L2 l1 x23_2) (rd x2_1 x23_2)).f0))).setCell ⟨gb140, 1, none⟩ (.int .i64 ((rd_T51 (rd_L2 l1 x23_2) (rd x2_1 x23_2)).f1)))).cell? _ = some _ from hx141_0)); clear hn141_0; clear hn141_1; replace p141 := eq_true p141; replace q141 := eq_true q141; have p142 : 0 ≤ (x9_2 : Int) := od_; have q142 : x9_2 < (x2_1.length : Int) := od_; obtain ⟨ad142, e142, hx142_0⟩ := Kd.at_int (Kd.R_reads' HO_2.out).2.2 x9_2 p142 q142; obtain rfl : ad136 = ad142 := (by injection e142); have hn142_0 : ad136.block ≠ gb140 := Kd.own_blk (Kd.R_ne HO_2.out BK140.out (by decide)); have hn142_1 : ad136.block ≠ gb140 := Kd.own_blk (Kd.R_ne HO_2.out BK140.out (by decide)); replace hx142_0 := (cell_far (p := ⟨gb140, 0, none⟩) (by first | (rw [add_block]; exact hn142_0) | (show (Addr.add _ _).block ≠ _; rw [add_block]; exact hn142_0) | exact hn142_0) (.int .i64 ((rd_T51 (rd_L2 l1 x23_2) (rd x2_1 x23_2)).f0))).trans hx142_0; replace hx142_0 := (cell_far (p := ⟨gb140, 1, none⟩) (by first | (rw [add_block]; exact hn142_1) | (show (Addr.add _ _).block ≠ _; rw [add_block]; exact hn142_1) | exact hn142_1) (.int .i64 ((rd_T51 (rd_L2 l1 x23_2) (rd x2_1 x23_2)).f1))).trans hx142_0; (try have hy142_0 := fun (n_ : Nat) => (show ((((w42.drewN n_).setCell ⟨gb140, 0, none⟩ (.int .i64 ((rd_T51 (rd_L2 l1 x23_2) (rd x2_1 x23_2)).f0))).setCell ⟨gb140, 1, none⟩ (.int .i64 ((rd_T51 (rd_L2 l1 x23_2) (rd x2_1 x23_2)).f1)))).cell? _ = some _ from hx142_0)); clear hn142_0; clear hn142_1; replace p142 := eq_true p142; replace q142 := eq_true q142; have p143 : 0 ≤ ((rd x2_1 x9_2) : Int) := od_; have q143 : (rd x2_1 x9_2) < ((rd_L2 l1 x9_2).length : Int) := od_; obtain ⟨ad143, e143, hx143_0, hx143_1⟩ := at_T51 HR141_0.out (rd x2_1 x9_2) p143 q143; cases e143; have hn143_0 : ad143.block ≠ gb140 := Nat.ne_of_lt (Nat.lt_of_lt_of_le (by have := World.block_lt_of_cell? _ _ hx143_0; first | rwa [add_block] at this | exact this) GW140.out); have hn143_1 : ad143.block ≠ gb140 := Nat.ne_of_lt (Nat.lt_of_lt_of_le (by have := World.block_lt_of_cell? _ _ hx143_0; first | rwa [add_block] at this | exact this) GW140.out); replace hx143_0 := hc_ HB hx143_0; replace hx143_1 := hc_ HB hx143_1; replace hx143_0 := (cell_far (p := ⟨gb140, 0, none⟩) (by first | (rw [add_block]; exact hn143_0) | (show (Addr.add _ _).block ≠ _; rw [add_block]; exact hn143_0) | exact hn143_0) (.int .i64 ((rd_T51 (rd_L2 l1 x23_2) (rd x2_1 x23_2)).f0))).trans hx143_0; replace hx143_1 := (cell_far (p := ⟨gb140, 0, none⟩) (by first | (rw [add_block]; exact hn143_0) | (show (Addr.add _ _).block ≠ _; rw [add_block]; exact hn143_0) | exact hn143_0) (.int .i64 ((rd_T51 (rd_L2 l1 x23_2) (rd x2_1 x23_2)).f0))).trans hx143_1; replace hx143_0 := (cell_far (p := ⟨gb140, 1, none⟩) (by first | (rw [add_block]; exact hn143_1) | (show (Addr.add _ _).block ≠ _; rw [add_block]; exact hn143_1) | exact hn143_1) (.int .i64 ((rd_T51 (rd_L2 l1 x23_2) (rd x2_1 x23_2)).f1))).trans hx143_0; replace hx143_1 := (cell_far (p := ⟨gb140, 1, none⟩) (by first | (rw [add_block]; exact hn143_1) | (show (Addr.add _ _).block ≠ _; rw [add_block]; exact hn143_1) | exact hn143_1) (.int .i64 ((rd_T51 (rd_L2 l1 x23_2) (rd x2_1 x23_2)).f1))).trans hx143_1; (try have hy143_0 := fun (n_ : Nat) => (show ((((w42.drewN n_).setCell ⟨gb140, 0, none⟩ (.int .i64 ((rd_T51 (rd_L2 l1 x23_2) (rd x2_1 x23_2)).f0))).setCell ⟨gb140, 1, none⟩ (.int .i64 ((rd_T51 (rd_L2 l1 x23_2) (rd x2_1 x23_2)).f1)))).cell? _ = some _ from hx143_0)); (try have hy143_1 := fun (n_ : Nat) => (show ((((w42.drewN n_).setCell ⟨gb140, 0, none⟩ (.int .i64 ((rd_T51 (rd_L2 l1 x23_2) (rd x2_1 x23_2)).f0))).setCell ⟨gb140, 1, none⟩ (.int .i64 ((rd_T51 (rd_L2 l1 x23_2) (rd x2_1 x23_2)).f1)))).cell? _ = some _ from hx143_1)); clear hn143_0; clear hn143_1; replace p143 := eq_true p143; replace q143 := eq_true q143)); try go_wp2_with (first | ((with_reducible refine gate_dst (N := 12) rfl ?_); refine be_ #[.int .i64 0, .int .i64 0] 51 ?_; intro gb140 hg w42 hbox hb; replace HO_2 := rb_ HO_2 hb; replace HO_21 := rb_ HO_21 hb; have BK140 := Aside0.mk (hbox); have GW140 := gw_ hg; have GE140 := gw_ hg; replace HB := hb_ hb; have NB130_140 := nl_ hg BK130; have NB140_130 := sy_ NB130_140; replace BK130 := bb_ BK130 hb; clear hb hbox hg; have hnb43 := NB140_130.out; have hnc43 := NB130_140.out; have hcz44_0 := bc_ BK140 0 (.int .i64 0); have hcz44_1 := bc_ BK140 1 (.int .i64 0); have hfz44_0 := bz_ BK140 0; have hfz44_1 := bz_ BK140 1; have p141 : 0 ≤ (x9_2 : Int) := od_; have q141 : x9_2 < (l1.length : Int) := od_; obtain ⟨ad141, A141_0, c141_0, e141, hx141_0, hl141_0, hi141_0⟩ := at_L2 HR1.out x9_2 p141 q141; obtain rfl : ad138 = ad141 := (by injection e141); have hn141_0 : ad138.block ≠ gb140 := Nat.ne_of_lt (Nat.lt_of_lt_of_le (by have := World.block_lt_of_cell? _ _ hx141_0; first | rwa [add_block] at this | exact this) GW140.out); have hn141_1 : ad138.block ≠ gb140 := Nat.ne_of_lt (Nat.lt_of_lt_of_le (by have := World.block_lt_of_cell? _ _ hx141_0; first | rwa [add_block] at this | exact this) GW140.out); replace hx141_0 := hc_ HB hx141_0; have HR141_0 := Aside0.mk hi141_0; have HC141_0 := Aside0.mk hl141_0; clear hi141_0 hl141_0; replace hx141_0 := (cell_far (p := ⟨gb140, 0, none⟩) (by first | (rw [add_block]; exact hn141_0) | (show (Addr.add _ _).block ≠ _; rw [add_block]; exact hn141_0) | exact hn141_0) (.int .i64 ((rd_T51 (rd_L2 l1 x23_2) (rd x2_1 x23_2)).f0))).trans hx141_0; replace hx141_0 := (cell_far (p := ⟨gb140, 1, none⟩) (by first | (rw [add_block]; exact hn141_1) | (show (Addr.add _ _).block ≠ _; rw [add_block]; exact hn141_1) | exact hn141_1) (.int .i64 ((rd_T51 (rd_L2 l1 x23_2) (rd x2_1 x23_2)).f1))).trans hx141_0; (try have hy141_0 := fun (n_ : Nat) => (show ((((w42.drewN n_).setCell ⟨gb140, 0, none⟩ (.int .i64 ((rd_T51 (rd_L2 l1 x23_2) (rd x2_1 x23_2)).f0))).setCell ⟨gb140, 1, none⟩ (.int .i64 ((rd_T51 (rd_L2 l1 x23_2) (rd x2_1 x23_2)).f1)))).cell? _ = some _ from hx141_0)); clear hn141_0; clear hn141_1; replace p141 := eq_true p141; replace q141 := eq_true q141; have p142 : 0 ≤ (x9_2 : Int) := od_; have q142 : x9_2 < (x2_1.length : Int) := od_; obtain ⟨ad142, e142, hx142_0⟩ := Kd.at_int (Kd.R_reads' HO_2.out).2.2 x9_2 p142 q142; obtain rfl : ad136 = ad142 := (by injection e142); have hn142_0 : ad136.block ≠ gb140 := Kd.own_blk (Kd.R_ne HO_2.out BK140.out (by decide)); have hn142_1 : ad136.block ≠ gb140 := Kd.own_blk (Kd.R_ne HO_2.out BK140.out (by decide)); replace hx142_0 := (cell_far (p := ⟨gb140, 0, none⟩) (by first | (rw [add_block]; exact hn142_0) | (show (Addr.add _ _).block ≠ _; rw [add_block]; exact hn142_0) | exact hn142_0) (.int .i64 ((rd_T51 (rd_L2 l1 x23_2) (rd x2_1 x23_2)).f0))).trans hx142_0; replace hx142_0 := (cell_far (p := ⟨gb140, 1, none⟩) (by first | (rw [add_block]; exact hn142_1) | (show (Addr.add _ _).block ≠ _; rw [add_block]; exact hn142_1) | exact hn142_1) (.int .i64 ((rd_T51 (rd_L2 l1 x23_2) (rd x2_1 x23_2)).f1))).trans hx142_0; (try have hy142_0 := fun (n_ : Nat) => (show ((((w42.drewN n_).setCell ⟨gb140, 0, none⟩ (.int .i64 ((rd_T51 (rd_L2 l1 x23_2) (rd x2_1 x23_2)).f0))).setCell ⟨gb140, 1, none⟩ (.int .i64 ((rd_T51 (rd_L2 l1 x23_2) (rd x2_1 x23_2)).f1)))).cell? _ = some _ from hx142_0)); clear hn142_0; clear hn142_1; replace p142 := eq_true p142; replace q142 := eq_true q142; have p143 : 0 ≤ ((rd x2_1 x9_2) : Int) := od_; have q143 : (rd x2_1 x9_2) < ((rd_L2 l1 x9_2).length : Int) := od_; obtain ⟨ad143, e143, hx143_0, hx143_1⟩ := at_T51 HR141_0.out (rd x2_1 x9_2) p143 q143; cases e143; have hn143_0 : ad143.block ≠ gb140 := Nat.ne_of_lt (Nat.lt_of_lt_of_le (by have := World.block_lt_of_cell? _ _ hx143_0; first | rwa [add_block] at this | exact this) GW140.out); have hn143_1 : ad143.block ≠ gb140 := Nat.ne_of_lt (Nat.lt_of_lt_of_le (by have := World.block_lt_of_cell? _ _ hx143_0; first | rwa [add_block] at this | exact this) GW140.out); replace hx143_0 := hc_ HB hx143_0; replace hx143_1 := hc_ HB hx143_1; replace hx143_0 := (cell_far (p := ⟨gb140, 0, none⟩) (by first | (rw [add_block]; exact hn143_0) | (show (Addr.add _ _).block ≠ _; rw [add_block]; exact hn143_0) | exact hn143_0) (.int .i64 ((rd_T51 (rd_L2 l1 x23_2) (rd x2_1 x23_2)).f0))).trans hx143_0; replace hx143_1 := (cell_far (p := ⟨gb140, 0, none⟩) (by first | (rw [add_block]; exact hn143_0) | (show (Addr.add _ _).block ≠ _; rw [add_block]; exact hn143_0) | exact hn143_0) (.int .i64 ((rd_T51 (rd_L2 l1 x23_2) (rd x2_1 x23_2)).f0))).trans hx143_1; replace hx143_0 := (cell_far (p := ⟨gb140, 1, none⟩) (by first | (rw [add_block]; exact hn143_1) | (show (Addr.add _ _).block ≠ _; rw [add_block]; exact hn143_1) | exact hn143_1) (.int .i64 ((rd_T51 (rd_L2 l1 x23_2) (rd x2_1 x23_2)).f1))).trans hx143_0; replace hx143_1 := (cell_far (p := ⟨gb140, 1, none⟩) (by first | (rw [add_block]; exact hn143_1) | (show (Addr.add _ _).block ≠ _; rw [add_block]; exact hn143_1) | exact hn143_1) (.int .i64 ((rd_T51 (rd_L2 l1 x23_2) (rd x2_1 x23_2)).f1))).trans hx143_1; (try have hy143_0 := fun (n_ : Nat) => (show ((((w42.drewN n_).setCell ⟨gb140, 0, none⟩ (.int .i64 ((rd_T51 (rd_L2 l1 x23_2) (rd x2_1 x23_2)).f0))).setCell ⟨gb140, 1, none⟩ (.int .i64 ((rd_T51 (rd_L2 l1 x23_2) (rd x2_1 x23_2)).f1)))).cell? _ = some _ from hx143_0)); (try have hy143_1 := fun (n_ : Nat) => (show ((((w42.drewN n_).setCell ⟨gb140, 0, none⟩ (.int .i64 ((rd_T51 (rd_L2 l1 x23_2) (rd x2_1 x23_2)).f0))).setCell ⟨gb140, 1, none⟩ (.int .i64 ((rd_T51 (rd_L2 l1 x23_2) (rd x2_1 x23_2)).f1)))).cell? _ = some _ from hx143_1)); clear hn143_0; clear hn143_1; replace p143 := eq_true p143; replace q143 := eq_true q143)))
            go_roundg k2
            case measure => have := HK1.out; have := HK2.out; omega
            case rel => exact ⟨(x9_2), (wrap64 (x23_2 + 1)), rs_, rs_, H', ⟨by have := HK1.out; have := HK2.out; omega⟩, ⟨by refine kr_ ?_; exact Kd.R_mono (Kd.R_far (p := ⟨gb140, 1, none⟩) (Kd.R_far (p := ⟨gb140, 0, none⟩) (Kd.R_types HO_2.out BK140.out (by decide)) (fun _ hk => hk.2) (.int .i64 ((rd_T51 (rd_L2 l1 x23_2) (rd x2_1 x23_2)).f0))) (fun _ hk => hk.2) (.int .i64 ((rd_T51 (rd_L2 l1 x23_2) (rd x2_1 x23_2)).f1))) (fun _ hk => trivial)⟩, ⟨by refine kr_ ?_; exact Kd.R_mono (Kd.R_far (p := ⟨gb140, 1, none⟩) (Kd.R_far (p := ⟨gb140, 0, none⟩) (Kd.R_types HO_21.out BK140.out (by decide)) (fun _ hk => hk.2) (.int .i64 ((rd_T51 (rd_L2 l1 x23_2) (rd x2_1 x23_2)).f0))) (fun _ hk => hk.2) (.int .i64 ((rd_T51 (rd_L2 l1 x23_2) (rd x2_1 x23_2)).f1))) (fun _ hk => trivial)⟩, ⟨by refine bk_ ?_; refine blk_far ?_ NB130_140.out _; refine bk_ ?_; refine blk_far ?_ NB130_140.out _; refine bk_ ?_; exact BK130.out⟩, ⟨bl_⟩⟩
         ·rw [if_neg c25] at H
          have c25b0 : decide (((rd_T51 (rd_L2 l1 x23_2) (rd x2_1 x23_2)).f0) ≤ x3_1) = false := decide_eq_false c25
          clear c25
          have H' := Aside0.mk H
          clear H
          obtain ⟨ad136, e136, hx136_0, p136, q136⟩ := ai_ (Kd.R_reads' HO_21.out).2.2 x23_2
          cases e136
          have hcz45_0 := bc_ BK130 0 (.slice A0_0 l0_0.length c0_0)
          have hcz45_1 := bc_ BK130 1 (.int .i64 a0_1)
          have hfz45_0 := bz_ BK130 0
          have hfz45_1 := bz_ BK130 1
          obtain ⟨ad137, e137, hx137_0, p137, q137⟩ := ai_ HR0_0.out x23_2
          cases e137
          replace hx137_0 := hc_ HB hx137_0
          have p138 : 0 ≤ (x23_2 : Int) := od_
          have q138 : x23_2 < (l1.length : Int) := od_
          obtain ⟨ad138, A138_0, c138_0, e138, hx138_0, hl138_0, hi138_0⟩ := at_L2 HR1.out x23_2 p138 q138
          cases e138
          replace hx138_0 := hc_ HB hx138_0
          have HR138_0 := Aside0.mk hi138_0
          have HC138_0 := Aside0.mk hl138_0
          clear hi138_0 hl138_0
          replace p138 := eq_true p138
          replace q138 := eq_true q138
          have p139 : 0 ≤ ((rd x2_1 x23_2) : Int) := od_
          have q139 : (rd x2_1 x23_2) < ((rd_L2 l1 x23_2).length : Int) := od_
          obtain ⟨ad139, e139, hx139_0, hx139_1⟩ := at_T51 HR138_0.out (rd x2_1 x23_2) p139 q139
          cases e139
          replace hx139_0 := hc_ HB hx139_0
          replace hx139_1 := hc_ HB hx139_1
          replace p139 := eq_true p139
          replace q139 := eq_true q139
          go_wp2_with (first | ((with_reducible refine gate_dst (N := 12) rfl ?_); refine be_ #[.int .i64 0, .int .i64 0] 51 ?_; intro gb140 hg w46 hbox hb; replace HO_2 := rb_ HO_2 hb; replace HO_21 := rb_ HO_21 hb; have BK140 := Aside0.mk (hbox); have GW140 := gw_ hg; have GE140 := gw_ hg; replace HB := hb_ hb; have NB130_140 := nl_ hg BK130; have NB140_130 := sy_ NB130_140; replace BK130 := bb_ BK130 hb; clear hb hbox hg; have hnb47 := NB140_130.out; have hnc47 := NB130_140.out; have hcz48_0 := bc_ BK140 0 (.int .i64 0); have hcz48_1 := bc_ BK140 1 (.int .i64 0); have hfz48_0 := bz_ BK140 0; have hfz48_1 := bz_ BK140 1))
          repeat (go_quiet (first | ((with_reducible refine gate_dst (N := 12) rfl ?_); refine be_ #[.int .i64 0, .int .i64 0] 51 ?_; intro gb140 hg w46 hbox hb; replace HO_2 := rb_ HO_2 hb; replace HO_21 := rb_ HO_21 hb; have BK140 := Aside0.mk (hbox); have GW140 := gw_ hg; have GE140 := gw_ hg; replace HB := hb_ hb; have NB130_140 := nl_ hg BK130; have NB140_130 := sy_ NB130_140; replace BK130 := bb_ BK130 hb; clear hb hbox hg; have hnb47 := NB140_130.out; have hnc47 := NB130_140.out; have hcz48_0 := bc_ BK140 0 (.int .i64 0); have hcz48_1 := bc_ BK140 1 (.int .i64 0); have hfz48_0 := bz_ BK140 0; have hfz48_1 := bz_ BK140 1)); try go_wp2_with (first | ((with_reducible refine gate_dst (N := 12) rfl ?_); refine be_ #[.int .i64 0, .int .i64 0] 51 ?_; intro gb140 hg w46 hbox hb; replace HO_2 := rb_ HO_2 hb; replace HO_21 := rb_ HO_21 hb; have BK140 := Aside0.mk (hbox); have GW140 := gw_ hg; have GE140 := gw_ hg; replace HB := hb_ hb; have NB130_140 := nl_ hg BK130; have NB140_130 := sy_ NB130_140; replace BK130 := bb_ BK130 hb; clear hb hbox hg; have hnb47 := NB140_130.out; have hnc47 := NB130_140.out; have hcz48_0 := bc_ BK140 0 (.int .i64 0); have hcz48_1 := bc_ BK140 1 (.int .i64 0); have hfz48_0 := bz_ BK140 0; have hfz48_1 := bz_ BK140 1)))
          go_roundg k2
          case measure => have := HK1.out; have := HK2.out; omega
          case rel => exact ⟨(x9_2), (wrap64 (x23_2 + 1)), rs_, rs_, H', ⟨by have := HK1.out; have := HK2.out; omega⟩, ⟨by refine kr_ ?_; exact Kd.R_mono (Kd.R_far (p := ⟨gb140, 1, none⟩) (Kd.R_far (p := ⟨gb140, 0, none⟩) (Kd.R_types HO_2.out BK140.out (by decide)) (fun _ hk => hk.2) (.int .i64 ((rd_T51 (rd_L2 l1 x23_2) (rd x2_1 x23_2)).f0))) (fun _ hk => hk.2) (.int .i64 ((rd_T51 (rd_L2 l1 x23_2) (rd x2_1 x23_2)).f1))) (fun _ hk => trivial)⟩, ⟨by refine kr_ ?_; exact Kd.R_mono (Kd.R_far (p := ⟨gb140, 1, none⟩) (Kd.R_far (p := ⟨gb140, 0, none⟩) (Kd.R_types HO_21.out BK140.out (by decide)) (fun _ hk => hk.2) (.int .i64 ((rd_T51 (rd_L2 l1 x23_2) (rd x2_1 x23_2)).f0))) (fun _ hk => hk.2) (.int .i64 ((rd_T51 (rd_L2 l1 x23_2) (rd x2_1 x23_2)).f1))) (fun _ hk => trivial)⟩, ⟨by refine bk_ ?_; refine blk_far ?_ NB130_140.out _; refine bk_ ?_; refine blk_far ?_ NB130_140.out _; refine bk_ ?_; exact BK130.out⟩, ⟨bl_⟩⟩
      ·rw [if_neg c11] at H
       have c11b0 : decide (x23_2 < (x2_1.length : Int)) = false := decide_eq_false c11
       clear c11
       by_cases c49 : x9_2 < 0
       ·rw [if_pos c49] at H
        have c49b0 : decide (x9_2 < 0) = true := decide_eq_true c49
        clear c49
        obtain rfl := Option.some.inj H
        go_wp2
        repeat (go_quiet (fail); try go_wp2)
        go_ret
        exact ⟨er_, bl_⟩
       ·rw [if_neg c49] at H
        have c49b0 : decide (x9_2 < 0) = false := decide_eq_false c49
        clear c49
        obtain ⟨c50b0, H⟩ := fp_ H
        obtain ⟨c51b0, H⟩ := fp_ H
        obtain ⟨y135, hy135⟩ : ∃ y_ : List Int, y_ = (x2_1.set (x9_2 : Int).toNat (wrap64 ((rd x2_1 x9_2) + 1))) := ⟨_, rfl⟩
        replace H : (turn_table_fits.l0 k2 l1 y135 (wrap64 (x3_1 + 1)) l0_0 a0_1) = some r := by first | (rw [hy135]; with_reducible exact H) | (have H2_ := (Option.bind_some _ _).symm.trans H; rw [hy135]; with_reducible exact H2_) | (have H2_ := (Option.bind_some _ _).symm.trans H; with_reducible exact H2_) | with_reducible exact H | (rw [hy135]; exact H) | exact H
        have Ny135 := Aside0.mk hy135
        clear hy135
        have H' := Aside0.mk H
        clear H
        obtain ⟨ad134, e134, hx134_0, p134, q134⟩ := ai_ (Kd.R_reads' HO_2.out).2.2 x9_2
        cases e134
        have p52 : 0 ≤ (x9_2 : Int) := od_
        have q52 : (x9_2 : Int) < ((x2_1.length : Int) : Int) := od_
        obtain ⟨go52, co52, eo52, gb52, gl52, cl52, HG52⟩ := Kd.R_form HO_2.out (by omega)
        (first | cases eo52 | (injection eo52 with ea_ en_ ec_; (first | subst ea_ | (injection ea_ with ea_; subst ea_)); subst ec_; clear en_))
        have GB52 := Aside0.mk gb52
        have GG52 := Aside0.mk HG52
        clear gb52 gl52 HG52
        (first | simp only [add_plain] at hx134_0 | skip)
        obtain ⟨hx52_0, hf52_0⟩ := Kd.R_celln 0 HO_2.out (x9_2 : Int) p52 q52
        replace p52 := eq_true p52
        replace q52 := eq_true q52
        have HP53 := Kd.R_putg HO_2.out (x9_2 : Int) (wrap64 ((rd x2_1 x9_2) + 1))
        go_wp2_with (first | ((with_reducible refine gate_store (t := 3) (p := 81) rfl ?_); (try (rw [drewN_self wr]; generalize hq_ : World.drewN wr _ = wr; replace HO_2 := Aside0.mk (Kd.R_at hq_ HO_2.out); replace HO_21 := Aside0.mk (Kd.R_at hq_ HO_21.out); replace BK130 := Aside0.mk (blk_at hq_ BK130.out); replace HB := Aside0.mk (below_at hq_ HB.out); clear hq_; (try (have HP53 := Kd.R_putg HO_2.out (x9_2 : Int) (wrap64 ((rd x2_1 x9_2) + 1)))))); refine store_event (t := 3) (p := 81) (v := ?vo_w54) (w1 := (wr.setCell ⟨go52, (x9_2 : Int).toNat, none⟩ (.int .i64 (wrap64 ((rd x2_1 x9_2) + 1))))) ?hg ?ho ?hn ?hr ?_; (case ho => rfl); (case hg => rfl); (case hn => rfl); (case hr => first | (go_simp; done) | (go_simp; rfl)); intro w54 hw; have hg : wr.grownBy w54 (some go52) := (by rw [hw]; exact HP53.2); have hp_ : Kd.R (Kd.int .i64) 3 w54 w.heap.size (fun _ => True) (.slice (some ⟨go52, 0, none⟩) x2_1.length co10) y135 := (by rw [hw, Ny135.out]; exact HP53.1); clear HP53; replace HO_21 := Aside0.mk (Kd.R_over' (v := (.slice (some ⟨go52, 0, none⟩) x2_1.length co10)) (kr_ HO_21.out) (Kd.R_typed HO_2.out) (by decide) hg); replace BK130 := Aside0.mk (blk_grown (g := gb130) (o := .cells #[.slice A0_0 l0_0.length c0_0, .int .i64 a0_1] 60 (0, 0)) (bk_ BK130.out) hg (Kd.R_ne HO_2.out BK130.out (by decide))); replace HO_2 := Aside0.mk (hp_); replace HB := Aside0.mk ((by rw [hw]; exact below_set (HB.out) GB52.out : Below w.heap.size w w54)); clear hg hw hp_))
        repeat (go_quiet (first | ((with_reducible refine gate_store (t := 3) (p := 81) rfl ?_); (try (rw [drewN_self wr]; generalize hq_ : World.drewN wr _ = wr; replace HO_2 := Aside0.mk (Kd.R_at hq_ HO_2.out); replace HO_21 := Aside0.mk (Kd.R_at hq_ HO_21.out); replace BK130 := Aside0.mk (blk_at hq_ BK130.out); replace HB := Aside0.mk (below_at hq_ HB.out); clear hq_; (try (have HP53 := Kd.R_putg HO_2.out (x9_2 : Int) (wrap64 ((rd x2_1 x9_2) + 1)))))); refine store_event (t := 3) (p := 81) (v := ?vo_w54) (w1 := (wr.setCell ⟨go52, (x9_2 : Int).toNat, none⟩ (.int .i64 (wrap64 ((rd x2_1 x9_2) + 1))))) ?hg ?ho ?hn ?hr ?_; (case ho => rfl); (case hg => rfl); (case hn => rfl); (case hr => first | (go_simp; done) | (go_simp; rfl)); intro w54 hw; have hg : wr.grownBy w54 (some go52) := (by rw [hw]; exact HP53.2); have hp_ : Kd.R (Kd.int .i64) 3 w54 w.heap.size (fun _ => True) (.slice (some ⟨go52, 0, none⟩) x2_1.length co10) y135 := (by rw [hw, Ny135.out]; exact HP53.1); clear HP53; replace HO_21 := Aside0.mk (Kd.R_over' (v := (.slice (some ⟨go52, 0, none⟩) x2_1.length co10)) (kr_ HO_21.out) (Kd.R_typed HO_2.out) (by decide) hg); replace BK130 := Aside0.mk (blk_grown (g := gb130) (o := .cells #[.slice A0_0 l0_0.length c0_0, .int .i64 a0_1] 60 (0, 0)) (bk_ BK130.out) hg (Kd.R_ne HO_2.out BK130.out (by decide))); replace HO_2 := Aside0.mk (hp_); replace HB := Aside0.mk ((by rw [hw]; exact below_set (HB.out) GB52.out : Below w.heap.size w w54)); clear hg hw hp_)); try go_wp2_with (first | ((with_reducible refine gate_store (t := 3) (p := 81) rfl ?_); (try (rw [drewN_self wr]; generalize hq_ : World.drewN wr _ = wr; replace HO_2 := Aside0.mk (Kd.R_at hq_ HO_2.out); replace HO_21 := Aside0.mk (Kd.R_at hq_ HO_21.out); replace BK130 := Aside0.mk (blk_at hq_ BK130.out); replace HB := Aside0.mk (below_at hq_ HB.out); clear hq_; (try (have HP53 := Kd.R_putg HO_2.out (x9_2 : Int) (wrap64 ((rd x2_1 x9_2) + 1)))))); refine store_event (t := 3) (p := 81) (v := ?vo_w54) (w1 := (wr.setCell ⟨go52, (x9_2 : Int).toNat, none⟩ (.int .i64 (wrap64 ((rd x2_1 x9_2) + 1))))) ?hg ?ho ?hn ?hr ?_; (case ho => rfl); (case hg => rfl); (case hn => rfl); (case hr => first | (go_simp; done) | (go_simp; rfl)); intro w54 hw; have hg : wr.grownBy w54 (some go52) := (by rw [hw]; exact HP53.2); have hp_ : Kd.R (Kd.int .i64) 3 w54 w.heap.size (fun _ => True) (.slice (some ⟨go52, 0, none⟩) x2_1.length co10) y135 := (by rw [hw, Ny135.out]; exact HP53.1); clear HP53; replace HO_21 := Aside0.mk (Kd.R_over' (v := (.slice (some ⟨go52, 0, none⟩) x2_1.length co10)) (kr_ HO_21.out) (Kd.R_typed HO_2.out) (by decide) hg); replace BK130 := Aside0.mk (blk_grown (g := gb130) (o := .cells #[.slice A0_0 l0_0.length c0_0, .int .i64 a0_1] 60 (0, 0)) (bk_ BK130.out) hg (Kd.R_ne HO_2.out BK130.out (by decide))); replace HO_2 := Aside0.mk (hp_); replace HB := Aside0.mk ((by rw [hw]; exact below_set (HB.out) GB52.out : Below w.heap.size w w54)); clear hg hw hp_)))
        go_roundg k2
        case measure => have := HK1.out; have := HK2.out; omega
        case rel => exact ⟨(y135), (wrap64 (x3_1 + 1)), rs_, H', ⟨by have := HK1.out; have := HK2.out; omega⟩, ⟨by refine kr_ ?_; first | exact HO_2.out | (rw [Ny135.out]; exact HP53.1)⟩, ⟨by refine bk_ ?_; first | exact BK130.out | exact blk_far BK130.out (by intro h_; subst h_; have z_ := GG52.out.symm.trans BK130.out; simp at z_) _⟩, ⟨bl_⟩⟩
   ·rw [if_neg c8] at H
    have c8b0 : decide (x3_1 < a0_1) = false := decide_eq_false c8
    clear c8
    obtain rfl := Option.some.inj H
    have hcz55_0 := bc_ BK130 0 (.slice A0_0 l0_0.length c0_0)
    have hcz55_1 := bc_ BK130 1 (.int .i64 a0_1)
    have hfz55_0 := bz_ BK130 0
    have hfz55_1 := bz_ BK130 1
    go_wp2
    repeat (go_quiet (fail); try go_wp2)
    go_ret
    exact ⟨er_, bl_⟩

/-! ### turn_table_feasible: function 62 -/
def turn_table_feasible.f (k : Nat) (l0_0 : List Int) (a0_1 : Int) (a1_0 : Int) (a1_1 : Int) : Option (Bool) := (turn_table_windows.f k l0_0 a0_1 a1_0 a1_1).bind fun t146 => (if 0 ≤ (l0_0.length : Int) then (if ((l0_0.length : Int) : Int).toNat ≤ 35184372088832 then ((turn_table_fits.f k l0_0 a0_1 t146 (List.replicate ((l0_0.length : Int) : Int).toNat 0) 0).bind fun t152 => (some t152)) else (none)) else (none))
theorem turn_table_feasible.mono : ∀ a0 a1 a2 a3 k, LeO (turn_table_feasible.f k a0 a1 a2 a3) (turn_table_feasible.f (k + 1) a0 a1 a2 a3) := by
  intro a0 a1 a2 a3 k
  unfold turn_table_feasible.f
  with_reducible repeat' first | exact turn_table_fits.mono _ _ _ _ _ _ | exact turn_table_windows.mono _ _ _ _ _ | exact LeO.refl _ | exact LeO.none _ | refine LeO.ite ?_ ?_ | refine LeO.bind ?_ (fun _ => ?_)
def turn_table_feasible.T1 : Bool × List (List Nat × List Nat) := (true, [([], []), ([], []), ([], []), ([1, 2], [1, 2]), ([], []), ([4], [4]), ([5], [5]), ([6, 6], [6]), ([0, 3, 7, 3], [0, 3, 7]), ([8, 8, 0, 1, 2, 3, 4, 5, 6, 7, 8], [8])])
def turn_table_feasible.B1 : List Nat := [0, 0, 0, 6, 0, 16, 48, 112, 255, 511]
theorem turn_table_feasible.tab1 : rtab .any (opsOf Tryd.f62 1) = turn_table_feasible.T1 := by kernel_rfl
theorem turn_table_feasible.bits1 : waitsOk turn_table_feasible.T1.2 turn_table_feasible.B1 = true := by kernel_rfl
set_option maxHeartbeats 8000000 in
set_option maxRecDepth 100000 in
theorem turn_table_feasible.calls (k : Nat) (A0_0 : Option Addr) (c0_0 : Nat) (l0_0 : List Int) (a0_1 : Int) (a1_0 : Int) (a1_1 : Int) (r : Bool) (w : World) (hr0_0 : Kd.C (Kd.int .i64) w A0_0 l0_0.length l0_0) (hc0_0 : l0_0.length ≤ c0_0) (h : turn_table_feasible.f k l0_0 a0_1 a1_0 a1_1 = some r) (hN0 : NoneLaid w) :
    Calls Tryd.prog 62 #[.agg #[.slice A0_0 l0_0.length c0_0, .int .i64 a0_1], .agg #[.int .i64 a1_0, .int .i64 a1_1]] w fun e w' => e = .returned (.bool r) ∧ Below w.heap.size w w' := by
 have HN := Aside0.mk hN0
 clear hN0
 have hu60 := Tryd.underlying60
 have hu26 := Tryd.underlying26
 have HR0_0 := Aside0.mk hr0_0
 have HC0_0 := Aside0.mk hc0_0
 clear hr0_0 hc0_0
 have HB := Aside0.mk (Below.refl w.heap.size w)
 have H : ((turn_table_windows.f k l0_0 a0_1 a1_0 a1_1).bind fun t146 => (if 0 ≤ (l0_0.length : Int) then (if ((l0_0.length : Int) : Int).toNat ≤ 35184372088832 then ((turn_table_fits.f k l0_0 a0_1 t146 (List.replicate ((l0_0.length : Int) : Int).toNat 0) 0).bind fun t152 => (some t152)) else (none)) else (none))) = some r := h
 clear h
 obtain ⟨t146, A3, H⟩ := bi_ H
 replace H : (if 0 ≤ (l0_0.length : Int) then (if ((l0_0.length : Int) : Int).toNat ≤ 35184372088832 then ((turn_table_fits.f k l0_0 a0_1 t146 (List.replicate ((l0_0.length : Int) : Int).toNat 0) 0).bind fun t152 => (some t152)) else (none)) else (none)) = some r := H
 have c4 : 0 ≤ (l0_0.length : Int) := fl_ fun c4 => by rw [if_neg c4] at H; exact absurd H (by simp)
 rw [if_pos c4] at H
 have c4b0 := eq_true c4
 have c4b1 : decide (0 ≤ (l0_0.length : Int)) = true := decide_eq_true c4
 clear c4
 have c5 : ((l0_0.length : Int) : Int).toNat ≤ 35184372088832 := fl_ fun c5 => by rw [if_neg c5] at H; exact absurd H (by simp)
 rw [if_pos c5] at H
 have c5b0 := eq_true c5
 have c5b1 : decide (((l0_0.length : Int) : Int).toNat ≤ 35184372088832) = true := decide_eq_true c5
 clear c5
 obtain ⟨y149, hy149⟩ : ∃ y_ : List Int, y_ = (List.replicate ((l0_0.length : Int) : Int).toNat 0) := ⟨_, rfl⟩
 replace H : ((turn_table_fits.f k l0_0 a0_1 t146 y149 0).bind fun t152 => (some t152)) = some r := by first | (rw [hy149]; with_reducible exact H) | (have H2_ := (Option.bind_some _ _).symm.trans H; rw [hy149]; with_reducible exact H2_) | (have H2_ := (Option.bind_some _ _).symm.trans H; with_reducible exact H2_) | with_reducible exact H | (rw [hy149]; exact H) | exact H
 have Ny149 := Aside0.mk hy149
 clear hy149
 obtain ⟨t152, A6, H⟩ := bi_ H
 replace H : (some t152) = some r := H
 obtain rfl := Option.some.inj H
 go_enter Tryd.func62, Tryd.ntmps62
 try go_wp2_with (first | ((with_reducible refine gate_dst (N := 2) rfl ?_); refine be_ #[.slice A0_0 l0_0.length c0_0, .int .i64 a0_1] 60 ?_; intro gb144 hg w7 hbox hb; have BK144 := Aside0.mk (hbox); have GW144 := gw_ hg; have GE144 := gw_ hg; replace HB := hb_ hb; clear hb hbox hg) | ((with_reducible refine gate_dst (N := 3) rfl ?_); refine be_ #[.int .i64 a1_0, .int .i64 a1_1] 26 ?_; intro gb145 hg w8 hbox hb; have BK145 := Aside0.mk (hbox); have GW145 := gw_ hg; have GE145 := gw_ hg; replace HB := hb_ hb; have NB144_145 := nl_ hg BK144; have NB145_144 := sy_ NB144_145; replace BK144 := bb_ BK144 hb; clear hb hbox hg))
 replace BK144 := Aside0.mk (blk_drew BK144.out)
 replace BK145 := Aside0.mk (blk_drew BK145.out)
 replace HB := Aside0.mk (below_drew1 HB.out)
 refine start_ (n := 10) (S := fun w' => w'.cell? ⟨gb144, 0, none⟩ = some (.slice A0_0 l0_0.length c0_0) ∧ w'.cell? ⟨gb144, 1, none⟩ = some (.int .i64 a0_1) ∧ w'.cell? ⟨gb145, 0, none⟩ = some (.int .i64 a1_0) ∧ w'.cell? ⟨gb145, 1, none⟩ = some (.int .i64 a1_1)) (ds := []) #[false, false, false, false, false, false, false, false, false, false] (by kernel_rfl) rfl rfl ⟨(blk_cell BK144.out 0).trans rfl, (blk_cell BK144.out 1).trans rfl, (blk_cell BK145.out 0).trans rfl, (blk_cell BK145.out 1).trans rfl⟩ (fun hHeld => ?_); refine with_tabW turn_table_feasible.tab1 turn_table_feasible.bits1 (fun HT_ HW_ => ?_)
 generalize w8.drew = w9 at BK144 BK145 HB hHeld ⊢
 refine pu_ 4 9 HT_.out (h := ?_)
 refine ta_ 0 5 HT_.out HW_.out hHeld (h := ?_)
 refine ta_ 1 6 HT_.out HW_.out hHeld (h := ?_)
 refine ta_ 2 7 HT_.out HW_.out hHeld (h := ?_)
 refine ta_ 5 10 HT_.out HW_.out hHeld (h := ?_)
 refine pu_ 6 11 HT_.out (h := ?_)
 refine join_ (σ := Value × Value) 2 #[true, true, true, true, true, true, true, true, false, false] (fun s_ => [(8, s_.1), (12, s_.2)]) (fun s_ w' => (w'.cell? ⟨gb144, 0, none⟩ = some (.slice A0_0 l0_0.length c0_0) ∧ w'.cell? ⟨gb144, 1, none⟩ = some (.int .i64 a0_1) ∧ w'.cell? ⟨gb145, 0, none⟩ = some (.int .i64 a1_0) ∧ w'.cell? ⟨gb145, 1, none⟩ = some (.int .i64 a1_1)) ∧ (Kd.S (Kd.slice 51 k51) 49 w' w.heap.size (fun _ => True) s_.1 t146) ∧ (Kd.R (Kd.int .i64) 3 w' w.heap.size (fun _ => True) s_.2 y149) ∧ (w'.heap[gb144]? = some (.cells #[.slice A0_0 l0_0.length c0_0, .int .i64 a0_1] 60 (0, 0))) ∧ (w'.heap[gb145]? = some (.cells #[.int .i64 a1_0, .int .i64 a1_1] 26 (0, 0))) ∧ (Below w.heap.size w w')) ?_ ?_
 rotate_left
 ·intro hCont
  refine two_ (i := 3) (j := 7) (Ni := some 8) (Nj := some 12) #[true, true, true, true, true, true, true, false, false, false] #[true, true, true, false, true, true, true, true, false, false] rfl rfl rfl rfl (two_of HT_.out (by kernel_rfl)) (by decide) (by decide) (fun K hK => ?_) (fun K hK => ?_)
  ·skip
   refine goes_ Tryd.func46 (by kernel_rfl) rfl #[.agg #[.slice A0_0 l0_0.length c0_0, .int .i64 a0_1], .agg #[.int .i64 a1_0, .int .i64 a1_1]] (by rfl) rfl rfl (as_) ?_
   with_reducible refine (turn_table_windows.calls k _ _ l0_0 a0_1 a1_0 a1_1 t146 _ ?side1 ?side2 A3.out (HN.out.of (bl_))).mono ?_
   (case side1 => exact cb_ HR0_0.out)
   (case side2 => exact HC0_0.out)
   rintro e w10 ⟨v147, rfl, ho0, hb⟩
   refine ⟨_, rfl, ?_⟩
   have HO148 := Aside0.mk (Kd.S_lower ho0 (below_size (bl_)))
   replace BK144 := bb_ BK144 hb
   replace BK145 := bb_ BK145 hb
   replace HB := hb_ hb
   clear hb ho0
   refine hK.out _ _ ⟨(blk_cell BK144.out 0).trans rfl, (blk_cell BK144.out 1).trans rfl, (blk_cell BK145.out 0).trans rfl, (blk_cell BK145.out 1).trans rfl⟩ (fun hHeld => ?_)
   clear hK K
   refine np_ 8 (h := ?_)
   refine one_ (i := 7) (N := some 12) #[true, true, true, true, true, true, true, true, false, false] rfl rfl (one_of HT_.out (by kernel_rfl)) (by decide) (fun K hK => ?_)
   refine Kd.R_make_step (Kd.int .i64) _ 3 (by rfl) (N := 12) rfl 22 _ _ rfl (l0_0.length : Int) rfl rfl Tryd.underlying22 (.int .i64 0) 8 info3 rfl (by decide) (by omega) 0 (ok := fun _ => True) (okp := fun _ => True) rfl (fun _ hk => hk) trivial (od_) (Nat.le_trans (Nat.mul_le_mul_right _ (od_ : (l0_0.length : Int).toNat ≤ 35184372088832)) (by omega)) (Below.refl _ _) (Nat.le_refl _) ?_
   intro v150 w11 ho12 hb hg_ hnew_
   clear hg_ hnew_
   (first | rw [← Ny149.out] at ho12 | (simp only [Int.reduceToNat] at ho12; rw [← Ny149.out] at ho12))
   replace HO148 := Aside0.mk (Kd.S_below (ks_ HO148.out) hb)
   have HO151 := rl_ ho12
   replace BK144 := bb_ BK144 hb
   replace BK145 := bb_ BK145 hb
   replace HB := hb_ hb
   clear hb ho12
   refine hK.out _ _ ⟨(blk_cell BK144.out 0).trans rfl, (blk_cell BK144.out 1).trans rfl, (blk_cell BK145.out 0).trans rfl, (blk_cell BK145.out 1).trans rfl⟩ (fun hHeld => ?_)
   clear hK K
   refine np_ 12 (h := ?_)
   exact norm_ (by simp only [putAll, Act.put, List.setIfInBounds_toArray, List.set_cons_zero, List.set_cons_succ]) (hCont (v147, v150) _ ⟨hHeld, (ks_ HO148.out), (kr_ HO151.out), (bk_ BK144.out), (bk_ BK145.out), (bl_)⟩)
  ·skip
   refine Kd.R_make_step (Kd.int .i64) _ 3 (by rfl) (N := 12) rfl 22 _ _ rfl (l0_0.length : Int) rfl rfl Tryd.underlying22 (.int .i64 0) 8 info3 rfl (by decide) (by omega) 0 (ok := fun _ => True) (okp := fun _ => True) rfl (fun _ hk => hk) trivial (od_) (Nat.le_trans (Nat.mul_le_mul_right _ (od_ : (l0_0.length : Int).toNat ≤ 35184372088832)) (by omega)) (Below.refl _ _) (Nat.le_refl _) ?_
   intro v150 w10 ho11 hb hg_ hnew_
   clear hg_ hnew_
   (first | rw [← Ny149.out] at ho11 | (simp only [Int.reduceToNat] at ho11; rw [← Ny149.out] at ho11))
   have HO151 := rl_ ho11
   replace BK144 := bb_ BK144 hb
   replace BK145 := bb_ BK145 hb
   replace HB := hb_ hb
   clear hb ho11
   refine hK.out _ _ ⟨(blk_cell BK144.out 0).trans rfl, (blk_cell BK144.out 1).trans rfl, (blk_cell BK145.out 0).trans rfl, (blk_cell BK145.out 1).trans rfl⟩ (fun hHeld => ?_)
   clear hK K
   refine np_ 12 (h := ?_)
   refine one_ (i := 3) (N := some 8) #[true, true, true, true, true, true, true, true, false, false] rfl rfl (one_of HT_.out (by kernel_rfl)) (by decide) (fun K hK => ?_)
   refine goes_ Tryd.func46 (by kernel_rfl) rfl #[.agg #[.slice A0_0 l0_0.length c0_0, .int .i64 a0_1], .agg #[.int .i64 a1_0, .int .i64 a1_1]] (by rfl) rfl rfl (as_) ?_
   with_reducible refine (turn_table_windows.calls k _ _ l0_0 a0_1 a1_0 a1_1 t146 _ ?side1 ?side2 A3.out (HN.out.of (bl_))).mono ?_
   (case side1 => exact cb_ HR0_0.out)
   (case side2 => exact HC0_0.out)
   rintro e w12 ⟨v147, rfl, ho0, hb⟩
   refine ⟨_, rfl, ?_⟩
   replace HO151 := rb_ HO151 hb
   have HO148 := Aside0.mk (Kd.S_lower ho0 (below_size (bl_)))
   replace BK144 := bb_ BK144 hb
   replace BK145 := bb_ BK145 hb
   replace HB := hb_ hb
   clear hb ho0
   refine hK.out _ _ ⟨(blk_cell BK144.out 0).trans rfl, (blk_cell BK144.out 1).trans rfl, (blk_cell BK145.out 0).trans rfl, (blk_cell BK145.out 1).trans rfl⟩ (fun hHeld => ?_)
   clear hK K
   refine np_ 8 (h := ?_)
   exact norm_ (by simp only [putAll, Act.put, List.setIfInBounds_toArray, List.set_cons_zero, List.set_cons_succ]) (hCont (v147, v150) _ ⟨hHeld, (ks_ HO148.out), (kr_ HO151.out), (bk_ BK144.out), (bk_ BK145.out), (bl_)⟩)
 rintro ⟨v147, v150⟩ w13 ⟨hS_, h0_, h1_, h2_, h3_, h4_⟩
 have HO148 : Aside0 (Kd.S (Kd.slice 51 k51) 49 w13 w.heap.size (fun _ => True) v147 t146) := ⟨h0_⟩
 have HO151 : Aside0 (Kd.R (Kd.int .i64) 3 w13 w.heap.size (fun _ => True) v150 y149) := ⟨h1_⟩
 replace BK144 : Aside0 (w13.heap[gb144]? = some (.cells #[.slice A0_0 l0_0.length c0_0, .int .i64 a0_1] 60 (0, 0))) := ⟨h2_⟩
 replace BK145 : Aside0 (w13.heap[gb145]? = some (.cells #[.int .i64 a1_0, .int .i64 a1_1] 26 (0, 0))) := ⟨h3_⟩
 replace HB : Aside0 (Below w.heap.size w w13) := ⟨h4_⟩
 clear h0_ h1_ h2_ h3_ h4_
 have hHeld : w13.cell? ⟨gb144, 0, none⟩ = some (.slice A0_0 l0_0.length c0_0) ∧ w13.cell? ⟨gb144, 1, none⟩ = some (.int .i64 a0_1) ∧ w13.cell? ⟨gb145, 0, none⟩ = some (.int .i64 a1_0) ∧ w13.cell? ⟨gb145, 1, none⟩ = some (.int .i64 a1_1) := hS_
 obtain ⟨Ao14, co14, eo14⟩ := Kd.S_slice HO148.out
 (first | subst eo14 | (injection eo14 with f1_ f2_ f3_; have f4_ := f1_.symm; have f5_ := f3_.symm; clear f1_ f2_ f3_; subst f4_; subst f5_))
 obtain ⟨Ao15, co15, eo15⟩ := Kd.R_slice HO151.out
 (first | subst eo15 | (injection eo15 with f1_ f2_ f3_; have f4_ := f1_.symm; have f5_ := f3_.symm; clear f1_ f2_ f3_; subst f4_; subst f5_))
 refine norm_ (a' := ?_) ?_ ?_
 rotate_left
 ·simp only [putAll, Act.put, List.setIfInBounds_toArray, List.set_cons_zero, List.set_cons_succ]
  rfl
 refine one_ (i := 8) (N := some 13) #[true, true, true, true, true, true, true, true, true, false] rfl rfl (one_of HT_.out (by kernel_rfl)) (by decide) (fun K hK => ?_)
 refine goes_ Tryd.func47 (by kernel_rfl) rfl #[.agg #[.slice A0_0 l0_0.length c0_0, .int .i64 a0_1], .slice Ao14 t146.length co14, .slice Ao15 y149.length co15, .int .i64 0] (by rfl) rfl rfl (as_) ?_
 with_reducible refine (turn_table_fits.calls k _ _ l0_0 a0_1 _ _ t146 _ _ y149 0 t152 _ ?side1 ?side2 ?side3 ?side4 ?side5 ?side6 A6.out).mono ?_
 (case side1 => exact cb_ HR0_0.out)
 (case side2 => exact HC0_0.out)
 (case side3 => repeat (first | exact (Kd.S_reads' HO148.out).2.2 | (with_reducible refine Kd.C_alloc ?_ _) | (with_reducible refine Kd.C_drewN ?_ _) | (with_reducible refine Kd.C_drew ?_)))
 (case side4 => exact (Kd.S_reads' HO148.out).2.1)
 (case side5 => exact cr_ HO151.out)
 (case side6 => exact (Kd.R_reads' HO151.out).2.1)
 rintro e w16 ⟨rfl, hb⟩
 refine ⟨_, rfl, ?_⟩
 replace HO148 := Aside0.mk (Kd.S_below (ks_ HO148.out) hb)
 replace HO151 := rb_ HO151 hb
 replace BK144 := bb_ BK144 hb
 replace BK145 := bb_ BK145 hb
 replace HB := hb_ hb
 clear hb
 refine hK.out _ _ ⟨(blk_cell BK144.out 0).trans rfl, (blk_cell BK144.out 1).trans rfl, (blk_cell BK145.out 0).trans rfl, (blk_cell BK145.out 1).trans rfl⟩ (fun hHeld => ?_)
 clear hK K
 refine np_ 13 (h := ?_)
 refine pu_ 9 4 HT_.out (h := ?_)
 refine done_ (done_of HT_.out (by kernel_rfl)) ?_
 try go_wp2
 go_ret
 exact ⟨er_, bl_⟩

end Go.Proofs.YtgobffgogmnmpaaDoor.P
