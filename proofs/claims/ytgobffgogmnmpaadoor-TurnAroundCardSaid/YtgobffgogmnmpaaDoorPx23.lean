-- Written by wip/tools/myprint.py of this session's repo, over the kit's printer and hand texts.
import Derived.Test.YtgobffgogmnmpaaDoorPx0
import Derived.Test.YtgobffgogmnmpaaDoorPre
import Derived.Test.YtgobffgogmnmpaaDoorPx3
import Derived.Test.YtgobffgogmnmpaaDoorPx8
import Derived.Test.YtgobffgogmnmpaaDoorPx10
namespace Go.Proofs.YtgobffgogmnmpaaDoor.P
open Go.RowKit Go.Proofs.YtgobffgogmnmpaaDoorW.PrintWords Go.Proofs.YtgobffgogmnmpaaDoorW.PrintLast Go.Proofs.YtgobffgogmnmpaaDoorW.PrintMore
attribute [local go_sem] max2_int min2_int max_two min_two max_three min_three max_four min_four   -- for this text's walks alone
set_option linter.unusedVariables false
set_option linter.unusedSimpArgs false

/-! ### turn_Greedy_1: function 58 -/
def turn_Greedy_1.l0 : Nat → Int → List Int → Int → List Int → Int → Int → List Int → Int → Option (Int)
  | 0, _, _, _, _, _, _, _, _ => none
  | k + 1, x1, x2, x7, x10, x11, x12, x545000, x545001 => if x12 < x11 then (if 0 ≤ x12 then (if x12 < (x10.length : Int) then ((turn_table_owed.f x545000 x545001 x12 x1 (rd x10 x12)).bind fun t546 => (if 0 ≤ x7 then (if x7 < (x2.length : Int) then ((turn_table_owed.f x545000 x545001 x7 x1 (rd x2 x7)).bind fun t548 => (if t546 > t548 then (turn_Greedy_1.l0 k x1 x2 x12 x10 x11 (wrap64 (x12 + 1)) x545000 x545001) else (turn_Greedy_1.l0 k x1 x2 x7 x10 x11 (wrap64 (x12 + 1)) x545000 x545001))) else (none)) else (none))) else (none)) else (none)) else (some x7)
def turn_Greedy_1.f (k : Nat) (l0_0 : List Int) (a0_1 : Int) (a1 : Int) (l2 : List Int) : Option (Int) := turn_Greedy_1.l0 k a1 l2 0 l2 (l2.length : Int) 0 l0_0 a0_1
theorem turn_Greedy_1.mono_l : ∀ k, (∀ y0 y1 y2 y3 y4 y5 y6 y7, LeO (turn_Greedy_1.l0 k y0 y1 y2 y3 y4 y5 y6 y7) (turn_Greedy_1.l0 (k + 1) y0 y1 y2 y3 y4 y5 y6 y7))
  | 0 => fun _ _ _ _ _ _ _ _ r h => by simp [turn_Greedy_1.l0] at h
  | k + 1 => by
    have ih0 := turn_Greedy_1.mono_l k
    · intro y0 y1 y2 y3 y4 y5 y6 y7
      unfold turn_Greedy_1.l0
      repeat' first
      | (with_reducible exact ih0 _ _ _ _ _ _ _ _)
      | (with_reducible exact LeO.refl _)
      | (with_reducible exact LeO.none _)
      | (with_reducible refine LeO.ite ?_ ?_)
      | (with_reducible refine LeO.bind ?_ (fun _ => ?_))
      | exact ih0 _ _ _ _ _ _ _ _
      | exact LeO.none _
      | refine LeO.ite ?_ ?_
      | refine LeO.bind ?_ (fun _ => ?_)
theorem turn_Greedy_1.mono : ∀ a0 a1 a2 a3 k, LeO (turn_Greedy_1.f k a0 a1 a2 a3) (turn_Greedy_1.f (k + 1) a0 a1 a2 a3) := by
  intro a0 a1 a2 a3 k
  have ih0 := turn_Greedy_1.mono_l k
  unfold turn_Greedy_1.f
  repeat' first
      | (with_reducible exact ih0 _ _ _ _ _ _ _ _)
      | (with_reducible exact LeO.refl _)
      | (with_reducible exact LeO.none _)
      | (with_reducible refine LeO.ite ?_ ?_)
      | (with_reducible refine LeO.bind ?_ (fun _ => ?_))
      | exact ih0 _ _ _ _ _ _ _ _
      | exact LeO.none _
      | refine LeO.ite ?_ ?_
      | refine LeO.bind ?_ (fun _ => ?_)
def turn_Greedy_1.T5 : Bool × List (List Nat × List Nat) := (true, [([], []), ([], []), ([], []), ([], []), ([0, 1, 2, 3], [0, 1, 2, 3]), ([], []), ([], []), ([], []), ([], []), ([], []), ([8, 9], [8, 9]), ([10], [10]), ([5, 6, 7, 11, 4], [5, 6, 7, 11]), ([4, 12], [4, 12])])
def turn_Greedy_1.B5 : List Nat := [0, 0, 0, 0, 15, 0, 0, 0, 0, 0, 768, 1792, 4095, 8191]
theorem turn_Greedy_1.tab5 : rtab .any (opsOf Tryd.f58 5) = turn_Greedy_1.T5 := by kernel_rfl
theorem turn_Greedy_1.bits5 : waitsOk turn_Greedy_1.T5.2 turn_Greedy_1.B5 = true := by kernel_rfl
set_option maxHeartbeats 8000000 in
set_option maxRecDepth 100000 in
theorem turn_Greedy_1.calls (k : Nat) (A0_0 : Option Addr) (c0_0 : Nat) (l0_0 : List Int) (a0_1 : Int) (a1 : Int) (A2 : Option Addr) (c2 : Nat) (l2 : List Int) (r : Int) (w : World) (hr0_0 : Kd.C (Kd.int .i64) w A0_0 l0_0.length l0_0) (hc0_0 : l0_0.length ≤ c0_0) (hr2 : Kd.C (Kd.int .i64) w A2 l2.length l2) (hc2 : l2.length ≤ c2) (h : turn_Greedy_1.f k l0_0 a0_1 a1 l2 = some r) :
    Calls Tryd.prog 58 #[.agg #[.slice A0_0 l0_0.length c0_0, .int .i64 a0_1], .int .i64 a1, .slice A2 l2.length c2] w fun e w' => e = .returned (.int .i64 r) ∧ Below w.heap.size w w' := by
 have hu60 := Tryd.underlying60
 have HR0_0 := Aside0.mk hr0_0
 have HC0_0 := Aside0.mk hc0_0
 clear hr0_0 hc0_0
 have HR2 := Aside0.mk hr2
 have HC2 := Aside0.mk hc2
 clear hr2 hc2
 have HB := Aside0.mk (Below.refl w.heap.size w)
 have H : (turn_Greedy_1.l0 k a1 l2 0 l2 (l2.length : Int) 0 l0_0 a0_1) = some r := h
 clear h
 have H' := Aside0.mk H
 clear H
 go_enter Tryd.func58, Tryd.ntmps58
 go_wp2_with (first | ((with_reducible refine gate_dst (N := 3) rfl ?_); refine box_event ?hg (N := 3) ?hd (cs := #[.slice A0_0 l0_0.length c0_0, .int .i64 a0_1]) (t := 60) ?hr ?_; (case hd => rfl); (case hg => rfl); (case hr => first | (go_simp; done) | (go_simp; rfl)); intro gb544 hg w4 hbox hb; have n0_ := Aside0.mk (below_step (bl_) hb); have n1_ := Aside0.mk (hbox); have n2_ := Aside0.mk ((by rw [hg]; exact (below_size (bl_)) : w.heap.size ≤ gb544)); have n3_ := Aside0.mk ((by rw [hg]; exact (below_size (bl_)) : w.heap.size ≤ gb544)); clear HB; have HB := n0_; have BK544 := n1_; have GW544 := n2_; have GE544 := n3_; clear n0_ n1_ n2_ n3_; clear hb hbox hg))
 go_loopg [7, 12] k (fun kq v7 v12 w' => ∃ (x7_1 : Int) (x12_1 : Int), v7 = .int .i64 x7_1 ∧ v12 = .int .i64 x12_1 ∧ Aside0 (turn_Greedy_1.l0 kq a1 l2 x7_1 l2 (l2.length : Int) x12_1 l0_0 a0_1 = some r) ∧ Aside0 (kq ≤ k) ∧ Aside0 (w'.heap[gb544]? = some (.cells #[(.slice A0_0 l0_0.length c0_0), .int .i64 a0_1] 60 (0, 0))) ∧ Aside0 (Below w.heap.size w w'))
 case atStart => exact ⟨(0), (0), (by first | rfl | (simp; done) | (simp [*]; done)), (by first | rfl | (simp; done) | (simp [*]; done)), H', ⟨Nat.le_refl _⟩, ⟨bk_ BK544.out⟩, ⟨bl_⟩⟩
 case round =>
  clear H'
  try clear c2
  try clear p2
  obtain ⟨x7_1, x12_1, rfl, rfl, HA, HK1, BK544, HB⟩ := hrel
  cases gk with
  | zero => exact absurd HA.out (by simp [turn_Greedy_1.l0])
  | succ k1 =>
   have H := HA.out
   clear HA
   simp only [turn_Greedy_1.l0] at H
   by_cases c5 : x12_1 < (l2.length : Int)
   ·rw [if_pos c5] at H
    have c5b0 : decide (x12_1 < (l2.length : Int)) = true := decide_eq_true c5
    clear c5
    have c6 : 0 ≤ x12_1 := fl_ fun c6 => by rw [if_neg c6] at H; exact absurd H (by simp)
    rw [if_pos c6] at H
    have c6b0 : decide (0 ≤ x12_1) = true := decide_eq_true c6
    clear c6
    have c7 : x12_1 < (l2.length : Int) := fl_ fun c7 => by rw [if_neg c7] at H; exact absurd H (by simp)
    rw [if_pos c7] at H
    have c7b0 : decide (x12_1 < (l2.length : Int)) = true := decide_eq_true c7
    clear c7
    replace H := Option.bind_eq_some_iff.mp H
    obtain ⟨t546, A80, H⟩ := H
    replace H : (if 0 ≤ x7_1 then (if x7_1 < (l2.length : Int) then ((turn_table_owed.f l0_0 a0_1 x7_1 a1 (rd l2 x7_1)).bind fun t548 => (if t546 > t548 then (turn_Greedy_1.l0 k1 a1 l2 x12_1 l2 (l2.length : Int) (wrap64 (x12_1 + 1)) l0_0 a0_1) else (turn_Greedy_1.l0 k1 a1 l2 x7_1 l2 (l2.length : Int) (wrap64 (x12_1 + 1)) l0_0 a0_1))) else (none)) else (none)) = some r := H
    have A8 := Aside0.mk A80
    clear A80
    have c9 : 0 ≤ x7_1 := fl_ fun c9 => by rw [if_neg c9] at H; exact absurd H (by simp)
    rw [if_pos c9] at H
    have c9b0 : decide (0 ≤ x7_1) = true := decide_eq_true c9
    clear c9
    have c10 : x7_1 < (l2.length : Int) := fl_ fun c10 => by rw [if_neg c10] at H; exact absurd H (by simp)
    rw [if_pos c10] at H
    have c10b0 : decide (x7_1 < (l2.length : Int)) = true := decide_eq_true c10
    clear c10
    replace H := Option.bind_eq_some_iff.mp H
    obtain ⟨t548, A110, H⟩ := H
    replace H : (if t546 > t548 then (turn_Greedy_1.l0 k1 a1 l2 x12_1 l2 (l2.length : Int) (wrap64 (x12_1 + 1)) l0_0 a0_1) else (turn_Greedy_1.l0 k1 a1 l2 x7_1 l2 (l2.length : Int) (wrap64 (x12_1 + 1)) l0_0 a0_1)) = some r := H
    have A11 := Aside0.mk A110
    clear A110
    by_cases c12 : t546 > t548
    ·rw [if_pos c12] at H
     have c12b0 : decide (t548 < t546) = true := decide_eq_true c12
     clear c12
     have H' := Aside0.mk H
     clear H
     have p545 : 0 ≤ (x12_1 : Int) := od_
     have q545 : x12_1 < (l2.length : Int) := od_
     obtain ⟨ad545, e545, hx545_0⟩ := Kd.at_int HR2.out x12_1 p545 q545
     cases e545
     replace hx545_0 := (HB.out.cell (World.block_lt_of_cell? w _ hx545_0)).trans hx545_0
     replace p545 := eq_true p545
     replace q545 := eq_true q545
     try go_wp2
     have n0_ := Aside0.mk (blk_drew BK544.out)
     have n1_ := Aside0.mk (below_drew1 HB.out)
     clear BK544
     clear HB
     have BK544 := n0_
     have HB := n1_
     clear n0_ n1_
     have p547 : 0 ≤ (x7_1 : Int) := od_
     have q547 : x7_1 < (l2.length : Int) := od_
     obtain ⟨ad547, e547, hx547_0⟩ := Kd.at_int HR2.out x7_1 p547 q547
     have hw547_0 := hx547_0
     obtain rfl : ad545 = ad547 := (by injection e547)
     replace hx547_0 := (HB.out.cell (World.block_lt_of_cell? w _ hx547_0)).trans hx547_0
     replace p547 := eq_true p547
     replace q547 := eq_true q547
     refine start_ (n := 14) (S := fun w' => w'.cell? ⟨gb544, 0, none⟩ = some (.slice A0_0 l0_0.length c0_0) ∧ w'.cell? ⟨gb544, 1, none⟩ = some (.int .i64 a0_1) ∧ w'.cell? (ad545.add (x7_1).toNat) = some (.int .i64 (rd l2 x7_1))) (ds := []) #[false, false, false, false, false, false, false, false, false, false, false, false, false, false] (by kernel_rfl) rfl rfl ⟨(blk_cell BK544.out 0).trans rfl, (blk_cell BK544.out 1).trans rfl, ((HB.out.cell (World.block_lt_of_cell? w _ hw547_0)).trans hw547_0)⟩ (fun hHeld => ?_); refine with_tabW turn_Greedy_1.tab5 turn_Greedy_1.bits5 (fun HT_ HW_ => ?_)
     generalize wr.drew = w13 at BK544 HB hx547_0 hHeld ⊢
     refine pu_ 1 18 HT_.out (h := ?_)
     refine pu_ 2 19 HT_.out (h := ?_)
     refine pu_ 3 20 HT_.out (h := ?_)
     refine pu_ 6 23 HT_.out (h := ?_)
     refine pu_ 7 24 HT_.out (h := ?_)
     refine pu_ 8 25 HT_.out (h := ?_)
     refine pu_ 9 26 HT_.out (h := ?_)
     refine pu_ 10 27 HT_.out (h := ?_)
     refine ta_ 0 17 HT_.out HW_.out hHeld (h := ?_)
     refine ta_ 5 22 HT_.out HW_.out hHeld (h := ?_)
     refine ta_ 11 28 HT_.out HW_.out hHeld (h := ?_)
     refine one_ (i := 4) (N := some 21) #[true, true, true, true, true, true, true, true, true, true, true, true, false, false] rfl rfl (one_of HT_.out (by kernel_rfl)) (by decide) (fun K hK => ?_)
     refine goes_ Tryd.func57 (by kernel_rfl) rfl #[.agg #[.slice A0_0 l0_0.length c0_0, .int .i64 a0_1], .int .i64 x12_1, .int .i64 a1, .int .i64 (rd l2 x12_1)] (by rfl) rfl rfl (as_) ?_
     with_reducible refine (turn_table_owed.calls _ _ l0_0 a0_1 x12_1 a1 (rd l2 x12_1) t546 _ ?side1 ?side2 A8.out).mono ?_
     (case side1 => repeat (first | exact (Kd.C_below HR0_0.out HB.out) | (with_reducible refine Kd.C_alloc ?_ _) | (with_reducible refine Kd.C_drewN ?_ _) | (with_reducible refine Kd.C_drew ?_)))
     (case side2 => exact HC0_0.out)
     rintro e w14 ⟨rfl, hb⟩
     refine ⟨_, rfl, ?_⟩
     have n0_ := Aside0.mk (blk_below (g := gb544) (o := .cells #[.slice A0_0 l0_0.length c0_0, .int .i64 a0_1] 60 (0, 0)) (bk_ BK544.out) hb)
     have n1_ := Aside0.mk (below_step (bl_) hb)
     clear BK544
     clear HB
     have BK544 := n0_
     have HB := n1_
     clear n0_ n1_
     (try clear hb)
     (try clear hb2)
     (try clear hk)
     (try clear hi)
     refine hK.out _ _ ⟨(blk_cell BK544.out 0).trans rfl, (blk_cell BK544.out 1).trans rfl, ((HB.out.cell (World.block_lt_of_cell? w _ hw547_0)).trans hw547_0)⟩ (fun hHeld => ?_)
     clear hK K
     refine norm_ (a' := ?_) ?_ ?_
     rotate_left
     ·show Act.put _ (some 21) _ = _
      simp only [Act.put, List.setIfInBounds_toArray, List.set_cons_zero, List.set_cons_succ, i64_w, i32_w]
      rfl
     refine one_ (i := 12) (N := some 29) #[true, true, true, true, true, true, true, true, true, true, true, true, true, false] rfl rfl (one_of HT_.out (by kernel_rfl)) (by decide) (fun K hK => ?_)
     refine goes_ Tryd.func57 (by kernel_rfl) rfl #[.agg #[.slice A0_0 l0_0.length c0_0, .int .i64 a0_1], .int .i64 x7_1, .int .i64 a1, .int .i64 (rd l2 x7_1)] (by rfl) rfl rfl (as_) ?_
     with_reducible refine (turn_table_owed.calls _ _ l0_0 a0_1 x7_1 a1 (rd l2 x7_1) t548 _ ?side1 ?side2 A11.out).mono ?_
     (case side1 => repeat (first | exact (Kd.C_below HR0_0.out HB.out) | (with_reducible refine Kd.C_alloc ?_ _) | (with_reducible refine Kd.C_drewN ?_ _) | (with_reducible refine Kd.C_drew ?_)))
     (case side2 => exact HC0_0.out)
     rintro e w15 ⟨rfl, hb⟩
     refine ⟨_, rfl, ?_⟩
     have n0_ := Aside0.mk (blk_below (g := gb544) (o := .cells #[.slice A0_0 l0_0.length c0_0, .int .i64 a0_1] 60 (0, 0)) (bk_ BK544.out) hb)
     have n1_ := Aside0.mk (below_step (bl_) hb)
     clear BK544
     clear HB
     have BK544 := n0_
     have HB := n1_
     clear n0_ n1_
     (try clear hb)
     (try clear hb2)
     (try clear hk)
     (try clear hi)
     refine hK.out _ _ ⟨(blk_cell BK544.out 0).trans rfl, (blk_cell BK544.out 1).trans rfl, ((HB.out.cell (World.block_lt_of_cell? w _ hw547_0)).trans hw547_0)⟩ (fun hHeld => ?_)
     clear hK K
     refine norm_ (a' := ?_) ?_ ?_
     rotate_left
     ·show Act.put _ (some 29) _ = _
      simp only [Act.put, List.setIfInBounds_toArray, List.set_cons_zero, List.set_cons_succ, i64_w, i32_w]
      rfl
     refine pu_ 13 30 HT_.out (h := ?_)
     refine done_ (done_of HT_.out (by kernel_rfl)) ?_
     try go_wp2
     go_roundg k1
     case measure => have := HK1.out; omega
     case rel => exact ⟨(x12_1), (wrap64 (x12_1 + 1)), (by first | rfl | (simp; done) | (simp [*]; done)), (by first | rfl | (simp; done) | (simp [*]; done)), H', ⟨by have := HK1.out; omega⟩, ⟨bk_ BK544.out⟩, ⟨bl_⟩⟩
    ·rw [if_neg c12] at H
     have c12b0 : decide (t548 < t546) = false := decide_eq_false c12
     clear c12
     have H' := Aside0.mk H
     clear H
     have p545 : 0 ≤ (x12_1 : Int) := od_
     have q545 : x12_1 < (l2.length : Int) := od_
     obtain ⟨ad545, e545, hx545_0⟩ := Kd.at_int HR2.out x12_1 p545 q545
     cases e545
     replace hx545_0 := (HB.out.cell (World.block_lt_of_cell? w _ hx545_0)).trans hx545_0
     replace p545 := eq_true p545
     replace q545 := eq_true q545
     try go_wp2
     have n0_ := Aside0.mk (blk_drew BK544.out)
     have n1_ := Aside0.mk (below_drew1 HB.out)
     clear BK544
     clear HB
     have BK544 := n0_
     have HB := n1_
     clear n0_ n1_
     have p547 : 0 ≤ (x7_1 : Int) := od_
     have q547 : x7_1 < (l2.length : Int) := od_
     obtain ⟨ad547, e547, hx547_0⟩ := Kd.at_int HR2.out x7_1 p547 q547
     have hw547_0 := hx547_0
     obtain rfl : ad545 = ad547 := (by injection e547)
     replace hx547_0 := (HB.out.cell (World.block_lt_of_cell? w _ hx547_0)).trans hx547_0
     replace p547 := eq_true p547
     replace q547 := eq_true q547
     refine start_ (n := 14) (S := fun w' => w'.cell? ⟨gb544, 0, none⟩ = some (.slice A0_0 l0_0.length c0_0) ∧ w'.cell? ⟨gb544, 1, none⟩ = some (.int .i64 a0_1) ∧ w'.cell? (ad545.add (x7_1).toNat) = some (.int .i64 (rd l2 x7_1))) (ds := []) #[false, false, false, false, false, false, false, false, false, false, false, false, false, false] (by kernel_rfl) rfl rfl ⟨(blk_cell BK544.out 0).trans rfl, (blk_cell BK544.out 1).trans rfl, ((HB.out.cell (World.block_lt_of_cell? w _ hw547_0)).trans hw547_0)⟩ (fun hHeld => ?_); refine with_tabW turn_Greedy_1.tab5 turn_Greedy_1.bits5 (fun HT_ HW_ => ?_)
     generalize wr.drew = w16 at BK544 HB hx547_0 hHeld ⊢
     refine pu_ 1 18 HT_.out (h := ?_)
     refine pu_ 2 19 HT_.out (h := ?_)
     refine pu_ 3 20 HT_.out (h := ?_)
     refine pu_ 6 23 HT_.out (h := ?_)
     refine pu_ 7 24 HT_.out (h := ?_)
     refine pu_ 8 25 HT_.out (h := ?_)
     refine pu_ 9 26 HT_.out (h := ?_)
     refine pu_ 10 27 HT_.out (h := ?_)
     refine ta_ 0 17 HT_.out HW_.out hHeld (h := ?_)
     refine ta_ 5 22 HT_.out HW_.out hHeld (h := ?_)
     refine ta_ 11 28 HT_.out HW_.out hHeld (h := ?_)
     refine one_ (i := 4) (N := some 21) #[true, true, true, true, true, true, true, true, true, true, true, true, false, false] rfl rfl (one_of HT_.out (by kernel_rfl)) (by decide) (fun K hK => ?_)
     refine goes_ Tryd.func57 (by kernel_rfl) rfl #[.agg #[.slice A0_0 l0_0.length c0_0, .int .i64 a0_1], .int .i64 x12_1, .int .i64 a1, .int .i64 (rd l2 x12_1)] (by rfl) rfl rfl (as_) ?_
     with_reducible refine (turn_table_owed.calls _ _ l0_0 a0_1 x12_1 a1 (rd l2 x12_1) t546 _ ?side1 ?side2 A8.out).mono ?_
     (case side1 => repeat (first | exact (Kd.C_below HR0_0.out HB.out) | (with_reducible refine Kd.C_alloc ?_ _) | (with_reducible refine Kd.C_drewN ?_ _) | (with_reducible refine Kd.C_drew ?_)))
     (case side2 => exact HC0_0.out)
     rintro e w17 ⟨rfl, hb⟩
     refine ⟨_, rfl, ?_⟩
     have n0_ := Aside0.mk (blk_below (g := gb544) (o := .cells #[.slice A0_0 l0_0.length c0_0, .int .i64 a0_1] 60 (0, 0)) (bk_ BK544.out) hb)
     have n1_ := Aside0.mk (below_step (bl_) hb)
     clear BK544
     clear HB
     have BK544 := n0_
     have HB := n1_
     clear n0_ n1_
     (try clear hb)
     (try clear hb2)
     (try clear hk)
     (try clear hi)
     refine hK.out _ _ ⟨(blk_cell BK544.out 0).trans rfl, (blk_cell BK544.out 1).trans rfl, ((HB.out.cell (World.block_lt_of_cell? w _ hw547_0)).trans hw547_0)⟩ (fun hHeld => ?_)
     clear hK K
     refine norm_ (a' := ?_) ?_ ?_
     rotate_left
     ·show Act.put _ (some 21) _ = _
      simp only [Act.put, List.setIfInBounds_toArray, List.set_cons_zero, List.set_cons_succ, i64_w, i32_w]
      rfl
     refine one_ (i := 12) (N := some 29) #[true, true, true, true, true, true, true, true, true, true, true, true, true, false] rfl rfl (one_of HT_.out (by kernel_rfl)) (by decide) (fun K hK => ?_)
     refine goes_ Tryd.func57 (by kernel_rfl) rfl #[.agg #[.slice A0_0 l0_0.length c0_0, .int .i64 a0_1], .int .i64 x7_1, .int .i64 a1, .int .i64 (rd l2 x7_1)] (by rfl) rfl rfl (as_) ?_
     with_reducible refine (turn_table_owed.calls _ _ l0_0 a0_1 x7_1 a1 (rd l2 x7_1) t548 _ ?side1 ?side2 A11.out).mono ?_
     (case side1 => repeat (first | exact (Kd.C_below HR0_0.out HB.out) | (with_reducible refine Kd.C_alloc ?_ _) | (with_reducible refine Kd.C_drewN ?_ _) | (with_reducible refine Kd.C_drew ?_)))
     (case side2 => exact HC0_0.out)
     rintro e w18 ⟨rfl, hb⟩
     refine ⟨_, rfl, ?_⟩
     have n0_ := Aside0.mk (blk_below (g := gb544) (o := .cells #[.slice A0_0 l0_0.length c0_0, .int .i64 a0_1] 60 (0, 0)) (bk_ BK544.out) hb)
     have n1_ := Aside0.mk (below_step (bl_) hb)
     clear BK544
     clear HB
     have BK544 := n0_
     have HB := n1_
     clear n0_ n1_
     (try clear hb)
     (try clear hb2)
     (try clear hk)
     (try clear hi)
     refine hK.out _ _ ⟨(blk_cell BK544.out 0).trans rfl, (blk_cell BK544.out 1).trans rfl, ((HB.out.cell (World.block_lt_of_cell? w _ hw547_0)).trans hw547_0)⟩ (fun hHeld => ?_)
     clear hK K
     refine norm_ (a' := ?_) ?_ ?_
     rotate_left
     ·show Act.put _ (some 29) _ = _
      simp only [Act.put, List.setIfInBounds_toArray, List.set_cons_zero, List.set_cons_succ, i64_w, i32_w]
      rfl
     refine pu_ 13 30 HT_.out (h := ?_)
     refine done_ (done_of HT_.out (by kernel_rfl)) ?_
     try go_wp2
     go_roundg k1
     case measure => have := HK1.out; omega
     case rel => exact ⟨(x7_1), (wrap64 (x12_1 + 1)), (by first | rfl | (simp; done) | (simp [*]; done)), (by first | rfl | (simp; done) | (simp [*]; done)), H', ⟨by have := HK1.out; omega⟩, ⟨bk_ BK544.out⟩, ⟨bl_⟩⟩
   ·rw [if_neg c5] at H
    have c5b0 : decide (x12_1 < (l2.length : Int)) = false := decide_eq_false c5
    clear c5
    obtain rfl := Option.some.inj H
    go_wp2
    go_ret
    exact ⟨by first | rfl | (simp [errW_none, errW_some] <;> rfl) | (simp [*, errW_none, errW_some] <;> rfl), bl_⟩

/-! ### turn_called_G: function 112 -/
def turn_called_G.l0 : Nat → List Int → List Int → Int → Int → List Int → Int → Option (List Int × Int)
  | 0, _, _, _, _, _, _ => none
  | k + 1, x10, x11, x33, x34, x555000, x555001 => if x34 < x33 then ((turn_Greedy_1.f k x555000 x555001 (wrap64 (x34 + 1)) x10).bind fun t558 => (if 0 ≤ t558 then (if t558 < (x10.length : Int) then (if x11.length < 17592186044416 then (turn_called_G.l0 k (x10.set (t558 : Int).toNat (wrap64 ((rd x10 t558) + 1))) (x11 ++ [t558]) x33 (wrap64 (x34 + 1)) x555000 x555001) else (none)) else (none)) else (none))) else (some (x11, 0))
def turn_called_G.f (k : Nat) (l0 : List Int) (a1 : Int) : Option (List Int × Int) := (turn_read.f k l0).bind fun bt549 => (if bt549.2.2 = 0 then (if a1 < 0 then (some (([] : List Int), 2)) else (if a1 > 400 then (some (([] : List Int), 2)) else (if 0 ≤ (l0.length : Int) then (if ((l0.length : Int) : Int).toNat ≤ 35184372088832 then (turn_called_G.l0 k (List.replicate ((l0.length : Int) : Int).toNat 0) ([] : List Int) a1 0 bt549.1 bt549.2.1) else (none)) else (none)))) else (some (([] : List Int), bt549.2.2)))
theorem turn_called_G.mono_l : ∀ k, (∀ y0 y1 y2 y3 y4 y5, LeO (turn_called_G.l0 k y0 y1 y2 y3 y4 y5) (turn_called_G.l0 (k + 1) y0 y1 y2 y3 y4 y5))
  | 0 => fun _ _ _ _ _ _ r h => by simp [turn_called_G.l0] at h
  | k + 1 => by
    have ih0 := turn_called_G.mono_l k
    · intro y0 y1 y2 y3 y4 y5
      unfold turn_called_G.l0
      repeat' first
      | (with_reducible exact ih0 _ _ _ _ _ _)
      | (with_reducible exact turn_Greedy_1.mono _ _ _ _ _)
      | (with_reducible exact turn_read.mono _ _)
      | (with_reducible exact LeO.refl _)
      | (with_reducible exact LeO.none _)
      | (with_reducible refine LeO.ite ?_ ?_)
      | (with_reducible refine LeO.bind ?_ (fun _ => ?_))
      | exact ih0 _ _ _ _ _ _
      | exact turn_Greedy_1.mono _ _ _ _ _
      | exact turn_read.mono _ _
      | exact LeO.none _
      | refine LeO.ite ?_ ?_
      | refine LeO.bind ?_ (fun _ => ?_)
theorem turn_called_G.mono : ∀ a0 a1 k, LeO (turn_called_G.f k a0 a1) (turn_called_G.f (k + 1) a0 a1) := by
  intro a0 a1 k
  have ih0 := turn_called_G.mono_l k
  unfold turn_called_G.f
  repeat' first
      | (with_reducible exact ih0 _ _ _ _ _ _)
      | (with_reducible exact turn_Greedy_1.mono _ _ _ _ _)
      | (with_reducible exact turn_read.mono _ _)
      | (with_reducible exact LeO.refl _)
      | (with_reducible exact LeO.none _)
      | (with_reducible refine LeO.ite ?_ ?_)
      | (with_reducible refine LeO.bind ?_ (fun _ => ?_))
      | exact ih0 _ _ _ _ _ _
      | exact turn_Greedy_1.mono _ _ _ _ _
      | exact turn_read.mono _ _
      | exact LeO.none _
      | refine LeO.ite ?_ ?_
      | refine LeO.bind ?_ (fun _ => ?_)
/-- A call of a function value, as an arm of go_wp2_with. -/
theorem goesG_ {P : Program} {ops : Array Oper} {Q : Exit → Act → World → Prop} {rest : List Oper} {oi : Oper} {a : Act} {w : World} (N : Option Tmp) (hd : oi.dst = N) (hg : oi.guard = none) {f : FuncId} {fn : Func} {op : Operand} {xs : Array Operand} {ts : Array TypeId} {cap : Array Value} (hop : oi.op = .call { callee := .value op, args := xs, argTypes := ts }) (hv : a.eval op = .func (.func f) #[] cap) (hf : P.funcs[f]? = some fn) (hname : (fn.name == "runtime.NumGoroutine") = false) (hb : fn.body.isSome = true) (args : Array Value)
    (hargs : xs.map a.eval ++ cap = args)
    (h : Calls P f args w fun e w' => ∃ v, e = .returned v ∧ wpList P ops Q rest (a.put N v) w') : wpList P ops Q (oi :: rest) a w := by
  refine wpList_plain hg fun K hK => ?_
  have he := enters_ hf hname hb args w
  have hrun : (execOp a.eval oi).run P w = .ok (.enter f args) w := by
    unfold execOp
    have hv' : a.eval op = .func (.func f) #[] cap := hv
    simp [hop, resolve, Deferred.ofValue, invoke, Act.eval, ← hargs, he] at hv' ⊢
    simp [hv', invoke, Act.eval, hargs, he]
  unfold Oper.wp
  rw [hrun, Oper.upon_enter]
  refine h.mono fun e w'' hh => ?_
  obtain ⟨v, rfl, hk⟩ := hh
  subst hd
  exact hK _ _ hk
set_option maxHeartbeats 8000000 in
set_option maxRecDepth 100000 in
theorem turn_called_G.calls (k : Nat) (A0 : Option Addr) (c0 : Nat) (l0 : List Int) (a1 : Int) (r1 : List Int) (r2 : Int) (w : World) (hr0 : Kd.C (Kd.int .i64) w A0 l0.length l0) (hc0 : l0.length ≤ c0) (h : turn_called_G.f k l0 a1 = some (r1, r2)) :
    Calls Tryd.prog 55 #[.slice A0 l0.length c0, .int .i64 a1, .func (.func 58) #[] #[]] w fun e w' => ∃ v0_ : Value, e = .returned (.tuple #[v0_, .int .i64 r2]) ∧ Kd.R (Kd.int .i64) 3 w' w.heap.size (fun _ => True) v0_ r1 ∧ Below w.heap.size w w' := by
 have hu60 := Tryd.underlying60
 have HR0 := Aside0.mk hr0
 have HC0 := Aside0.mk hc0
 clear hr0 hc0
 have HB := Aside0.mk (Below.refl w.heap.size w)
 have H : ((turn_read.f k l0).bind fun bt549 => (if bt549.2.2 = 0 then (if a1 < 0 then (some (([] : List Int), 2)) else (if a1 > 400 then (some (([] : List Int), 2)) else (if 0 ≤ (l0.length : Int) then (if ((l0.length : Int) : Int).toNat ≤ 35184372088832 then (turn_called_G.l0 k (List.replicate ((l0.length : Int) : Int).toNat 0) ([] : List Int) a1 0 bt549.1 bt549.2.1) else (none)) else (none)))) else (some (([] : List Int), bt549.2.2)))) = some (r1, r2) := h
 clear h
 replace H := Option.bind_eq_some_iff.mp H
 obtain ⟨⟨t549, t552, t553⟩, A30, H⟩ := H
 replace H : (if t553 = 0 then (if a1 < 0 then (some (([] : List Int), 2)) else (if a1 > 400 then (some (([] : List Int), 2)) else (if 0 ≤ (l0.length : Int) then (if ((l0.length : Int) : Int).toNat ≤ 35184372088832 then (turn_called_G.l0 k (List.replicate ((l0.length : Int) : Int).toNat 0) ([] : List Int) a1 0 t549 t552) else (none)) else (none)))) else (some (([] : List Int), t553))) = some (r1, r2) := H
 have A3 := Aside0.mk A30
 clear A30
 by_cases c4 : t553 = 0
 ·rw [if_pos c4] at H
  have c4b0 : (t553 == 0) = true := beq_iff_eq.mpr c4
  have c4b1 : (t553 != 0) = false := bne_eq_false_iff_eq.mpr c4
  clear c4
  by_cases c5 : a1 < 0
  ·rw [if_pos c5] at H
   have c5b0 : decide (a1 < 0) = true := decide_eq_true c5
   clear c5
   simp only [Option.some.injEq, Prod.mk.injEq] at H
   obtain ⟨rfl, rfl⟩ := H
   go_enter Tryd.func55, Tryd.ntmps55
   go_wp2_with (first | ((with_reducible refine gate_callee (f := 43) rfl ?_); refine goesL_ (some 16) rfl rfl Tryd.func43 (by kernel_rfl) rfl #[.slice A0 l0.length c0] rfl (as_) ?_; (with_reducible refine (turn_read.calls k (fun k_ => k_ < w.heap.size) _ _ l0 t549 t552 t553 _ ?side1 A3.out).mono ?_); (case side1 => exact Kd.V_mk HC0.out (Kd.F_below (Kd.C_F (Kd.heap_int .i64) HR0.out) (bl_))); rintro e w6 ⟨v550, rfl, ho0, hb⟩; refine ⟨_, rfl, ?_⟩; have n0_ := Aside0.mk (Kd.V_lower (Kd.V_mono (ok' := fun k_ => True) ho0 (fun k_ hk_ => trivial)) (below_size (bl_))); have n1_ := Aside0.mk (below_step (bl_) hb); clear HB; have HO551 := n0_; have HB := n1_; clear n0_ n1_; (try clear hb); (try clear hb2); (try clear hk); (try clear hi); (try clear ho0)) | ((with_reducible refine gate_dst (N := 8) rfl ?_); refine box_event ?hg (N := 8) ?hd (cs := #[.slice none 0 0, .int .i64 0]) (t := 60) ?hr ?_; (case hd => rfl); (case hg => rfl); (case hr => first | (go_simp; done) | (go_simp; rfl)); intro gb554 hg w7 hbox hb; have n0_ := Aside0.mk (Kd.V_below (Kd.V_elderB (kv_ HO551.out) gb554 (Nat.le_of_eq hg.symm)) hb); have n1_ := Aside0.mk (below_step (bl_) hb); have n2_ := Aside0.mk (hbox); have n3_ := Aside0.mk ((by rw [hg]; exact (below_size (bl_)) : w.heap.size ≤ gb554)); have n4_ := Aside0.mk ((by rw [hg]; exact (below_size (bl_)) : w.heap.size ≤ gb554)); clear HO551; clear HB; have HO551 := n0_; have HB := n1_; have BK554 := n2_; have GW554 := n3_; have GE554 := n4_; clear n0_ n1_ n2_ n3_ n4_; clear hb hbox hg; obtain ⟨Ao8, co8, eo8⟩ := Kd.V_slice HO551.out; subst eo8; have hcz9_0 : w7.cell? ⟨gb554, 0, none⟩ = some (.slice none 0 0) := (blk_cell BK554.out 0).trans rfl; have hcz9_1 : w7.cell? ⟨gb554, 1, none⟩ = some (.int .i64 0) := (blk_cell BK554.out 1).trans rfl; have hfz9_0 := blk_frozen BK554.out 0; have hfz9_1 := blk_frozen BK554.out 1))
   go_ret2
   exact ⟨_, by first | rfl | (simp [errW_none, errW_some] <;> rfl) | (simp [*, errW_none, errW_some] <;> rfl), by first | exact Kd.R_nil _ _ _ _ _ | exact Kd.N_nil _ _ _ _ _ | exact Kd.V_nil _ _ _ _ _ | exact Kd.Q_nil _ _ _ _ _ | exact Kd.S_nil _ _ _ _ _, bl_⟩
  ·rw [if_neg c5] at H
   have c5b0 : decide (a1 < 0) = false := decide_eq_false c5
   clear c5
   by_cases c10 : a1 > 400
   ·rw [if_pos c10] at H
    have c10b0 : decide (400 < a1) = true := decide_eq_true c10
    clear c10
    simp only [Option.some.injEq, Prod.mk.injEq] at H
    obtain ⟨rfl, rfl⟩ := H
    go_enter Tryd.func55, Tryd.ntmps55
    go_wp2_with (first | ((with_reducible refine gate_callee (f := 43) rfl ?_); refine goesL_ (some 16) rfl rfl Tryd.func43 (by kernel_rfl) rfl #[.slice A0 l0.length c0] rfl (as_) ?_; (with_reducible refine (turn_read.calls k (fun k_ => k_ < w.heap.size) _ _ l0 t549 t552 t553 _ ?side1 A3.out).mono ?_); (case side1 => exact Kd.V_mk HC0.out (Kd.F_below (Kd.C_F (Kd.heap_int .i64) HR0.out) (bl_))); rintro e w11 ⟨v550, rfl, ho0, hb⟩; refine ⟨_, rfl, ?_⟩; have n0_ := Aside0.mk (Kd.V_lower (Kd.V_mono (ok' := fun k_ => True) ho0 (fun k_ hk_ => trivial)) (below_size (bl_))); have n1_ := Aside0.mk (below_step (bl_) hb); clear HB; have HO551 := n0_; have HB := n1_; clear n0_ n1_; (try clear hb); (try clear hb2); (try clear hk); (try clear hi); (try clear ho0)) | ((with_reducible refine gate_dst (N := 8) rfl ?_); refine box_event ?hg (N := 8) ?hd (cs := #[.slice none 0 0, .int .i64 0]) (t := 60) ?hr ?_; (case hd => rfl); (case hg => rfl); (case hr => first | (go_simp; done) | (go_simp; rfl)); intro gb554 hg w12 hbox hb; have n0_ := Aside0.mk (Kd.V_below (Kd.V_elderB (kv_ HO551.out) gb554 (Nat.le_of_eq hg.symm)) hb); have n1_ := Aside0.mk (below_step (bl_) hb); have n2_ := Aside0.mk (hbox); have n3_ := Aside0.mk ((by rw [hg]; exact (below_size (bl_)) : w.heap.size ≤ gb554)); have n4_ := Aside0.mk ((by rw [hg]; exact (below_size (bl_)) : w.heap.size ≤ gb554)); clear HO551; clear HB; have HO551 := n0_; have HB := n1_; have BK554 := n2_; have GW554 := n3_; have GE554 := n4_; clear n0_ n1_ n2_ n3_ n4_; clear hb hbox hg; obtain ⟨Ao13, co13, eo13⟩ := Kd.V_slice HO551.out; subst eo13; have hcz14_0 : w12.cell? ⟨gb554, 0, none⟩ = some (.slice none 0 0) := (blk_cell BK554.out 0).trans rfl; have hcz14_1 : w12.cell? ⟨gb554, 1, none⟩ = some (.int .i64 0) := (blk_cell BK554.out 1).trans rfl; have hfz14_0 := blk_frozen BK554.out 0; have hfz14_1 := blk_frozen BK554.out 1))
    go_ret2
    exact ⟨_, by first | rfl | (simp [errW_none, errW_some] <;> rfl) | (simp [*, errW_none, errW_some] <;> rfl), by first | exact Kd.R_nil _ _ _ _ _ | exact Kd.N_nil _ _ _ _ _ | exact Kd.V_nil _ _ _ _ _ | exact Kd.Q_nil _ _ _ _ _ | exact Kd.S_nil _ _ _ _ _, bl_⟩
   ·rw [if_neg c10] at H
    have c10b0 : decide (400 < a1) = false := decide_eq_false c10
    clear c10
    have c15 : 0 ≤ (l0.length : Int) := fl_ fun c15 => by rw [if_neg c15] at H; exact absurd H (by simp)
    rw [if_pos c15] at H
    have c15b0 := eq_true c15
    have c15b1 : decide (0 ≤ (l0.length : Int)) = true := decide_eq_true c15
    clear c15
    have c16 : ((l0.length : Int) : Int).toNat ≤ 35184372088832 := fl_ fun c16 => by rw [if_neg c16] at H; exact absurd H (by simp)
    rw [if_pos c16] at H
    have c16b0 := eq_true c16
    have c16b1 : decide (((l0.length : Int) : Int).toNat ≤ 35184372088832) = true := decide_eq_true c16
    clear c16
    obtain ⟨y555, hy555⟩ : ∃ y_ : List Int, y_ = (List.replicate ((l0.length : Int) : Int).toNat 0) := ⟨_, rfl⟩
    replace H : (turn_called_G.l0 k y555 ([] : List Int) a1 0 t549 t552) = some (r1, r2) := by first | (rw [hy555]; with_reducible exact H) | (have H2_ := (Option.bind_some _ _).symm.trans H; rw [hy555]; with_reducible exact H2_) | (have H2_ := (Option.bind_some _ _).symm.trans H; with_reducible exact H2_) | with_reducible exact H | (rw [hy555]; exact H) | exact H
    have Ny555 := Aside0.mk hy555
    clear hy555
    have H' := Aside0.mk H
    clear H
    go_enter Tryd.func55, Tryd.ntmps55
    go_wp2_with (first | ((with_reducible refine gate_callee (f := 43) rfl ?_); refine goesL_ (some 16) rfl rfl Tryd.func43 (by kernel_rfl) rfl #[.slice A0 l0.length c0] rfl (as_) ?_; (with_reducible refine (turn_read.calls k (fun k_ => k_ < w.heap.size) _ _ l0 t549 t552 t553 _ ?side1 A3.out).mono ?_); (case side1 => exact Kd.V_mk HC0.out (Kd.F_below (Kd.C_F (Kd.heap_int .i64) HR0.out) (bl_))); rintro e w17 ⟨v550, rfl, ho0, hb⟩; refine ⟨_, rfl, ?_⟩; have n0_ := Aside0.mk (Kd.V_lower (Kd.V_mono (ok' := fun k_ => True) ho0 (fun k_ hk_ => trivial)) (below_size (bl_))); have n1_ := Aside0.mk (below_step (bl_) hb); clear HB; have HO551 := n0_; have HB := n1_; clear n0_ n1_; (try clear hb); (try clear hb2); (try clear hk); (try clear hi); (try clear ho0)) | ((with_reducible refine gate_dst (N := 8) rfl ?_); refine box_event ?hg (N := 8) ?hd (cs := #[.slice none 0 0, .int .i64 0]) (t := 60) ?hr ?_; (case hd => rfl); (case hg => rfl); (case hr => first | (go_simp; done) | (go_simp; rfl)); intro gb554 hg w18 hbox hb; have n0_ := Aside0.mk (Kd.V_below (Kd.V_elderB (kv_ HO551.out) gb554 (Nat.le_of_eq hg.symm)) hb); have n1_ := Aside0.mk (below_step (bl_) hb); have n2_ := Aside0.mk (hbox); have n3_ := Aside0.mk ((by rw [hg]; exact (below_size (bl_)) : w.heap.size ≤ gb554)); have n4_ := Aside0.mk ((by rw [hg]; exact (below_size (bl_)) : w.heap.size ≤ gb554)); clear HO551; clear HB; have HO551 := n0_; have HB := n1_; have BK554 := n2_; have GW554 := n3_; have GE554 := n4_; clear n0_ n1_ n2_ n3_ n4_; clear hb hbox hg; obtain ⟨Ao19, co19, eo19⟩ := Kd.V_slice HO551.out; subst eo19; have hcz20_0 : w18.cell? ⟨gb554, 0, none⟩ = some (.slice none 0 0) := (blk_cell BK554.out 0).trans rfl; have hcz20_1 : w18.cell? ⟨gb554, 1, none⟩ = some (.int .i64 0) := (blk_cell BK554.out 1).trans rfl; have hfz20_0 := blk_frozen BK554.out 0; have hfz20_1 := blk_frozen BK554.out 1) | ((with_reducible refine gate_dst (N := 32) rfl ?_); refine Kd.R_make (Kd.int .i64) _ 3 rfl (N := 32) rfl 22 _ _ rfl (l0.length : Int) rfl rfl Tryd.underlying22 (.int .i64 0) 8 info3 rfl (by decide) (by omega) 0 (ok := fun _ => True) (okp := fun _ => True) rfl (fun _ hk => hk) trivial (od_) (Nat.le_trans (Nat.mul_le_mul_right _ (od_ : (l0.length : Int).toNat ≤ 35184372088832)) (by omega)) (Below.refl _ _) (Nat.le_refl _) ?_; intro v556 w21 ho22 hb hg_ hnew_; clear hg_ hnew_; (first | rw [← Ny555.out] at ho22 | (simp only [Int.reduceToNat] at ho22; rw [← Ny555.out] at ho22)); have n0_ := Aside0.mk (Kd.V_elder' (by (with_reducible repeat (first | apply Kd.V_alloc | apply Kd.V_drewN | apply Kd.V_drew)); exact (Kd.V_mono (Kd.V_far (p := ⟨gb554, 1, none⟩) (Kd.V_far (p := ⟨gb554, 0, none⟩) (Kd.V_mono HO551.out (fun k_ hk => (⟨hk, hk.2⟩ : _ ∧ k_ ≠ gb554))) (fun _ hk => hk.2) (.slice Ao19 t549.length co19)) (fun _ hk => hk.2) (.int .i64 t552)) (fun _ h_ => h_.1))) (Kd.R_base ho22) hb); have n1_ := Aside0.mk (Kd.R_lower ho22 (below_size (bl_))); have n2_ := Aside0.mk (blk_below (g := gb554) (o := .cells #[.slice Ao19 t549.length co19, .int .i64 t552] 60 (0, 0)) (by (with_reducible repeat (first | refine blk_drewN ?_ _ | refine blk_drew ?_ | refine blk_alloc ?_ _)); refine blk_put (cs := #[.slice Ao19 t549.length co19, .int .i64 0]) ?_ 1 _ rfl; (with_reducible repeat (first | refine blk_drewN ?_ _ | refine blk_drew ?_ | refine blk_alloc ?_ _)); refine blk_put (cs := #[.slice none 0 0, .int .i64 0]) ?_ 0 _ rfl; (with_reducible repeat (first | refine blk_drewN ?_ _ | refine blk_drew ?_ | refine blk_alloc ?_ _)); exact BK554.out) hb); have n3_ := Aside0.mk (below_step (bl_) hb); clear HO551; clear BK554; clear HB; have HO551 := n0_; have HO557 := n1_; have BK554 := n2_; have HB := n3_; clear n0_ n1_ n2_ n3_; clear hb ho22))
    go_loopg [11, 34] k (fun kq v11 v34 w' => ∃ (x10_1 : List Int) (x11_1 : List Int) (x34_1 : Int), v34 = .int .i64 x34_1 ∧ Aside0 (turn_called_G.l0 kq x10_1 x11_1 a1 x34_1 t549 t552 = some (r1, r2)) ∧ Aside0 (kq ≤ k) ∧ Aside0 (Kd.R (Kd.int .i64) 3 w' w.heap.size (fun k_ => some k_ ≠ (v11 : Value).ownBlock) v556 x10_1) ∧ Aside0 (Kd.R (Kd.int .i64) 3 w' w.heap.size (fun k_ => some k_ ≠ (v556 : Value).ownBlock) v11 x11_1) ∧ Aside0 (Kd.V (Kd.int .i64) 3 w' w.heap.size (fun k_ => some k_ ≠ (v556 : Value).ownBlock ∧ some k_ ≠ (v11 : Value).ownBlock ∧ k_ ≠ gb554) (.slice Ao19 t549.length co19) t549) ∧ Aside0 (w'.heap[gb554]? = some (.cells #[(.slice Ao19 t549.length co19), .int .i64 t552] 60 (0, 0))) ∧ Aside0 (Below w.heap.size w w'))
    case atStart => exact ⟨(y555), (([] : List Int)), (0), (by first | rfl | (simp; done) | (simp [*]; done)), H', ⟨Nat.le_refl _⟩, ⟨by (with_reducible repeat (first | apply Kd.R_alloc | apply Kd.R_drewN | apply Kd.R_drew)); exact Kd.R_mono HO557.out (fun _ hk => (by simp [Value.ownBlock]))⟩, ⟨by first | exact Kd.R_nil _ _ _ _ _ | exact Kd.N_nil _ _ _ _ _ | exact Kd.V_nil _ _ _ _ _ | exact Kd.Q_nil _ _ _ _ _ | exact Kd.S_nil _ _ _ _ _⟩, ⟨by (with_reducible repeat (first | apply Kd.V_alloc | apply Kd.V_drewN | apply Kd.V_drew)); exact Kd.V_mono HO551.out (fun _ hk => ⟨hk.2, ⟨(by simp [Value.ownBlock]), hk.1.2⟩⟩)⟩, ⟨bk_ BK554.out⟩, ⟨bl_⟩⟩
    case round =>
     clear H'
     try clear c1
     try clear p2
     try clear c4
     try clear c4b0
     try clear c4b1
     try clear c5
     try clear c5b0
     try clear c10
     try clear c10b0
     try clear c11
     try clear c15
     try clear c15b0
     try clear c15b1
     try clear c16
     try clear c16b0
     try clear c16b1
     try clear hcz14_0
     try clear hcz14_1
     try clear hcz20_0
     try clear hcz20_1
     try clear hcz9_0
     try clear hcz9_1
     try clear hfz14_0
     try clear hfz14_1
     try clear hfz20_0
     try clear hfz20_1
     try clear hfz9_0
     try clear hfz9_1
     obtain ⟨x10_1, x11_1, x34_1, rfl, HA, HK1, HO_10, HO_11, HO_555000, BK554, HB⟩ := hrel
     cases gk with
     | zero => exact absurd HA.out (by simp [turn_called_G.l0])
     | succ k1 =>
      have H := HA.out
      clear HA
      simp only [turn_called_G.l0] at H
      by_cases c23 : x34_1 < a1
      ·rw [if_pos c23] at H
       have c23b0 : decide (x34_1 < a1) = true := decide_eq_true c23
       clear c23
       replace H := Option.bind_eq_some_iff.mp H
       obtain ⟨t558, A240, H⟩ := H
       replace H : (if 0 ≤ t558 then (if t558 < (x10_1.length : Int) then (if x11_1.length < 17592186044416 then (turn_called_G.l0 k1 (x10_1.set (t558 : Int).toNat (wrap64 ((rd x10_1 t558) + 1))) (x11_1 ++ [t558]) a1 (wrap64 (x34_1 + 1)) t549 t552) else (none)) else (none)) else (none)) = some (r1, r2) := H
       have A24 := Aside0.mk A240
       clear A240
       have c25 : 0 ≤ t558 := fl_ fun c25 => by rw [if_neg c25] at H; exact absurd H (by simp)
       rw [if_pos c25] at H
       have c25b0 : decide (0 ≤ t558) = true := decide_eq_true c25
       clear c25
       have c26 : t558 < (x10_1.length : Int) := fl_ fun c26 => by rw [if_neg c26] at H; exact absurd H (by simp)
       rw [if_pos c26] at H
       have c26b0 : decide (t558 < (x10_1.length : Int)) = true := decide_eq_true c26
       clear c26
       obtain ⟨y560, hy560⟩ : ∃ y_ : List Int, y_ = (x10_1.set (t558 : Int).toNat (wrap64 ((rd x10_1 t558) + 1))) := ⟨_, rfl⟩
       replace H : (if x11_1.length < 17592186044416 then (turn_called_G.l0 k1 y560 (x11_1 ++ [t558]) a1 (wrap64 (x34_1 + 1)) t549 t552) else (none)) = some (r1, r2) := by first | (rw [hy560]; with_reducible exact H) | (have H2_ := (Option.bind_some _ _).symm.trans H; rw [hy560]; with_reducible exact H2_) | (have H2_ := (Option.bind_some _ _).symm.trans H; with_reducible exact H2_) | with_reducible exact H | (rw [hy560]; exact H) | exact H
       have Ny560 := Aside0.mk hy560
       clear hy560
       have c28 : x11_1.length < 17592186044416 := fl_ fun c28 => by rw [if_neg c28] at H; exact absurd H (by simp)
       rw [if_pos c28] at H
       have LMc28 := Aside0.mk c28
       clear c28
       obtain ⟨y561, hy561⟩ : ∃ y_ : List Int, y_ = (x11_1 ++ [t558]) := ⟨_, rfl⟩
       replace H : (turn_called_G.l0 k1 y560 y561 a1 (wrap64 (x34_1 + 1)) t549 t552) = some (r1, r2) := by first | (rw [hy561]; with_reducible exact H) | (have H2_ := (Option.bind_some _ _).symm.trans H; rw [hy561]; with_reducible exact H2_) | (have H2_ := (Option.bind_some _ _).symm.trans H; with_reducible exact H2_) | with_reducible exact H | (rw [hy561]; exact H) | exact H
       have Ny561 := Aside0.mk hy561
       clear hy561
       have H' := Aside0.mk H
       clear H
       have hcz29_0 : wr.cell? ⟨gb554, 0, none⟩ = some (.slice Ao19 t549.length co19) := (blk_cell BK554.out 0).trans rfl
       have hcz29_1 : wr.cell? ⟨gb554, 1, none⟩ = some (.int .i64 t552) := (blk_cell BK554.out 1).trans rfl
       have hfz29_0 := blk_frozen BK554.out 0
       have hfz29_1 := blk_frozen BK554.out 1
       obtain ⟨Ao30, co30, eo30⟩ := Kd.R_slice HO_10.out
       subst eo30
       go_wp2_with (first | ((with_reducible refine gate_dst (N := 42) rfl ?_); refine goesG_ (some 42) rfl rfl rfl rfl Tryd.func58 (by kernel_rfl) rfl #[.agg #[.slice Ao19 t549.length co19, .int .i64 t552], .int .i64 (wrap64 (x34_1 + 1)), .slice Ao30 x10_1.length co30] (as_) ?_; (with_reducible refine (turn_Greedy_1.calls k1 _ _ t549 t552 (wrap64 (x34_1 + 1)) _ _ x10_1 t558 _ ?side1 ?side2 ?side3 ?side4 A24.out).mono ?_); (case side1 => repeat (first | exact (Kd.V_reads' HO_555000.out).2.2 | (with_reducible refine Kd.C_alloc ?_ _) | (with_reducible refine Kd.C_drewN ?_ _) | (with_reducible refine Kd.C_drew ?_))); (case side2 => exact (Kd.V_reads' HO_555000.out).2.1); (case side3 => repeat (first | exact (Kd.R_reads' HO_10.out).2.2 | (with_reducible refine Kd.C_alloc ?_ _) | (with_reducible refine Kd.C_drewN ?_ _) | (with_reducible refine Kd.C_drew ?_))); (case side4 => exact (Kd.R_reads' HO_10.out).2.1); rintro e w31 ⟨rfl, hb⟩; refine ⟨_, rfl, ?_⟩; have n0_ := Aside0.mk (Kd.R_below (kr_ HO_10.out) hb); have n1_ := Aside0.mk (Kd.R_below (kr_ HO_11.out) hb); have n2_ := Aside0.mk (Kd.V_below (kv_ HO_555000.out) hb); have n3_ := Aside0.mk (blk_below (g := gb554) (o := .cells #[.slice Ao19 t549.length co19, .int .i64 t552] 60 (0, 0)) (bk_ BK554.out) hb); have n4_ := Aside0.mk (below_step (bl_) hb); clear HO_10; clear HO_11; clear HO_555000; clear BK554; clear HB; have HO_10 := n0_; have HO_11 := n1_; have HO_555000 := n2_; have BK554 := n3_; have HB := n4_; clear n0_ n1_ n2_ n3_ n4_; (try clear hb); (try clear hb2); (try clear hk); (try clear hi); have p559 : 0 ≤ (t558 : Int) := od_; have q559 : t558 < (x10_1.length : Int) := od_; obtain ⟨ad559, e559, hx559_0⟩ := Kd.at_int (Kd.R_reads' HO_10.out).2.2 t558 p559 q559; cases e559; replace p559 := eq_true p559; replace q559 := eq_true q559; have p27 : 0 ≤ (t558 : Int) := od_; have q27 : (t558 : Int) < ((x10_1.length : Int) : Int) := od_; obtain ⟨go27, co27, eo27, gb27, gl27, cl27, HG27⟩ := Kd.R_form HO_10.out (by omega); (first | cases eo27 | (injection eo27 with ea_ en_ ec_; (first | subst ea_ | (injection ea_ with ea_; subst ea_)); subst ec_; clear en_)); have GB27 := Aside0.mk gb27; have GG27 := Aside0.mk HG27; clear gb27 gl27 HG27; (first | simp only [add_plain] at hx559_0 | skip); obtain ⟨hx27_0, hf27_0⟩ := Kd.R_celln 0 HO_10.out (t558 : Int) p27 q27; replace p27 := eq_true p27; replace q27 := eq_true q27; obtain ⟨hy32_, hz32_⟩ := Kd.R_celln 0 HO_10.out (t558 : Int) (od_) (od_); have HP32 := Kd.R_putg HO_10.out (t558 : Int) (wrap64 ((rd x10_1 t558) + 1))) | ((with_reducible refine gate_store (t := 3) (p := 48) rfl ?_); refine store_event (t := 3) (p := 48) (v := ?vo_w33) (w1 := (w31.setCell ⟨go27, (t558 : Int).toNat, none⟩ (.int .i64 (wrap64 ((rd x10_1 t558) + 1))))) ?hg ?ho ?hn ?hr ?_; (case ho => rfl); (case hg => rfl); (case hn => rfl); (case hr => first | (go_simp; done) | (go_simp; rfl)); intro w33 hw; have hg : w31.grownBy w33 (some go27) := (by rw [hw]; exact HP32.2); have hp_ : Kd.R (Kd.int .i64) 3 w33 w.heap.size (fun k_ => some k_ ≠ (u11 : Value).ownBlock) (.slice (some ⟨go27, 0, none⟩) x10_1.length co30) y560 := (by rw [hw, Ny560.out]; exact HP32.1); clear HP32; have n0_ := Aside0.mk (hp_); have n1_ := Aside0.mk (Kd.R_after (v := (.slice (some ⟨go27, 0, none⟩) x10_1.length co30)) (v1 := (.slice (some ⟨go27, 0, none⟩) x10_1.length co30)) (ok := (fun _ => True)) (by (with_reducible repeat (first | apply Kd.R_alloc | apply Kd.R_drewN | apply Kd.R_drew)); exact Kd.R_mono HO_11.out (fun _ hk => ⟨trivial, hk⟩)) hg (.inl rfl)); have n2_ := Aside0.mk (Kd.V_afterv (v := (.slice (some ⟨go27, 0, none⟩) x10_1.length co30)) (v1 := (.slice (some ⟨go27, 0, none⟩) x10_1.length co30)) (ok := (fun k_ => some k_ ≠ (u11 : Value).ownBlock ∧ k_ ≠ gb554)) (by (with_reducible repeat (first | apply Kd.V_alloc | apply Kd.V_drewN | apply Kd.V_drew)); exact Kd.V_mono HO_555000.out (fun _ hk => ⟨⟨hk.2.1, hk.2.2⟩, hk.1⟩)) hg (.inl rfl)); have n3_ := Aside0.mk (blk_grown (g := gb554) (o := .cells #[.slice Ao19 t549.length co19, .int .i64 t552] 60 (0, 0)) (bk_ BK554.out) hg (Kd.R_ne HO_10.out BK554.out (by decide))); have n4_ := Aside0.mk ((by rw [hw]; exact below_set (HB.out) GB27.out : Below w.heap.size w w33)); clear HO_10; clear HO_11; clear HO_555000; clear BK554; clear HB; have HO_10 := n0_; have HO_11 := n1_; have HO_555000 := n2_; have BK554 := n3_; have HB := n4_; clear n0_ n1_ n2_ n3_ n4_; clear hg hw hp_) | ((with_reducible refine gate_builtin (b := .append) (xs := #[.tmp 49, .tmp 51]) rfl ?_); at_builtin; refine Kd.R_append (Kd.int .i64) (w0 := w) w.heap.size rfl (.tmp 49) (.tmp 51) 22 3 (.int .i64 0) 8 rfl Tryd.underlying22 info3 rfl (by decide) (by omega) u11 x11_1 t558 [.int .i64 t558] (fun k_ => some k_ ≠ (.slice (some ⟨go27, 0, none⟩) x10_1.length co30 : Value).ownBlock) (fun _ => False) rfl rfl ?aP (fun _ hk => hk.elim) ?aF ?aO ?aB ?aS ?aL ?_; (case aP => exact rfl); (case aB => exact (bl_)); (case aF => exact (fun k_ hk => Kd.fresh' (Kd.R_lt (kr_ HO_10.out)) k_ hk)); (case aO => exact (by (with_reducible repeat (first | apply Kd.R_alloc | apply Kd.R_drewN | apply Kd.R_drew)); exact Kd.R_mono HO_11.out (fun _ hk => hk.2))); (case aS => exact (below_size (bl_))); (case aL => have := LMc28.out; omega); intro v562 w34 ho hb hg hat; rw [← Ny561.out] at ho; have n0_ := Aside0.mk (Kd.R_after (ok := (fun _ => True)) (by (with_reducible repeat (first | apply Kd.R_alloc | apply Kd.R_drewN | apply Kd.R_drew)); exact Kd.R_mono HO_10.out (fun _ hk => ⟨trivial, hk⟩)) hg hat); have n1_ := Aside0.mk (Kd.V_afterv (ok := (fun k_ => some k_ ≠ (.slice (some ⟨go27, 0, none⟩) x10_1.length co30 : Value).ownBlock ∧ k_ ≠ gb554)) (by (with_reducible repeat (first | apply Kd.V_alloc | apply Kd.V_drewN | apply Kd.V_drew)); exact Kd.V_mono HO_555000.out (fun _ hk => ⟨⟨hk.2, hk.1.2⟩, hk.1.1⟩)) hg hat); have n2_ := Aside0.mk (blk_grown (g := gb554) (o := .cells #[.slice Ao19 t549.length co19, .int .i64 t552] 60 (0, 0)) (bk_ BK554.out) hg (Kd.R_ne HO_11.out BK554.out (by decide))); have n3_ := Aside0.mk (hb); have n4_ := Aside0.mk (ho); clear HO_10; clear HO_555000; clear BK554; clear HB; clear HO_11; have HO_10 := n0_; have HO_555000 := n1_; have BK554 := n2_; have HB := n3_; have HO563 := n4_; clear n0_ n1_ n2_ n3_ n4_; clear ho hb hg hat))
       go_roundg k1
       case measure => have := HK1.out; omega
       case rel => exact ⟨(y560), (y561), (wrap64 (x34_1 + 1)), (by first | rfl | (simp; done) | (simp [*]; done)), H', ⟨by have := HK1.out; omega⟩, ⟨by (with_reducible repeat (first | apply Kd.R_alloc | apply Kd.R_drewN | apply Kd.R_drew)); exact Kd.R_mono HO_10.out (fun _ hk => hk.2)⟩, ⟨kr_ HO563.out⟩, ⟨by (with_reducible repeat (first | apply Kd.V_alloc | apply Kd.V_drewN | apply Kd.V_drew)); exact Kd.V_mono HO_555000.out (fun _ hk => ⟨hk.1.1, ⟨hk.2, hk.1.2⟩⟩)⟩, ⟨bk_ BK554.out⟩, ⟨bl_⟩⟩
      ·rw [if_neg c23] at H
       have c23b0 : decide (x34_1 < a1) = false := decide_eq_false c23
       clear c23
       simp only [Option.some.injEq, Prod.mk.injEq] at H
       obtain ⟨rfl, rfl⟩ := H
       go_wp2
       go_ret2
       exact ⟨_, by first | rfl | (simp [errW_none, errW_some] <;> rfl) | (simp [*, errW_none, errW_some] <;> rfl), by (with_reducible repeat (first | apply Kd.R_alloc | apply Kd.R_drewN | apply Kd.R_drew)); exact Kd.R_mono HO_11.out (fun _ hk => trivial), bl_⟩
 ·rw [if_neg c4] at H
  have c4b0 : (t553 == 0) = false := beq_eq_false_iff_ne.mpr c4
  have c4b1 : (t553 != 0) = true := bne_iff_ne.mpr c4
  simp only [Option.some.injEq, Prod.mk.injEq] at H
  obtain ⟨rfl, rfl⟩ := H
  go_enter Tryd.func55, Tryd.ntmps55
  go_wp2_with (first | ((with_reducible refine gate_callee (f := 43) rfl ?_); refine goesL_ (some 16) rfl rfl Tryd.func43 (by kernel_rfl) rfl #[.slice A0 l0.length c0] rfl (as_) ?_; (with_reducible refine (turn_read.calls k (fun k_ => k_ < w.heap.size) _ _ l0 t549 t552 t553 _ ?side1 A3.out).mono ?_); (case side1 => exact Kd.V_mk HC0.out (Kd.F_below (Kd.C_F (Kd.heap_int .i64) HR0.out) (bl_))); rintro e w35 ⟨v550, rfl, ho0, hb⟩; refine ⟨_, rfl, ?_⟩; have n0_ := Aside0.mk (Kd.V_lower (Kd.V_mono (ok' := fun k_ => True) ho0 (fun k_ hk_ => trivial)) (below_size (bl_))); have n1_ := Aside0.mk (below_step (bl_) hb); clear HB; have HO551 := n0_; have HB := n1_; clear n0_ n1_; (try clear hb); (try clear hb2); (try clear hk); (try clear hi); (try clear ho0)) | ((with_reducible refine gate_dst (N := 8) rfl ?_); refine box_event ?hg (N := 8) ?hd (cs := #[.slice none 0 0, .int .i64 0]) (t := 60) ?hr ?_; (case hd => rfl); (case hg => rfl); (case hr => first | (go_simp; done) | (go_simp; rfl)); intro gb554 hg w36 hbox hb; have n0_ := Aside0.mk (Kd.V_below (Kd.V_elderB (kv_ HO551.out) gb554 (Nat.le_of_eq hg.symm)) hb); have n1_ := Aside0.mk (below_step (bl_) hb); have n2_ := Aside0.mk (hbox); have n3_ := Aside0.mk ((by rw [hg]; exact (below_size (bl_)) : w.heap.size ≤ gb554)); have n4_ := Aside0.mk ((by rw [hg]; exact (below_size (bl_)) : w.heap.size ≤ gb554)); clear HO551; clear HB; have HO551 := n0_; have HB := n1_; have BK554 := n2_; have GW554 := n3_; have GE554 := n4_; clear n0_ n1_ n2_ n3_ n4_; clear hb hbox hg; obtain ⟨Ao37, co37, eo37⟩ := Kd.V_slice HO551.out; subst eo37; have hcz38_0 : w36.cell? ⟨gb554, 0, none⟩ = some (.slice none 0 0) := (blk_cell BK554.out 0).trans rfl; have hcz38_1 : w36.cell? ⟨gb554, 1, none⟩ = some (.int .i64 0) := (blk_cell BK554.out 1).trans rfl; have hfz38_0 := blk_frozen BK554.out 0; have hfz38_1 := blk_frozen BK554.out 1))
  go_ret2
  exact ⟨_, by first | rfl | (simp [errW_none, errW_some] <;> rfl) | (simp [*, errW_none, errW_some] <;> rfl), by first | exact Kd.R_nil _ _ _ _ _ | exact Kd.N_nil _ _ _ _ _ | exact Kd.V_nil _ _ _ _ _ | exact Kd.Q_nil _ _ _ _ _ | exact Kd.S_nil _ _ _ _ _, bl_⟩

/-! ### turn_Greedy: function 32 -/
def turn_Greedy.f (k : Nat) (l0 : List Int) (a1 : Int) : Option (List Int × Int) := (turn_called_G.f k l0 a1).bind fun bt564 => (some (bt564.1, bt564.2))
theorem turn_Greedy.mono : ∀ a0 a1 k, LeO (turn_Greedy.f k a0 a1) (turn_Greedy.f (k + 1) a0 a1) := by
  intro a0 a1 k
  unfold turn_Greedy.f
  repeat' first
      | (with_reducible exact turn_called_G.mono _ _ _)
      | (with_reducible exact LeO.refl _)
      | (with_reducible exact LeO.none _)
      | (with_reducible refine LeO.ite ?_ ?_)
      | (with_reducible refine LeO.bind ?_ (fun _ => ?_))
      | exact turn_called_G.mono _ _ _
      | exact LeO.none _
      | refine LeO.ite ?_ ?_
      | refine LeO.bind ?_ (fun _ => ?_)
set_option maxHeartbeats 8000000 in
set_option maxRecDepth 100000 in
theorem turn_Greedy.calls (k : Nat) (A0 : Option Addr) (c0 : Nat) (l0 : List Int) (a1 : Int) (r1 : List Int) (r2 : Int) (w : World) (hr0 : Kd.C (Kd.int .i64) w A0 l0.length l0) (hc0 : l0.length ≤ c0) (h : turn_Greedy.f k l0 a1 = some (r1, r2)) :
    Calls Tryd.prog 32 #[.slice A0 l0.length c0, .int .i64 a1] w fun e w' => ∃ v0_ : Value, e = .returned (.tuple #[v0_, .int .i64 r2]) ∧ Kd.R (Kd.int .i64) 3 w' w.heap.size (fun _ => True) v0_ r1 ∧ Below w.heap.size w w' := by
 have HR0 := Aside0.mk hr0
 have HC0 := Aside0.mk hc0
 clear hr0 hc0
 have HB := Aside0.mk (Below.refl w.heap.size w)
 have H : ((turn_called_G.f k l0 a1).bind fun bt564 => (some (bt564.1, bt564.2))) = some (r1, r2) := h
 clear h
 replace H := Option.bind_eq_some_iff.mp H
 obtain ⟨⟨t564, t565⟩, A30, H⟩ := H
 replace H : (some (t564, t565)) = some (r1, r2) := H
 have A3 := Aside0.mk A30
 clear A30
 simp only [Option.some.injEq, Prod.mk.injEq] at H
 obtain ⟨rfl, rfl⟩ := H
 go_enter Tryd.func32, Tryd.ntmps32
 go_wp2_with (first | ((with_reducible refine gate_callee (f := 55) rfl ?_); refine goesL_ (some 8) rfl rfl Tryd.func55 (by kernel_rfl) rfl #[.slice A0 l0.length c0, .int .i64 a1, .func (.func 58) #[] #[]] rfl (as_) ?_; (with_reducible refine (turn_called_G.calls k _ _ l0 a1 t564 t565 _ ?side1 ?side2 A3.out).mono ?_); (case side1 => repeat (first | exact HR0.out | (with_reducible refine Kd.C_alloc ?_ _) | (with_reducible refine Kd.C_drewN ?_ _) | (with_reducible refine Kd.C_drew ?_))); (case side2 => exact HC0.out); rintro e w4 ⟨v566, rfl, ho0, hb⟩; refine ⟨_, rfl, ?_⟩; have n0_ := Aside0.mk (Kd.R_lower ho0 (below_size (bl_))); have n1_ := Aside0.mk (below_step (bl_) hb); clear HB; have HO567 := n0_; have HB := n1_; clear n0_ n1_; (try clear hb); (try clear hb2); (try clear hk); (try clear hi); (try clear ho0)))
 go_ret2
 exact ⟨_, by first | rfl | (simp [errW_none, errW_some] <;> rfl) | (simp [*, errW_none, errW_some] <;> rfl), by (with_reducible repeat (first | apply Kd.R_alloc | apply Kd.R_drewN | apply Kd.R_drew)); exact HO567.out, bl_⟩

/-! ### trishawref01_many: function 59 -/
def trishawref01_many.f (k : Nat) (l0 : List Int) (a1 : Int) : Option (Int × Int) := (trishawref01_Shares.f k l0).bind fun bt568 => (if bt568.2 = 0 then (if a1 < 0 then (some (0, 2)) else (if a1 > 400 then (some (0, 2)) else (some (bt568.1, 0)))) else (some (0, bt568.2)))
theorem trishawref01_many.mono : ∀ a0 a1 k, LeO (trishawref01_many.f k a0 a1) (trishawref01_many.f (k + 1) a0 a1) := by
  intro a0 a1 k
  unfold trishawref01_many.f
  repeat' first
      | (with_reducible exact trishawref01_Shares.mono _ _)
      | (with_reducible exact LeO.refl _)
      | (with_reducible exact LeO.none _)
      | (with_reducible refine LeO.ite ?_ ?_)
      | (with_reducible refine LeO.bind ?_ (fun _ => ?_))
      | exact trishawref01_Shares.mono _ _
      | exact LeO.none _
      | refine LeO.ite ?_ ?_
      | refine LeO.bind ?_ (fun _ => ?_)
set_option maxHeartbeats 8000000 in
set_option maxRecDepth 100000 in
theorem trishawref01_many.calls (k : Nat) (A0 : Option Addr) (c0 : Nat) (l0 : List Int) (a1 : Int) (r1 : Int) (r2 : Int) (w : World) (hr0 : Kd.C (Kd.int .i64) w A0 l0.length l0) (hc0 : l0.length ≤ c0) (h : trishawref01_many.f k l0 a1 = some (r1, r2)) :
    Calls Tryd.prog 59 #[.slice A0 l0.length c0, .int .i64 a1] w fun e w' => e = .returned (.tuple #[.int .i64 r1, .int .i64 r2]) ∧ Drawn0 w w' := by
 have HR0 := Aside0.mk hr0
 have HC0 := Aside0.mk hc0
 clear hr0 hc0
 have H : ((trishawref01_Shares.f k l0).bind fun bt568 => (if bt568.2 = 0 then (if a1 < 0 then (some (0, 2)) else (if a1 > 400 then (some (0, 2)) else (some (bt568.1, 0)))) else (some (0, bt568.2)))) = some (r1, r2) := h
 clear h
 replace H := Option.bind_eq_some_iff.mp H
 obtain ⟨⟨t568, t569⟩, A30, H⟩ := H
 replace H : (if t569 = 0 then (if a1 < 0 then (some (0, 2)) else (if a1 > 400 then (some (0, 2)) else (some (t568, 0)))) else (some (0, t569))) = some (r1, r2) := H
 have A3 := Aside0.mk A30
 clear A30
 by_cases c4 : t569 = 0
 ·rw [if_pos c4] at H
  have c4b0 : (t569 == 0) = true := beq_iff_eq.mpr c4
  have c4b1 : (t569 != 0) = false := bne_eq_false_iff_eq.mpr c4
  clear c4
  by_cases c5 : a1 < 0
  ·rw [if_pos c5] at H
   have c5b0 : decide (a1 < 0) = true := decide_eq_true c5
   clear c5
   simp only [Option.some.injEq, Prod.mk.injEq] at H
   obtain ⟨rfl, rfl⟩ := H
   go_enter Tryd.func59, Tryd.ntmps59
   go_wp2_with (first | ((with_reducible refine gate_callee (f := 23) rfl ?_); refine goesL_ (some 10) rfl rfl Tryd.func23 (by kernel_rfl) rfl #[.slice A0 l0.length c0] rfl (as_) ?_; (with_reducible refine (trishawref01_Shares.calls k _ _ l0 t568 t569 _ ?side1 ?side2 A3.out).mono ?_); (case side1 => repeat (first | exact HR0.out | (with_reducible refine Kd.C_alloc ?_ _) | (with_reducible refine Kd.C_drewN ?_ _) | (with_reducible refine Kd.C_drew ?_))); (case side2 => exact HC0.out); rintro e w' ⟨rfl, ⟨nd, rfl⟩⟩; refine ⟨_, rfl, ?_⟩))
   go_ret2
   exact ⟨by first | rfl | (simp; done) | (simp [*]; done), by repeat (first | exact Drawn0.refl _ | apply Drawn0.step)⟩
  ·rw [if_neg c5] at H
   have c5b0 : decide (a1 < 0) = false := decide_eq_false c5
   clear c5
   by_cases c6 : a1 > 400
   ·rw [if_pos c6] at H
    have c6b0 : decide (400 < a1) = true := decide_eq_true c6
    clear c6
    simp only [Option.some.injEq, Prod.mk.injEq] at H
    obtain ⟨rfl, rfl⟩ := H
    go_enter Tryd.func59, Tryd.ntmps59
    go_wp2_with (first | ((with_reducible refine gate_callee (f := 23) rfl ?_); refine goesL_ (some 10) rfl rfl Tryd.func23 (by kernel_rfl) rfl #[.slice A0 l0.length c0] rfl (as_) ?_; (with_reducible refine (trishawref01_Shares.calls k _ _ l0 t568 t569 _ ?side1 ?side2 A3.out).mono ?_); (case side1 => repeat (first | exact HR0.out | (with_reducible refine Kd.C_alloc ?_ _) | (with_reducible refine Kd.C_drewN ?_ _) | (with_reducible refine Kd.C_drew ?_))); (case side2 => exact HC0.out); rintro e w' ⟨rfl, ⟨nd, rfl⟩⟩; refine ⟨_, rfl, ?_⟩))
    go_ret2
    exact ⟨by first | rfl | (simp; done) | (simp [*]; done), by repeat (first | exact Drawn0.refl _ | apply Drawn0.step)⟩
   ·rw [if_neg c6] at H
    have c6b0 : decide (400 < a1) = false := decide_eq_false c6
    clear c6
    simp only [Option.some.injEq, Prod.mk.injEq] at H
    obtain ⟨rfl, rfl⟩ := H
    go_enter Tryd.func59, Tryd.ntmps59
    go_wp2_with (first | ((with_reducible refine gate_callee (f := 23) rfl ?_); refine goesL_ (some 10) rfl rfl Tryd.func23 (by kernel_rfl) rfl #[.slice A0 l0.length c0] rfl (as_) ?_; (with_reducible refine (trishawref01_Shares.calls k _ _ l0 t568 t569 _ ?side1 ?side2 A3.out).mono ?_); (case side1 => repeat (first | exact HR0.out | (with_reducible refine Kd.C_alloc ?_ _) | (with_reducible refine Kd.C_drewN ?_ _) | (with_reducible refine Kd.C_drew ?_))); (case side2 => exact HC0.out); rintro e w' ⟨rfl, ⟨nd, rfl⟩⟩; refine ⟨_, rfl, ?_⟩))
    go_ret2
    exact ⟨by first | rfl | (simp; done) | (simp [*]; done), by repeat (first | exact Drawn0.refl _ | apply Drawn0.step)⟩
 ·rw [if_neg c4] at H
  have c4b0 : (t569 == 0) = false := beq_eq_false_iff_ne.mpr c4
  have c4b1 : (t569 != 0) = true := bne_iff_ne.mpr c4
  simp only [Option.some.injEq, Prod.mk.injEq] at H
  obtain ⟨rfl, rfl⟩ := H
  go_enter Tryd.func59, Tryd.ntmps59
  go_wp2_with (first | ((with_reducible refine gate_callee (f := 23) rfl ?_); refine goesL_ (some 10) rfl rfl Tryd.func23 (by kernel_rfl) rfl #[.slice A0 l0.length c0] rfl (as_) ?_; (with_reducible refine (trishawref01_Shares.calls k _ _ l0 t568 t569 _ ?side1 ?side2 A3.out).mono ?_); (case side1 => repeat (first | exact HR0.out | (with_reducible refine Kd.C_alloc ?_ _) | (with_reducible refine Kd.C_drewN ?_ _) | (with_reducible refine Kd.C_drew ?_))); (case side2 => exact HC0.out); rintro e w' ⟨rfl, ⟨nd, rfl⟩⟩; refine ⟨_, rfl, ?_⟩))
  go_ret2
  exact ⟨by first | rfl | (simp; done) | (simp [*]; done), by repeat (first | exact Drawn0.refl _ | apply Drawn0.step)⟩

end Go.Proofs.YtgobffgogmnmpaaDoor.P
