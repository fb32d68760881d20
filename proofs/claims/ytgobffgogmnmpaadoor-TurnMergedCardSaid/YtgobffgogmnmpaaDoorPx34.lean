-- Written by wip/tools/myprint.py of this session's repo, over the kit's printer and hand texts.
import Derived.Test.YtgobffgogmnmpaaDoorPx0
import Derived.Test.YtgobffgogmnmpaaDoorPre
import Derived.Test.YtgobffgogmnmpaaDoorPx3
import Derived.Test.YtgobffgogmnmpaaDoorPx4
import Derived.Test.YtgobffgogmnmpaaDoorPx9
import Derived.Test.YtgobffgogmnmpaaDoorPx10
import Derived.Test.YtgobffgogmnmpaaDoorPx16
import Derived.Test.YtgobffgogmnmpaaDoorPx32
namespace Go.Proofs.YtgobffgogmnmpaaDoor.P
open Go.RowKit Go.Proofs.YtgobffgogmnmpaaDoorW.PrintWords Go.Proofs.YtgobffgogmnmpaaDoorW.PrintLast Go.Proofs.YtgobffgogmnmpaaDoorW.PrintMore
attribute [local go_sem] max2_int min2_int max_two min_two max_three min_three max_four min_four   -- for this text's walks alone
set_option linter.unusedVariables false
set_option linter.unusedSimpArgs false

/-! ### trishawlaw01_TurnMerged: function 14 -/
mutual
def trishawlaw01_TurnMerged.j0 : Nat → List Int → List Int → Int → Int → Bool → Option (Bool)
  | 0, _, _, _, _, _ => none
  | k + 1, x0, x1, x2, x3, x45 => if x45 = true then ((trishawlaw01_alive.f k).bind fun t852 => (some t852)) else (if (wrap64 ((x0.length : Int) - 1)) = 0 then (none) else (if (wrap64 (1 + (Int.tmod (wrap64 (x2)) (wrap64 ((x0.length : Int) - 1))))) = 0 then (none) else (if 0 ≤ (Int.tmod (wrap64 (x3)) (wrap64 (1 + (Int.tmod (wrap64 (x2)) (wrap64 ((x0.length : Int) - 1)))))) then (if (Int.tmod (wrap64 (x3)) (wrap64 (1 + (Int.tmod (wrap64 (x2)) (wrap64 ((x0.length : Int) - 1)))))) < (x0.length : Int) then (if 0 ≤ (wrap64 (1 + (Int.tmod (wrap64 (x2)) (wrap64 ((x0.length : Int) - 1))))) then (if (wrap64 (1 + (Int.tmod (wrap64 (x2)) (wrap64 ((x0.length : Int) - 1))))) < (x0.length : Int) then (if (wrap64 ((rd x0 (Int.tmod (wrap64 (x3)) (wrap64 (1 + (Int.tmod (wrap64 (x2)) (wrap64 ((x0.length : Int) - 1))))))) + (rd x0 (wrap64 (1 + (Int.tmod (wrap64 (x2)) (wrap64 ((x0.length : Int) - 1)))))))) > 20 then ((trishawlaw01_alive.f k).bind fun t855 => (some t855)) else (trishawlaw01_TurnMerged.l0 k x0 x1 (wrap64 (1 + (Int.tmod (wrap64 (x2)) (wrap64 ((x0.length : Int) - 1))))) (Int.tmod (wrap64 (x3)) (wrap64 (1 + (Int.tmod (wrap64 (x2)) (wrap64 ((x0.length : Int) - 1)))))) ([] : List Int) 0)) else (none)) else (none)) else (none)) else (none))))
def trishawlaw01_TurnMerged.l0 : Nat → List Int → List Int → Int → Int → List Int → Int → Option (Bool)
  | 0, _, _, _, _, _, _ => none
  | k + 1, x0, x1, x11, x12, x13, x14 => if x14 < (x0.length : Int) then (if x14 = x11 then (trishawlaw01_TurnMerged.l0 k x0 x1 x11 x12 x13 (wrap64 (x14 + 1))) else (if 0 ≤ x14 then (if x13.length < 17592186044416 then (trishawlaw01_TurnMerged.l0 k x0 x1 x11 x12 (x13 ++ [rd x0 x14]) (wrap64 (x14 + 1))) else (none)) else (none))) else (if 0 ≤ x12 then (if x12 < (x13.length : Int) then (if 0 ≤ x11 then (if x11 < (x0.length : Int) then ((turn_Merged.f k x1 x12 x11).bind fun bt863 => ((turn_Deviation.f k x0 x1).bind fun bt867 => ((turn_Deviation.f k (x13.set (x12 : Int).toNat (wrap64 ((rd x13 x12) + (rd x0 x11)))) bt863.1).bind fun bt871 => (if bt863.2 = 0 then (if bt867.2.2 = 0 then (if bt871.2.2 = 0 then ((trishawlaw01_small.f bt867.1 bt867.2.1).bind fun t875 => (if t875 = true then ((trishawlaw01_small.f bt871.1 bt871.2.1).bind fun t876 => (trishawlaw01_TurnMerged.j2 k (!t876) bt867.1 bt867.2.1 bt871.1 bt871.2.1)) else (trishawlaw01_TurnMerged.j2 k true bt867.1 bt867.2.1 bt871.1 bt871.2.1))) else (trishawlaw01_TurnMerged.j2 k true bt867.1 bt867.2.1 bt871.1 bt871.2.1)) else (trishawlaw01_TurnMerged.j2 k true bt867.1 bt867.2.1 bt871.1 bt871.2.1)) else (trishawlaw01_TurnMerged.j2 k true bt867.1 bt867.2.1 bt871.1 bt871.2.1))))) else (none)) else (none)) else (none)) else (none))
def trishawlaw01_TurnMerged.j2 : Nat → Bool → Int → Int → Int → Int → Option (Bool)
  | 0, _, _, _, _, _ => none
  | k + 1, x133, x871000, x871001, x875000, x875001 => if x133 = true then (some false) else ((trishawlaw01_atMost.f x875000 x875001 (wrap64 (2 * x871000)) x871001).bind fun t877 => (if t877 = true then ((trishawlaw01_alive.f k).bind fun t878 => (some t878)) else (some false)))
end
def trishawlaw01_TurnMerged.f (k : Nat) (l0 : List Int) (l1 : List Int) (a2 : Int) (a3 : Int) : Option (Bool) := (trishawref01_Shares.f k l0).bind fun bt848 => ((trishawlaw01_few.f l0 l1).bind fun t850 => (if t850 = true then (if bt848.2 = 0 then (if (l0.length : Int) < 2 then (trishawlaw01_TurnMerged.j0 k l0 l1 a2 a3 true) else ((trishawref01_Days.f k l1 (l0.length : Int)).bind fun t851 => (trishawlaw01_TurnMerged.j0 k l0 l1 a2 a3 (t851 != 0)))) else (trishawlaw01_TurnMerged.j0 k l0 l1 a2 a3 true)) else (trishawlaw01_TurnMerged.j0 k l0 l1 a2 a3 true)))
theorem trishawlaw01_TurnMerged.mono_l : ∀ k, (∀ y0 y1 y2 y3 y4, LeO (trishawlaw01_TurnMerged.j0 k y0 y1 y2 y3 y4) (trishawlaw01_TurnMerged.j0 (k + 1) y0 y1 y2 y3 y4)) ∧ (∀ y0 y1 y2 y3 y4 y5, LeO (trishawlaw01_TurnMerged.l0 k y0 y1 y2 y3 y4 y5) (trishawlaw01_TurnMerged.l0 (k + 1) y0 y1 y2 y3 y4 y5)) ∧ (∀ y0 y1 y2 y3 y4, LeO (trishawlaw01_TurnMerged.j2 k y0 y1 y2 y3 y4) (trishawlaw01_TurnMerged.j2 (k + 1) y0 y1 y2 y3 y4))
  | 0 => ⟨fun _ _ _ _ _ r h => by simp [trishawlaw01_TurnMerged.j0] at h, fun _ _ _ _ _ _ r h => by simp [trishawlaw01_TurnMerged.l0] at h, fun _ _ _ _ _ r h => by simp [trishawlaw01_TurnMerged.j2] at h⟩
  | k + 1 => by
    obtain ⟨ih0, ih1, ih2⟩ := trishawlaw01_TurnMerged.mono_l k
    refine ⟨?_, ?_, ?_⟩
    · intro y0 y1 y2 y3 y4
      unfold trishawlaw01_TurnMerged.j0
      repeat' first
      | (with_reducible exact ih0 _ _ _ _ _)
      | (with_reducible exact ih1 _ _ _ _ _ _)
      | (with_reducible exact ih2 _ _ _ _ _)
      | (with_reducible exact trishawlaw01_alive.mono _)
      | (with_reducible exact trishawref01_Days.mono _ _ _)
      | (with_reducible exact trishawref01_Shares.mono _ _)
      | (with_reducible exact turn_Deviation.mono _ _ _)
      | (with_reducible exact turn_Merged.mono _ _ _ _)
      | (with_reducible exact LeO.refl _)
      | (with_reducible exact LeO.none _)
      | (with_reducible refine LeO.ite ?_ ?_)
      | (with_reducible refine LeO.bind ?_ (fun _ => ?_))
      | exact ih0 _ _ _ _ _
      | exact ih1 _ _ _ _ _ _
      | exact ih2 _ _ _ _ _
      | exact trishawlaw01_alive.mono _
      | exact trishawref01_Days.mono _ _ _
      | exact trishawref01_Shares.mono _ _
      | exact turn_Deviation.mono _ _ _
      | exact turn_Merged.mono _ _ _ _
      | exact LeO.none _
      | refine LeO.ite ?_ ?_
      | refine LeO.bind ?_ (fun _ => ?_)
    · intro y0 y1 y2 y3 y4 y5
      unfold trishawlaw01_TurnMerged.l0
      repeat' first
      | (with_reducible exact ih0 _ _ _ _ _)
      | (with_reducible exact ih1 _ _ _ _ _ _)
      | (with_reducible exact ih2 _ _ _ _ _)
      | (with_reducible exact trishawlaw01_alive.mono _)
      | (with_reducible exact trishawref01_Days.mono _ _ _)
      | (with_reducible exact trishawref01_Shares.mono _ _)
      | (with_reducible exact turn_Deviation.mono _ _ _)
      | (with_reducible exact turn_Merged.mono _ _ _ _)
      | (with_reducible exact LeO.refl _)
      | (with_reducible exact LeO.none _)
      | (with_reducible refine LeO.ite ?_ ?_)
      | (with_reducible refine LeO.bind ?_ (fun _ => ?_))
      | exact ih0 _ _ _ _ _
      | exact ih1 _ _ _ _ _ _
      | exact ih2 _ _ _ _ _
      | exact trishawlaw01_alive.mono _
      | exact trishawref01_Days.mono _ _ _
      | exact trishawref01_Shares.mono _ _
      | exact turn_Deviation.mono _ _ _
      | exact turn_Merged.mono _ _ _ _
      | exact LeO.none _
      | refine LeO.ite ?_ ?_
      | refine LeO.bind ?_ (fun _ => ?_)
    · intro y0 y1 y2 y3 y4
      unfold trishawlaw01_TurnMerged.j2
      repeat' first
      | (with_reducible exact ih0 _ _ _ _ _)
      | (with_reducible exact ih1 _ _ _ _ _ _)
      | (with_reducible exact ih2 _ _ _ _ _)
      | (with_reducible exact trishawlaw01_alive.mono _)
      | (with_reducible exact trishawref01_Days.mono _ _ _)
      | (with_reducible exact trishawref01_Shares.mono _ _)
      | (with_reducible exact turn_Deviation.mono _ _ _)
      | (with_reducible exact turn_Merged.mono _ _ _ _)
      | (with_reducible exact LeO.refl _)
      | (with_reducible exact LeO.none _)
      | (with_reducible refine LeO.ite ?_ ?_)
      | (with_reducible refine LeO.bind ?_ (fun _ => ?_))
      | exact ih0 _ _ _ _ _
      | exact ih1 _ _ _ _ _ _
      | exact ih2 _ _ _ _ _
      | exact trishawlaw01_alive.mono _
      | exact trishawref01_Days.mono _ _ _
      | exact trishawref01_Shares.mono _ _
      | exact turn_Deviation.mono _ _ _
      | exact turn_Merged.mono _ _ _ _
      | exact LeO.none _
      | refine LeO.ite ?_ ?_
      | refine LeO.bind ?_ (fun _ => ?_)
theorem trishawlaw01_TurnMerged.mono : ∀ a0 a1 a2 a3 k, LeO (trishawlaw01_TurnMerged.f k a0 a1 a2 a3) (trishawlaw01_TurnMerged.f (k + 1) a0 a1 a2 a3) := by
  intro a0 a1 a2 a3 k
  obtain ⟨ih0, ih1, ih2⟩ := trishawlaw01_TurnMerged.mono_l k
  unfold trishawlaw01_TurnMerged.f
  repeat' first
      | (with_reducible exact ih0 _ _ _ _ _)
      | (with_reducible exact ih1 _ _ _ _ _ _)
      | (with_reducible exact ih2 _ _ _ _ _)
      | (with_reducible exact trishawlaw01_alive.mono _)
      | (with_reducible exact trishawref01_Days.mono _ _ _)
      | (with_reducible exact trishawref01_Shares.mono _ _)
      | (with_reducible exact turn_Deviation.mono _ _ _)
      | (with_reducible exact turn_Merged.mono _ _ _ _)
      | (with_reducible exact LeO.refl _)
      | (with_reducible exact LeO.none _)
      | (with_reducible refine LeO.ite ?_ ?_)
      | (with_reducible refine LeO.bind ?_ (fun _ => ?_))
      | exact ih0 _ _ _ _ _
      | exact ih1 _ _ _ _ _ _
      | exact ih2 _ _ _ _ _
      | exact trishawlaw01_alive.mono _
      | exact trishawref01_Days.mono _ _ _
      | exact trishawref01_Shares.mono _ _
      | exact turn_Deviation.mono _ _ _
      | exact turn_Merged.mono _ _ _ _
      | exact LeO.none _
      | refine LeO.ite ?_ ?_
      | refine LeO.bind ?_ (fun _ => ?_)
def trishawlaw01_TurnMerged.T6 : Bool × List (List Nat × List Nat) := (true, [([], []), ([], []), ([0, 1], [0, 1]), ([2], [2]), ([], []), ([], []), ([4, 5], [4, 5]), ([6], [6]), ([3, 7], [3, 7]), ([8], [8])])
def trishawlaw01_TurnMerged.B6 : List Nat := [0, 0, 3, 7, 0, 0, 48, 112, 255, 511]
theorem trishawlaw01_TurnMerged.tab6 : rtab .any (opsOf Tryd.f14 6) = trishawlaw01_TurnMerged.T6 := by kernel_rfl
theorem trishawlaw01_TurnMerged.bits6 : waitsOk trishawlaw01_TurnMerged.T6.2 trishawlaw01_TurnMerged.B6 = true := by kernel_rfl
def trishawlaw01_TurnMerged.T14 : Bool × List (List Nat × List Nat) := (true, [([], []), ([], []), ([0, 1], [0, 1]), ([2], [2]), ([], []), ([], []), ([4, 5], [4, 5]), ([6], [6]), ([3, 7], [3, 7]), ([0, 1, 0, 1, 2, 3, 4, 5, 6, 7, 8], [0, 1]), ([9, 8, 0, 1, 2, 3, 4, 5, 6, 7, 8], [8, 9])])
def trishawlaw01_TurnMerged.B14 : List Nat := [0, 0, 3, 7, 0, 0, 48, 112, 255, 511, 1023]
theorem trishawlaw01_TurnMerged.tab14 : rtab .any (opsOf Tryd.f14 14) = trishawlaw01_TurnMerged.T14 := by kernel_rfl
theorem trishawlaw01_TurnMerged.bits14 : waitsOk trishawlaw01_TurnMerged.T14.2 trishawlaw01_TurnMerged.B14 = true := by kernel_rfl
set_option maxHeartbeats 8000000 in
set_option maxRecDepth 100000 in
theorem trishawlaw01_TurnMerged.calls (k : Nat) (A0 : Option Addr) (c0 : Nat) (l0 : List Int) (A1 : Option Addr) (c1 : Nat) (l1 : List Int) (a2 : Int) (a3 : Int) (r : Bool) (w : World) (hr0 : Kd.C (Kd.int .i64) w A0 l0.length l0) (hc0 : l0.length ≤ c0) (hr1 : Kd.C (Kd.int .i64) w A1 l1.length l1) (hc1 : l1.length ≤ c1) (h : trishawlaw01_TurnMerged.f k l0 l1 a2 a3 = some r) (hN0 : NoneLaid w) (hr_ : r = true) :
    Calls Tryd.prog 14 #[.slice A0 l0.length c0, .slice A1 l1.length c1, .int .u8 a2, .int .u8 a3] w fun e w' => e = .returned (.bool r) ∧ Below w.heap.size w w' := by
 have HN := Aside0.mk hN0
 clear hN0
 have hr := Aside0.mk hr_
 clear hr_
 have hu26 := Tryd.underlying26
 have HR0 := Aside0.mk hr0
 have HC0 := Aside0.mk hc0
 clear hr0 hc0
 have HR1 := Aside0.mk hr1
 have HC1 := Aside0.mk hc1
 clear hr1 hc1
 have HB := Aside0.mk (Below.refl w.heap.size w)
 have H : ((trishawref01_Shares.f k l0).bind fun bt848 => ((trishawlaw01_few.f l0 l1).bind fun t850 => (if t850 = true then (if bt848.2 = 0 then (if (l0.length : Int) < 2 then (trishawlaw01_TurnMerged.j0 k l0 l1 a2 a3 true) else ((trishawref01_Days.f k l1 (l0.length : Int)).bind fun t851 => (trishawlaw01_TurnMerged.j0 k l0 l1 a2 a3 (t851 != 0)))) else (trishawlaw01_TurnMerged.j0 k l0 l1 a2 a3 true)) else (trishawlaw01_TurnMerged.j0 k l0 l1 a2 a3 true)))) = some r := h
 clear h
 replace H := Option.bind_eq_some_iff.mp H
 obtain ⟨⟨t848, t849⟩, A50, H⟩ := H
 replace H : ((trishawlaw01_few.f l0 l1).bind fun t850 => (if t850 = true then (if t849 = 0 then (if (l0.length : Int) < 2 then (trishawlaw01_TurnMerged.j0 k l0 l1 a2 a3 true) else ((trishawref01_Days.f k l1 (l0.length : Int)).bind fun t851 => (trishawlaw01_TurnMerged.j0 k l0 l1 a2 a3 (t851 != 0)))) else (trishawlaw01_TurnMerged.j0 k l0 l1 a2 a3 true)) else (trishawlaw01_TurnMerged.j0 k l0 l1 a2 a3 true))) = some r := H
 have A5 := Aside0.mk A50
 clear A50
 have HC6 := Aside0.mk H
 clear H
 go_enter Tryd.func14, Tryd.ntmps14
 go_upto_region 2 with (first | ((with_reducible refine gate_callee (f := 23) rfl ?_); refine goesL_ (some 23) rfl rfl Tryd.func23 (by kernel_rfl) rfl #[.slice A0 l0.length c0] rfl (as_) ?_; (with_reducible refine (trishawref01_Shares.calls k _ _ l0 t848 t849 _ ?side1 ?side2 A5.out).mono ?_); (case side1 => repeat (first | exact HR0.out | (with_reducible refine Kd.C_alloc ?_ _) | (with_reducible refine Kd.C_drewN ?_ _) | (with_reducible refine Kd.C_drew ?_))); (case side2 => exact HC0.out); rintro e w' ⟨rfl, ⟨nd, rfl⟩⟩; refine ⟨_, rfl, ?_⟩))
 (try simp only [Act.put, List.setIfInBounds_toArray, List.set_cons_zero, List.set_cons_succ])
 go_cut [45] (fun v45 wc => ∃ (kq : Nat) (x45_5 : Bool), v45 = .bool x45_5 ∧ Aside0 (trishawlaw01_TurnMerged.j0 kq l0 l1 a2 a3 x45_5 = some r) ∧ Aside0 (kq ≤ k) ∧ Aside0 (Below w.heap.size w wc))
 case first =>
  have H := HC6.out
  clear HC6
  replace H := Option.bind_eq_some_iff.mp H
  obtain ⟨t850, A70, H⟩ := H
  replace H : (if t850 = true then (if t849 = 0 then (if (l0.length : Int) < 2 then (trishawlaw01_TurnMerged.j0 k l0 l1 a2 a3 true) else ((trishawref01_Days.f k l1 (l0.length : Int)).bind fun t851 => (trishawlaw01_TurnMerged.j0 k l0 l1 a2 a3 (t851 != 0)))) else (trishawlaw01_TurnMerged.j0 k l0 l1 a2 a3 true)) else (trishawlaw01_TurnMerged.j0 k l0 l1 a2 a3 true)) = some r := H
  have A7 := Aside0.mk A70
  clear A70
  by_cases c8 : t850 = true
  ·subst c8
   have H1 : (if t849 = 0 then (if (l0.length : Int) < 2 then (trishawlaw01_TurnMerged.j0 k l0 l1 a2 a3 true) else ((trishawref01_Days.f k l1 (l0.length : Int)).bind fun t851 => (trishawlaw01_TurnMerged.j0 k l0 l1 a2 a3 (t851 != 0)))) else (trishawlaw01_TurnMerged.j0 k l0 l1 a2 a3 true)) = some r := by rw [if_pos rfl] at H; exact H
   clear H
   have H := H1
   clear H1
   by_cases c9 : t849 = 0
   ·rw [if_pos c9] at H
    have c9b0 : (t849 == 0) = true := beq_iff_eq.mpr c9
    have c9b1 : (t849 != 0) = false := bne_eq_false_iff_eq.mpr c9
    clear c9
    (first | rw [c9b0] | (simp only [i64_w, i32_w]; rw [c9b0]) | skip)
    by_cases c10 : (l0.length : Int) < 2
    ·rw [if_pos c10] at H
     have c10b0 : decide ((l0.length : Int) < 2) = true := decide_eq_true c10
     have c10b1 : decide (l0.length < 2) = true := decide_eq_true (by omega)
     clear c10
     have H' := Aside0.mk H
     clear H
     go_wp2_with (first | ((with_reducible refine gate_callee (f := 16) rfl ?_); refine goesL_ (some 28) rfl rfl Tryd.func16 (by kernel_rfl) rfl #[.slice A0 l0.length c0, .slice A1 l1.length c1] rfl (as_) ?_; (with_reducible refine (trishawlaw01_few.calls _ _ l0 _ _ l1 true _ ?side1 ?side2 ?side3 ?side4 A7.out).mono ?_); (case side1 => repeat (first | exact (Kd.C_below HR0.out HB.out) | (with_reducible refine Kd.C_alloc ?_ _) | (with_reducible refine Kd.C_drewN ?_ _) | (with_reducible refine Kd.C_drew ?_))); (case side2 => exact HC0.out); (case side3 => repeat (first | exact (Kd.C_below HR1.out HB.out) | (with_reducible refine Kd.C_alloc ?_ _) | (with_reducible refine Kd.C_drewN ?_ _) | (with_reducible refine Kd.C_drew ?_))); (case side4 => exact HC1.out); rintro e w' ⟨rfl, ⟨nd, rfl⟩⟩; refine ⟨_, rfl, ?_⟩))
     go_meet
     case rel => exact ⟨_, (true), (by first | rfl | (simp; done) | (simp [*]; done)), H', ⟨by first | omega | exact Nat.le_refl _⟩, ⟨bl_⟩⟩
    ·rw [if_neg c10] at H
     have c10b0 : decide ((l0.length : Int) < 2) = false := decide_eq_false c10
     have c10b1 : decide (l0.length < 2) = false := decide_eq_false (by omega)
     clear c10
     replace H := Option.bind_eq_some_iff.mp H
     obtain ⟨t851, A110, H⟩ := H
     replace H : (trishawlaw01_TurnMerged.j0 k l0 l1 a2 a3 (t851 != 0)) = some r := H
     have A11 := Aside0.mk A110
     clear A110
     have H' := Aside0.mk H
     clear H
     go_wp2_with (first | ((with_reducible refine gate_callee (f := 16) rfl ?_); refine goesL_ (some 28) rfl rfl Tryd.func16 (by kernel_rfl) rfl #[.slice A0 l0.length c0, .slice A1 l1.length c1] rfl (as_) ?_; (with_reducible refine (trishawlaw01_few.calls _ _ l0 _ _ l1 true _ ?side1 ?side2 ?side3 ?side4 A7.out).mono ?_); (case side1 => repeat (first | exact (Kd.C_below HR0.out HB.out) | (with_reducible refine Kd.C_alloc ?_ _) | (with_reducible refine Kd.C_drewN ?_ _) | (with_reducible refine Kd.C_drew ?_))); (case side2 => exact HC0.out); (case side3 => repeat (first | exact (Kd.C_below HR1.out HB.out) | (with_reducible refine Kd.C_alloc ?_ _) | (with_reducible refine Kd.C_drewN ?_ _) | (with_reducible refine Kd.C_drew ?_))); (case side4 => exact HC1.out); rintro e w' ⟨rfl, ⟨nd, rfl⟩⟩; refine ⟨_, rfl, ?_⟩) | (go_at_call 24; (with_reducible refine (trishawref01_Days.calls k _ _ l1 (l0.length : Int) t851 _ ?side1 ?side2 A11.out).mono ?_); (case side1 => repeat (first | exact (Kd.C_below HR1.out (bl_)) | (with_reducible refine Kd.C_alloc ?_ _) | (with_reducible refine Kd.C_drewN ?_ _) | (with_reducible refine Kd.C_drew ?_))); (case side2 => exact HC1.out); rintro e w' ⟨rfl, ⟨nd, rfl⟩⟩))
     go_meet
     case rel => exact ⟨_, ((t851 != 0)), (by first | rfl | (simp; done) | (simp [*]; done)), H', ⟨by first | omega | exact Nat.le_refl _⟩, ⟨bl_⟩⟩
   ·rw [if_neg c9] at H
    have c9b0 : (t849 == 0) = false := beq_eq_false_iff_ne.mpr c9
    have c9b1 : (t849 != 0) = true := bne_iff_ne.mpr c9
    (first | rw [c9b0] | (simp only [i64_w, i32_w]; rw [c9b0]) | skip)
    have H' := Aside0.mk H
    clear H
    go_wp2_with (first | ((with_reducible refine gate_callee (f := 16) rfl ?_); refine goesL_ (some 28) rfl rfl Tryd.func16 (by kernel_rfl) rfl #[.slice A0 l0.length c0, .slice A1 l1.length c1] rfl (as_) ?_; (with_reducible refine (trishawlaw01_few.calls _ _ l0 _ _ l1 true _ ?side1 ?side2 ?side3 ?side4 A7.out).mono ?_); (case side1 => repeat (first | exact (Kd.C_below HR0.out HB.out) | (with_reducible refine Kd.C_alloc ?_ _) | (with_reducible refine Kd.C_drewN ?_ _) | (with_reducible refine Kd.C_drew ?_))); (case side2 => exact HC0.out); (case side3 => repeat (first | exact (Kd.C_below HR1.out HB.out) | (with_reducible refine Kd.C_alloc ?_ _) | (with_reducible refine Kd.C_drewN ?_ _) | (with_reducible refine Kd.C_drew ?_))); (case side4 => exact HC1.out); rintro e w' ⟨rfl, ⟨nd, rfl⟩⟩; refine ⟨_, rfl, ?_⟩))
    go_meet
    case rel => exact ⟨_, (true), (by first | rfl | (simp; done) | (simp [*]; done)), H', ⟨by first | omega | exact Nat.le_refl _⟩, ⟨bl_⟩⟩
  ·replace c8 := Bool.eq_false_iff.mpr c8
   subst c8
   have H1 : (trishawlaw01_TurnMerged.j0 k l0 l1 a2 a3 true) = some r := by rw [if_neg (show ¬ (false = true) by decide)] at H; exact H
   clear H
   have H := H1
   clear H1
   have H' := Aside0.mk H
   clear H
   go_wp2_with (first | ((with_reducible refine gate_callee (f := 16) rfl ?_); refine goesL_ (some 28) rfl rfl Tryd.func16 (by kernel_rfl) rfl #[.slice A0 l0.length c0, .slice A1 l1.length c1] rfl (as_) ?_; (with_reducible refine (trishawlaw01_few.calls _ _ l0 _ _ l1 false _ ?side1 ?side2 ?side3 ?side4 A7.out).mono ?_); (case side1 => repeat (first | exact (Kd.C_below HR0.out HB.out) | (with_reducible refine Kd.C_alloc ?_ _) | (with_reducible refine Kd.C_drewN ?_ _) | (with_reducible refine Kd.C_drew ?_))); (case side2 => exact HC0.out); (case side3 => repeat (first | exact (Kd.C_below HR1.out HB.out) | (with_reducible refine Kd.C_alloc ?_ _) | (with_reducible refine Kd.C_drewN ?_ _) | (with_reducible refine Kd.C_drew ?_))); (case side4 => exact HC1.out); rintro e w' ⟨rfl, ⟨nd, rfl⟩⟩; refine ⟨_, rfl, ?_⟩))
   go_meet
   case rel => exact ⟨_, (true), (by first | rfl | (simp; done) | (simp [*]; done)), H', ⟨by first | omega | exact Nat.le_refl _⟩, ⟨bl_⟩⟩
 case rest =>
  clear HC6
  try clear c1
  try clear c2
  try clear p2
  try clear c8
  try clear c9
  try clear c9b0
  try clear c9b1
  try clear c10
  try clear c10b0
  try clear c10b1
  obtain ⟨kq, x45_5, rfl, HA, HJ5, HB⟩ := hcut
  cases kq with
  | zero => exact absurd HA.out (by simp [trishawlaw01_TurnMerged.j0])
  | succ kj5 =>
   have H := HA.out
   clear HA
   simp only [trishawlaw01_TurnMerged.j0] at H
   by_cases c12 : x45_5 = true
   ·subst c12
    have H1 : ((trishawlaw01_alive.f kj5).bind fun t852 => (some t852)) = some r := by rw [if_pos rfl] at H; exact H
    clear H
    have H := H1
    clear H1
    replace H := Option.bind_eq_some_iff.mp H
    obtain ⟨t852, A130, H⟩ := H
    replace H : (some t852) = some r := H
    have A13 := Aside0.mk A130
    clear A130
    obtain rfl := Option.some.inj H
    go_wp2_with (first | ((with_reducible refine gate_callee (f := 17) rfl ?_); refine goesL_ (some 46) rfl rfl Tryd.func17 (by kernel_rfl) rfl #[] rfl (as_) ?_; (with_reducible refine (trishawlaw01_alive.calls kj5  t852 _ A13.out (HN.out.of (bl_))).mono ?_); rintro e w14 ⟨rfl, hb⟩; refine ⟨_, rfl, ?_⟩; have n0_ := Aside0.mk (below_step (bl_) hb); clear HB; have HB := n0_; clear n0_; (try clear hb); (try clear hb2); (try clear hk); (try clear hi)))
    go_ret
    exact ⟨by first | rfl | (simp [errW_none, errW_some] <;> rfl) | (simp [*, errW_none, errW_some] <;> rfl), bl_⟩
   ·replace c12 := Bool.eq_false_iff.mpr c12
    subst c12
    have H1 : (if (wrap64 ((l0.length : Int) - 1)) = 0 then (none) else (if (wrap64 (1 + (Int.tmod (wrap64 (a2)) (wrap64 ((l0.length : Int) - 1))))) = 0 then (none) else (if 0 ≤ (Int.tmod (wrap64 (a3)) (wrap64 (1 + (Int.tmod (wrap64 (a2)) (wrap64 ((l0.length : Int) - 1)))))) then (if (Int.tmod (wrap64 (a3)) (wrap64 (1 + (Int.tmod (wrap64 (a2)) (wrap64 ((l0.length : Int) - 1)))))) < (l0.length : Int) then (if 0 ≤ (wrap64 (1 + (Int.tmod (wrap64 (a2)) (wrap64 ((l0.length : Int) - 1))))) then (if (wrap64 (1 + (Int.tmod (wrap64 (a2)) (wrap64 ((l0.length : Int) - 1))))) < (l0.length : Int) then (if (wrap64 ((rd l0 (Int.tmod (wrap64 (a3)) (wrap64 (1 + (Int.tmod (wrap64 (a2)) (wrap64 ((l0.length : Int) - 1))))))) + (rd l0 (wrap64 (1 + (Int.tmod (wrap64 (a2)) (wrap64 ((l0.length : Int) - 1)))))))) > 20 then ((trishawlaw01_alive.f kj5).bind fun t855 => (some t855)) else (trishawlaw01_TurnMerged.l0 kj5 l0 l1 (wrap64 (1 + (Int.tmod (wrap64 (a2)) (wrap64 ((l0.length : Int) - 1))))) (Int.tmod (wrap64 (a3)) (wrap64 (1 + (Int.tmod (wrap64 (a2)) (wrap64 ((l0.length : Int) - 1)))))) ([] : List Int) 0)) else (none)) else (none)) else (none)) else (none)))) = some r := by rw [if_neg (show ¬ (false = true) by decide)] at H; exact H
    clear H
    have H := H1
    clear H1
    by_cases c15 : (wrap64 ((l0.length : Int) - 1)) = 0
    ·rw [if_pos c15] at H
     exact absurd H (by simp)
    ·rw [if_neg c15] at H
     have c15b0 : ((wrap64 ((l0.length : Int) - 1)) == 0) = false := beq_eq_false_iff_ne.mpr c15
     have c15b1 : ((wrap64 ((l0.length : Int) - 1)) != 0) = true := bne_iff_ne.mpr c15
     by_cases c16 : (wrap64 (1 + (Int.tmod (wrap64 (a2)) (wrap64 ((l0.length : Int) - 1))))) = 0
     ·rw [if_pos c16] at H
      exact absurd H (by simp)
     ·rw [if_neg c16] at H
      have c16b0 : ((wrap64 (1 + (Int.tmod (wrap64 (a2)) (wrap64 ((l0.length : Int) - 1))))) == 0) = false := beq_eq_false_iff_ne.mpr c16
      have c16b1 : ((wrap64 (1 + (Int.tmod (wrap64 (a2)) (wrap64 ((l0.length : Int) - 1))))) != 0) = true := bne_iff_ne.mpr c16
      obtain ⟨ji17, hji17⟩ : ∃ j_ : Int, (Int.tmod (wrap64 (a3)) (wrap64 (1 + (Int.tmod (wrap64 (a2)) (wrap64 ((l0.length : Int) - 1)))))) = j_ := ⟨_, rfl⟩
      replace H : (if 0 ≤ (ji17) then (if (ji17) < (l0.length : Int) then (if 0 ≤ (wrap64 (1 + (Int.tmod (wrap64 (a2)) (wrap64 ((l0.length : Int) - 1))))) then (if (wrap64 (1 + (Int.tmod (wrap64 (a2)) (wrap64 ((l0.length : Int) - 1))))) < (l0.length : Int) then (if (wrap64 ((rd l0 (ji17)) + (rd l0 (wrap64 (1 + (Int.tmod (wrap64 (a2)) (wrap64 ((l0.length : Int) - 1)))))))) > 20 then ((trishawlaw01_alive.f kj5).bind fun t855 => (some t855)) else (trishawlaw01_TurnMerged.l0 kj5 l0 l1 (wrap64 (1 + (Int.tmod (wrap64 (a2)) (wrap64 ((l0.length : Int) - 1))))) ji17 ([] : List Int) 0)) else (none)) else (none)) else (none)) else (none)) = some r := by first | (rw [hji17] at H; exact H) | (simp only [hji17] at H ⊢; exact H)
      have c18 : 0 ≤ (ji17) := fl_ fun c18 => by rw [if_neg c18] at H; exact absurd H (by simp)
      rw [if_pos c18] at H
      have c18b0 : decide (0 ≤ (ji17)) = true := decide_eq_true c18
      clear c18
      have c19 : (ji17) < (l0.length : Int) := fl_ fun c19 => by rw [if_neg c19] at H; exact absurd H (by simp)
      rw [if_pos c19] at H
      have c19b0 : decide ((ji17) < (l0.length : Int)) = true := decide_eq_true c19
      clear c19
      obtain ⟨ji20, hji20⟩ : ∃ j_ : Int, (wrap64 (1 + (Int.tmod (wrap64 (a2)) (wrap64 ((l0.length : Int) - 1))))) = j_ := ⟨_, rfl⟩
      replace H : (if 0 ≤ (ji20) then (if (ji20) < (l0.length : Int) then (if (wrap64 ((rd l0 (ji17)) + (rd l0 (ji20)))) > 20 then ((trishawlaw01_alive.f kj5).bind fun t855 => (some t855)) else (trishawlaw01_TurnMerged.l0 kj5 l0 l1 ji20 ji17 ([] : List Int) 0)) else (none)) else (none)) = some r := by first | (rw [hji20] at H; exact H) | (simp only [hji20] at H ⊢; exact H)
      (try rw [hji20] at c16b0)
      (try rw [hji20] at c16b1)
      have hji20w : (IntKind.i64.wrap (1 + (Int.tmod (wrap64 (a2)) (wrap64 ((l0.length : Int) - 1))))) = ji20 := (i64_w _).trans hji20
      (try rw [hji20] at hji17)
      have c21 : 0 ≤ (ji20) := fl_ fun c21 => by rw [if_neg c21] at H; exact absurd H (by simp)
      rw [if_pos c21] at H
      have c21b0 : decide (0 ≤ (ji20)) = true := decide_eq_true c21
      clear c21
      have c22 : (ji20) < (l0.length : Int) := fl_ fun c22 => by rw [if_neg c22] at H; exact absurd H (by simp)
      rw [if_pos c22] at H
      have c22b0 : decide ((ji20) < (l0.length : Int)) = true := decide_eq_true c22
      clear c22
      by_cases c23 : (wrap64 ((rd l0 (ji17)) + (rd l0 (ji20)))) > 20
      ·rw [if_pos c23] at H
       have c23b0 : decide (20 < (wrap64 ((rd l0 (ji17)) + (rd l0 (ji20))))) = true := decide_eq_true c23
       clear c23
       replace H := Option.bind_eq_some_iff.mp H
       obtain ⟨t855, A240, H⟩ := H
       replace H : (some t855) = some r := H
       have A24 := Aside0.mk A240
       clear A240
       obtain rfl := Option.some.inj H
       try go_wp2
       have n0_ := Aside0.mk (below_drew1 HB.out)
       clear HB
       have HB := n0_
       clear n0_
       have p853 : 0 ≤ ((ji17) : Int) := od_
       have q853 : (ji17) < (l0.length : Int) := od_
       obtain ⟨ad853, e853, hx853_0⟩ := Kd.at_int HR0.out (ji17) p853 q853
       have hw853_0 := hx853_0
       cases e853
       replace hx853_0 := (HB.out.cell (World.block_lt_of_cell? w _ hx853_0)).trans hx853_0
       replace p853 := eq_true p853
       replace q853 := eq_true q853
       have p854 : 0 ≤ ((ji20) : Int) := od_
       have q854 : (ji20) < (l0.length : Int) := od_
       obtain ⟨ad854, e854, hx854_0⟩ := Kd.at_int HR0.out (ji20) p854 q854
       have hw854_0 := hx854_0
       obtain rfl : ad853 = ad854 := (by injection e854)
       replace hx854_0 := (HB.out.cell (World.block_lt_of_cell? w _ hx854_0)).trans hx854_0
       replace p854 := eq_true p854
       replace q854 := eq_true q854
       refine start_ (n := 10) (S := fun w' => w'.cell? (ad853.add ((ji17)).toNat) = some (.int .i64 (rd l0 (ji17))) ∧ w'.cell? (ad853.add ((ji20)).toNat) = some (.int .i64 (rd l0 (ji20)))) (ds := []) #[false, false, false, false, false, false, false, false, false, false] (by kernel_rfl) rfl rfl ⟨((HB.out.cell (World.block_lt_of_cell? w _ hw853_0)).trans hw853_0), ((HB.out.cell (World.block_lt_of_cell? w _ hw854_0)).trans hw854_0)⟩ (fun hHeld => ?_); refine with_tabW trishawlaw01_TurnMerged.tab6 trishawlaw01_TurnMerged.bits6 (fun HT_ HW_ => ?_)
       generalize wc.drew = w25 at HB hx853_0 hx854_0 hHeld ⊢
       refine pu_ 0 58 HT_.out (h := ?_)
       refine pu_ 1 59 HT_.out (h := ?_)
       refine pu_ 2 60 HT_.out (h := ?_)
       refine pu_ 4 62 HT_.out (h := ?_)
       refine pu_ 5 63 HT_.out (h := ?_)
       refine pu_ 6 64 HT_.out (h := ?_)
       refine ta_ 3 61 HT_.out HW_.out hHeld (h := ?_)
       refine ta_ 7 65 HT_.out HW_.out hHeld (h := ?_)
       refine pu_ 8 66 HT_.out (h := ?_)
       refine pu_ 9 67 HT_.out (h := ?_)
       refine done_ (done_of HT_.out (by kernel_rfl)) ?_
       try go_wp2_with (first | ((with_reducible refine gate_callee (f := 17) rfl ?_); refine goesL_ (some 68) rfl rfl Tryd.func17 (by kernel_rfl) rfl #[] rfl (as_) ?_; (with_reducible refine (trishawlaw01_alive.calls kj5  t855 _ A24.out (HN.out.of (bl_))).mono ?_); rintro e w26 ⟨rfl, hb⟩; refine ⟨_, rfl, ?_⟩; have n0_ := Aside0.mk (below_step (bl_) hb); clear HB; have HB := n0_; clear n0_; (try clear hb); (try clear hb2); (try clear hk); (try clear hi)))
       go_ret
       exact ⟨by first | rfl | (simp [errW_none, errW_some] <;> rfl) | (simp only [← hji17, ← hji20]; first | rfl | (simp [errW_none, errW_some] <;> rfl)) | (simp [*, errW_none, errW_some] <;> rfl), bl_⟩
      ·rw [if_neg c23] at H
       have c23b0 : decide (20 < (wrap64 ((rd l0 (ji17)) + (rd l0 (ji20))))) = false := decide_eq_false c23
       clear c23
       have H' := Aside0.mk H
       clear H
       try go_wp2
       have n0_ := Aside0.mk (below_drew1 HB.out)
       clear HB
       have HB := n0_
       clear n0_
       have p853 : 0 ≤ ((ji17) : Int) := od_
       have q853 : (ji17) < (l0.length : Int) := od_
       obtain ⟨ad853, e853, hx853_0⟩ := Kd.at_int HR0.out (ji17) p853 q853
       have hw853_0 := hx853_0
       cases e853
       replace hx853_0 := (HB.out.cell (World.block_lt_of_cell? w _ hx853_0)).trans hx853_0
       replace p853 := eq_true p853
       replace q853 := eq_true q853
       have p854 : 0 ≤ ((ji20) : Int) := od_
       have q854 : (ji20) < (l0.length : Int) := od_
       obtain ⟨ad854, e854, hx854_0⟩ := Kd.at_int HR0.out (ji20) p854 q854
       have hw854_0 := hx854_0
       obtain rfl : ad853 = ad854 := (by injection e854)
       replace hx854_0 := (HB.out.cell (World.block_lt_of_cell? w _ hx854_0)).trans hx854_0
       replace p854 := eq_true p854
       replace q854 := eq_true q854
       refine start_ (n := 10) (S := fun w' => w'.cell? (ad853.add ((ji17)).toNat) = some (.int .i64 (rd l0 (ji17))) ∧ w'.cell? (ad853.add ((ji20)).toNat) = some (.int .i64 (rd l0 (ji20)))) (ds := []) #[false, false, false, false, false, false, false, false, false, false] (by kernel_rfl) rfl rfl ⟨((HB.out.cell (World.block_lt_of_cell? w _ hw853_0)).trans hw853_0), ((HB.out.cell (World.block_lt_of_cell? w _ hw854_0)).trans hw854_0)⟩ (fun hHeld => ?_); refine with_tabW trishawlaw01_TurnMerged.tab6 trishawlaw01_TurnMerged.bits6 (fun HT_ HW_ => ?_)
       generalize wc.drew = w27 at HB hx853_0 hx854_0 hHeld ⊢
       refine pu_ 0 58 HT_.out (h := ?_)
       refine pu_ 1 59 HT_.out (h := ?_)
       refine pu_ 2 60 HT_.out (h := ?_)
       refine pu_ 4 62 HT_.out (h := ?_)
       refine pu_ 5 63 HT_.out (h := ?_)
       refine pu_ 6 64 HT_.out (h := ?_)
       refine ta_ 3 61 HT_.out HW_.out hHeld (h := ?_)
       refine ta_ 7 65 HT_.out HW_.out hHeld (h := ?_)
       refine pu_ 8 66 HT_.out (h := ?_)
       refine pu_ 9 67 HT_.out (h := ?_)
       refine done_ (done_of HT_.out (by kernel_rfl)) ?_
       try go_wp2
       go_loopg [13, 14] kj5 (fun kq v13 v14 w' => ∃ (x13_2 : List Int) (x14_2 : Int), v14 = .int .i64 x14_2 ∧ Aside0 (trishawlaw01_TurnMerged.l0 kq l0 l1 ji20 ji17 x13_2 x14_2 = some r) ∧ Aside0 (kq ≤ kj5) ∧ Aside0 (Kd.R (Kd.int .i64) 3 w' w.heap.size (fun _ => True) v13 x13_2) ∧ Aside0 (Below w.heap.size w w'))
       case atStart => exact ⟨(([] : List Int)), (0), (by first | rfl | (simp; done) | (simp [*]; done)), H', ⟨Nat.le_refl _⟩, ⟨by first | exact Kd.R_nil _ _ _ _ _ | exact Kd.N_nil _ _ _ _ _ | exact Kd.V_nil _ _ _ _ _ | exact Kd.Q_nil _ _ _ _ _ | exact Kd.S_nil _ _ _ _ _⟩, ⟨bl_⟩⟩
       case round =>
        clear H'
        try clear c1
        try clear c2
        try clear p2
        try clear p6
        try clear c8
        try clear p8
        try clear q8
        try clear hx8
        try clear c9
        try clear c9b0
        try clear c9b1
        try clear c10
        try clear c10b0
        try clear c10b1
        try clear c12
        try clear c14
        try clear c15
        try clear c15b0
        try clear c15b1
        try clear c16
        try clear c16b0
        try clear c16b1
        try clear c17
        try clear c18
        try clear c18b0
        try clear c19
        try clear c19b0
        try clear c21
        try clear c21b0
        try clear c22
        try clear c22b0
        try clear c23
        try clear c23b0
        try clear hx853_0
        try clear hx854_0
        try clear p2
        try clear p853
        try clear p854
        try clear q853
        try clear q854
        obtain ⟨x13_2, x14_2, rfl, HA, HK2, HO_13, HB⟩ := hrel
        cases gk with
        | zero => exact absurd HA.out (by simp [trishawlaw01_TurnMerged.l0])
        | succ k2 =>
         have H := HA.out
         clear HA
         simp only [trishawlaw01_TurnMerged.l0] at H
         by_cases c28 : x14_2 < (l0.length : Int)
         ·rw [if_pos c28] at H
          have c28b0 : decide (x14_2 < (l0.length : Int)) = true := decide_eq_true c28
          clear c28
          by_cases c29 : x14_2 = ji20
          ·rw [if_pos c29] at H
           have c29b0 : (x14_2 == ji20) = true := beq_iff_eq.mpr c29
           have c29b1 : (x14_2 != ji20) = false := bne_eq_false_iff_eq.mpr c29
           clear c29
           have H' := Aside0.mk H
           clear H
           go_wp2
           go_roundg k2
           case measure => have := HJ5.out; have := HK2.out; omega
           case rel => exact ⟨(x13_2), (wrap64 (x14_2 + 1)), (by first | rfl | (simp; done) | (simp [*]; done)), H', ⟨by have := HJ5.out; have := HK2.out; omega⟩, ⟨kr_ HO_13.out⟩, ⟨bl_⟩⟩
          ·rw [if_neg c29] at H
           have c29b0 : (x14_2 == ji20) = false := beq_eq_false_iff_ne.mpr c29
           have c29b1 : (x14_2 != ji20) = true := bne_iff_ne.mpr c29
           have c30 : 0 ≤ x14_2 := fl_ fun c30 => by rw [if_neg c30] at H; exact absurd H (by simp)
           rw [if_pos c30] at H
           have c30b0 : decide (0 ≤ x14_2) = true := decide_eq_true c30
           clear c30
           have c31 : x13_2.length < 17592186044416 := fl_ fun c31 => by rw [if_neg c31] at H; exact absurd H (by simp)
           rw [if_pos c31] at H
           have LMc31 := Aside0.mk c31
           clear c31
           obtain ⟨y857, hy857⟩ : ∃ y_ : List Int, y_ = (x13_2 ++ [rd l0 x14_2]) := ⟨_, rfl⟩
           replace H : (trishawlaw01_TurnMerged.l0 k2 l0 l1 ji20 ji17 y857 (wrap64 (x14_2 + 1))) = some r := by first | (rw [hy857]; with_reducible exact H) | (have H2_ := (Option.bind_some _ _).symm.trans H; rw [hy857]; with_reducible exact H2_) | (have H2_ := (Option.bind_some _ _).symm.trans H; with_reducible exact H2_) | with_reducible exact H | (rw [hy857]; exact H) | exact H
           have Ny857 := Aside0.mk hy857
           clear hy857
           have H' := Aside0.mk H
           clear H
           have p856 : 0 ≤ (x14_2 : Int) := od_
           have q856 : x14_2 < (l0.length : Int) := od_
           obtain ⟨ad856, e856, hx856_0⟩ := Kd.at_int HR0.out x14_2 p856 q856
           obtain rfl : ad853 = ad856 := (by injection e856)
           replace hx856_0 := (HB.out.cell (World.block_lt_of_cell? w _ hx856_0)).trans hx856_0
           replace p856 := eq_true p856
           replace q856 := eq_true q856
           go_wp2_with (first | ((with_reducible refine gate_builtin (b := .append) (xs := #[.tmp 78, .tmp 83]) rfl ?_); (try (refine gate_guard (by rfl) ?_; dsimp only)); at_builtin; refine Kd.R_append (Kd.int .i64) (w0 := w) w.heap.size rfl (.tmp 78) (.tmp 83) 22 3 (.int .i64 0) 8 rfl Tryd.underlying22 info3 rfl (by decide) (by omega) u13 x13_2 (rd l0 x14_2) [.int .i64 (rd l0 x14_2)] (fun _ => True) (fun _ => False) rfl rfl ?aP (fun _ hk => hk.elim) ?aF ?aO ?aB ?aS ?aL ?_; (case aP => exact rfl); (case aB => exact (bl_)); (case aF => exact (fun _ _ => trivial)); (case aO => exact (kr_ HO_13.out)); (case aS => exact (below_size (bl_))); (case aL => have := LMc31.out; omega); intro v858 w32 ho hb hg hat; rw [← Ny857.out] at ho; have n0_ := Aside0.mk (hb); have n1_ := Aside0.mk (ho); clear HB; clear HO_13; have HB := n0_; have HO859 := n1_; clear n0_ n1_; clear ho hb hg hat))
           go_roundg k2
           case measure => have := HJ5.out; have := HK2.out; omega
           case rel => exact ⟨(y857), (wrap64 (x14_2 + 1)), (by first | rfl | (simp; done) | (simp [*]; done)), H', ⟨by have := HJ5.out; have := HK2.out; omega⟩, ⟨kr_ HO859.out⟩, ⟨bl_⟩⟩
         ·rw [if_neg c28] at H
          have c28b0 : decide (x14_2 < (l0.length : Int)) = false := decide_eq_false c28
          clear c28
          have c33 : 0 ≤ ji17 := fl_ fun c33 => by rw [if_neg c33] at H; exact absurd H (by simp)
          rw [if_pos c33] at H
          have c33b0 : decide (0 ≤ ji17) = true := decide_eq_true c33
          clear c33
          have c34 : ji17 < (x13_2.length : Int) := fl_ fun c34 => by rw [if_neg c34] at H; exact absurd H (by simp)
          rw [if_pos c34] at H
          have c34b0 : decide (ji17 < (x13_2.length : Int)) = true := decide_eq_true c34
          clear c34
          have c35 : 0 ≤ ji20 := fl_ fun c35 => by rw [if_neg c35] at H; exact absurd H (by simp)
          rw [if_pos c35] at H
          have c35b0 : decide (0 ≤ ji20) = true := decide_eq_true c35
          clear c35
          have c36 : ji20 < (l0.length : Int) := fl_ fun c36 => by rw [if_neg c36] at H; exact absurd H (by simp)
          rw [if_pos c36] at H
          have c36b0 : decide (ji20 < (l0.length : Int)) = true := decide_eq_true c36
          clear c36
          obtain ⟨y862, hy862⟩ : ∃ y_ : List Int, y_ = (x13_2.set (ji17 : Int).toNat (wrap64 ((rd x13_2 ji17) + (rd l0 ji20)))) := ⟨_, rfl⟩
          replace H : ((turn_Merged.f k2 l1 ji17 ji20).bind fun bt863 => ((turn_Deviation.f k2 l0 l1).bind fun bt867 => ((turn_Deviation.f k2 y862 bt863.1).bind fun bt871 => (if bt863.2 = 0 then (if bt867.2.2 = 0 then (if bt871.2.2 = 0 then ((trishawlaw01_small.f bt867.1 bt867.2.1).bind fun t875 => (if t875 = true then ((trishawlaw01_small.f bt871.1 bt871.2.1).bind fun t876 => (trishawlaw01_TurnMerged.j2 k2 (!t876) bt867.1 bt867.2.1 bt871.1 bt871.2.1)) else (trishawlaw01_TurnMerged.j2 k2 true bt867.1 bt867.2.1 bt871.1 bt871.2.1))) else (trishawlaw01_TurnMerged.j2 k2 true bt867.1 bt867.2.1 bt871.1 bt871.2.1)) else (trishawlaw01_TurnMerged.j2 k2 true bt867.1 bt867.2.1 bt871.1 bt871.2.1)) else (trishawlaw01_TurnMerged.j2 k2 true bt867.1 bt867.2.1 bt871.1 bt871.2.1))))) = some r := by first | (rw [hy862]; with_reducible exact H) | (have H2_ := (Option.bind_some _ _).symm.trans H; rw [hy862]; with_reducible exact H2_) | (have H2_ := (Option.bind_some _ _).symm.trans H; with_reducible exact H2_) | with_reducible exact H | (rw [hy862]; exact H) | exact H
          have Ny862 := Aside0.mk hy862
          clear hy862
          replace H := Option.bind_eq_some_iff.mp H
          obtain ⟨⟨t863, t864⟩, A380, H⟩ := H
          replace H : ((turn_Deviation.f k2 l0 l1).bind fun bt867 => ((turn_Deviation.f k2 y862 t863).bind fun bt871 => (if t864 = 0 then (if bt867.2.2 = 0 then (if bt871.2.2 = 0 then ((trishawlaw01_small.f bt867.1 bt867.2.1).bind fun t875 => (if t875 = true then ((trishawlaw01_small.f bt871.1 bt871.2.1).bind fun t876 => (trishawlaw01_TurnMerged.j2 k2 (!t876) bt867.1 bt867.2.1 bt871.1 bt871.2.1)) else (trishawlaw01_TurnMerged.j2 k2 true bt867.1 bt867.2.1 bt871.1 bt871.2.1))) else (trishawlaw01_TurnMerged.j2 k2 true bt867.1 bt867.2.1 bt871.1 bt871.2.1)) else (trishawlaw01_TurnMerged.j2 k2 true bt867.1 bt867.2.1 bt871.1 bt871.2.1)) else (trishawlaw01_TurnMerged.j2 k2 true bt867.1 bt867.2.1 bt871.1 bt871.2.1)))) = some r := H
          have A38 := Aside0.mk A380
          clear A380
          replace H := Option.bind_eq_some_iff.mp H
          obtain ⟨⟨t867, t868, t869⟩, A390, H⟩ := H
          replace H : ((turn_Deviation.f k2 y862 t863).bind fun bt871 => (if t864 = 0 then (if t869 = 0 then (if bt871.2.2 = 0 then ((trishawlaw01_small.f t867 t868).bind fun t875 => (if t875 = true then ((trishawlaw01_small.f bt871.1 bt871.2.1).bind fun t876 => (trishawlaw01_TurnMerged.j2 k2 (!t876) t867 t868 bt871.1 bt871.2.1)) else (trishawlaw01_TurnMerged.j2 k2 true t867 t868 bt871.1 bt871.2.1))) else (trishawlaw01_TurnMerged.j2 k2 true t867 t868 bt871.1 bt871.2.1)) else (trishawlaw01_TurnMerged.j2 k2 true t867 t868 bt871.1 bt871.2.1)) else (trishawlaw01_TurnMerged.j2 k2 true t867 t868 bt871.1 bt871.2.1))) = some r := H
          have A39 := Aside0.mk A390
          clear A390
          replace H := Option.bind_eq_some_iff.mp H
          obtain ⟨⟨t871, t872, t873⟩, A400, H⟩ := H
          replace H : (if t864 = 0 then (if t869 = 0 then (if t873 = 0 then ((trishawlaw01_small.f t867 t868).bind fun t875 => (if t875 = true then ((trishawlaw01_small.f t871 t872).bind fun t876 => (trishawlaw01_TurnMerged.j2 k2 (!t876) t867 t868 t871 t872)) else (trishawlaw01_TurnMerged.j2 k2 true t867 t868 t871 t872))) else (trishawlaw01_TurnMerged.j2 k2 true t867 t868 t871 t872)) else (trishawlaw01_TurnMerged.j2 k2 true t867 t868 t871 t872)) else (trishawlaw01_TurnMerged.j2 k2 true t867 t868 t871 t872)) = some r := H
          have A40 := Aside0.mk A400
          clear A400
          have HC41 := Aside0.mk H
          clear H
          try go_wp2
          have n0_ := Aside0.mk (Kd.R_drew HO_13.out)
          have n1_ := Aside0.mk (below_drew1 HB.out)
          clear HO_13
          clear HB
          have HO_13 := n0_
          have HB := n1_
          clear n0_ n1_
          obtain ⟨Ao43, co43, eo43⟩ := Kd.R_slice HO_13.out
          (first | subst eo43 | (injection eo43 with f1_ f2_ f3_; have f4_ := f1_.symm; have f5_ := f3_.symm; clear f1_ f2_ f3_; subst f4_; subst f5_))
          have p860 : 0 ≤ (ji17 : Int) := od_
          have q860 : ji17 < (x13_2.length : Int) := od_
          obtain ⟨ad860, e860, hx860_0⟩ := Kd.at_int (Kd.R_reads' HO_13.out).2.2 ji17 p860 q860
          cases e860
          replace p860 := eq_true p860
          replace q860 := eq_true q860
          have p861 : 0 ≤ (ji20 : Int) := od_
          have q861 : ji20 < (l0.length : Int) := od_
          obtain ⟨ad861, e861, hx861_0⟩ := Kd.at_int HR0.out ji20 p861 q861
          have hw861_0 := hx861_0
          obtain rfl : ad853 = ad861 := (by injection e861)
          replace hx861_0 := (HB.out.cell (World.block_lt_of_cell? w _ hx861_0)).trans hx861_0
          replace p861 := eq_true p861
          replace q861 := eq_true q861
          have p37 : 0 ≤ (ji17 : Int) := od_
          have q37 : (ji17 : Int) < ((x13_2.length : Int) : Int) := od_
          obtain ⟨go37, co37, eo37, gb37, gl37, cl37, HG37⟩ := Kd.R_form HO_13.out (by omega)
          (first | cases eo37 | (injection eo37 with ea_ en_ ec_; (first | subst ea_ | (injection ea_ with ea_; subst ea_)); subst ec_; clear en_))
          have GB37 := Aside0.mk gb37
          have GG37 := Aside0.mk HG37
          clear gb37 gl37 HG37
          (first | simp only [add_plain] at hx860_0 | skip)
          obtain ⟨hx37_0, hf37_0⟩ := Kd.R_celln 0 HO_13.out (ji17 : Int) p37 q37
          replace p37 := eq_true p37
          replace q37 := eq_true q37
          have HP44 := Kd.R_putn HO_13.out (ji17 : Int) (wrap64 ((rd x13_2 ji17) + (rd l0 ji20)))
          rw [← Ny862.out] at HP44
          have HQ44 := Aside0.mk HP44
          clear HP44
          refine start_ (n := 11) (S := fun w' => w'.cell? ⟨go37, (ji17).toNat, none⟩ = some (.int .i64 (rd x13_2 ji17)) ∧ w'.cell? (ad853.add (ji20).toNat) = some (.int .i64 (rd l0 ji20))) (ds := [10]) #[false, false, false, false, false, false, false, false, false, false, false] (by kernel_rfl) rfl rfl ⟨hx860_0, ((HB.out.cell (World.block_lt_of_cell? w _ hw861_0)).trans hw861_0)⟩ (fun hHeld => ?_); refine with_tabW trishawlaw01_TurnMerged.tab14 trishawlaw01_TurnMerged.bits14 (fun HT_ HW_ => ?_)
          generalize wr.drew = w42 at HO_13 HB GG37 HQ44 hf37_0 hx37_0 hx860_0 hx861_0 hHeld ⊢
          refine pu_ 0 85 HT_.out (h := ?_)
          refine pu_ 1 86 HT_.out (h := ?_)
          refine pu_ 2 87 HT_.out (h := ?_)
          refine pu_ 4 89 HT_.out (h := ?_)
          refine pu_ 5 90 HT_.out (h := ?_)
          refine pu_ 6 91 HT_.out (h := ?_)
          refine ta_ 3 88 HT_.out HW_.out hHeld (h := ?_)
          refine ta_ 7 92 HT_.out HW_.out hHeld (h := ?_)
          refine pu_ 8 93 HT_.out (h := ?_)
          refine pu_ 9 94 HT_.out (h := ?_)
          refine last_ (i := 10) (N := none) #[true, true, true, true, true, true, true, true, true, true, true] rfl rfl (one_of HT_.out (by kernel_rfl)) (by decide) (fun K hK => ?_)
          refine skip_ (w1 := ?_) (by rfl) rfl ?_ ?_
          rotate_left
          ·go_simp
           rfl
          refine hK.out _ _ ?_
          clear hK K
          refine done_ (done_of HT_.out (by kernel_rfl)) ?_
          have n0_ : Aside0 (Kd.R (Kd.int .i64) 3 (w42.setCell ⟨go37, (ji17 : Int).toNat, none⟩ (.int .i64 (wrap64 ((rd x13_2 ji17) + (rd l0 ji20))))) w.heap.size (fun _ => True) (.slice (some ⟨go37, 0, none⟩) x13_2.length co43) y862) := ⟨kr_ HQ44.out⟩
          have n1_ : Aside0 (Below w.heap.size w (w42.setCell ⟨go37, (ji17 : Int).toNat, none⟩ (.int .i64 (wrap64 ((rd x13_2 ji17) + (rd l0 ji20)))))) := ⟨bl_⟩
          (try clear HO_13)
          (try clear HB)
          generalize (w42.setCell ⟨go37, (ji17 : Int).toNat, none⟩ (.int .i64 (wrap64 ((rd x13_2 ji17) + (rd l0 ji20))))) = w45 at n0_ n1_ ⊢
          have HO_13 := n0_
          have HB := n1_
          clear n0_ n1_
          go_upto_region 18 with (first | ((with_reducible refine gate_callee (f := 39) rfl ?_); refine goesL_ (some 99) rfl rfl Tryd.func39 (by kernel_rfl) rfl #[.slice A1 l1.length c1, .int .i64 ji17, .int .i64 ji20] rfl (by (try simp only [List.map_toArray, List.map_cons, List.map_nil]); first | done | (simp only [hji17, hji20]; rfl) | rfl | (simp only [List.length_drop, List.length_take]; rfl)) ?_; (with_reducible refine (turn_Merged.calls k2 _ _ l1 ji17 ji20 t863 t864 _ ?side1 ?side2 A38.out).mono ?_); (case side1 => repeat (first | exact (Kd.C_below HR1.out HB.out) | (with_reducible refine Kd.C_alloc ?_ _) | (with_reducible refine Kd.C_drewN ?_ _) | (with_reducible refine Kd.C_drew ?_))); (case side2 => exact HC1.out); rintro e w46 ⟨v865, rfl, ho0, hb⟩; refine ⟨_, rfl, ?_⟩; have n0_ := Aside0.mk (Kd.R_elder' (kr_ HO_13.out) (Kd.R_base ho0) hb); have n1_ := Aside0.mk (Kd.R_lower (Kd.R_new' ho0 (Kd.R_lt (kr_ HO_13.out))) (below_size (bl_))); have n2_ := Aside0.mk (below_step (bl_) hb); clear HO_13; clear HB; have HO_13 := n0_; have HO866 := n1_; have HB := n2_; clear n0_ n1_ n2_; (try clear hb); (try clear hb2); (try clear hk); (try clear hi); (try clear ho0)) | ((with_reducible refine gate_callee (f := 25) rfl ?_); refine goesL_ (some 105) rfl rfl Tryd.func25 (by kernel_rfl) rfl #[.slice (some ad853) l0.length c0, .slice A1 l1.length c1] rfl (as_) ?_; (with_reducible refine (turn_Deviation.calls k2 _ _ l0 _ _ l1 t867 t868 t869 _ ?side1 ?side2 ?side3 ?side4 A39.out).mono ?_); (case side1 => repeat (first | exact (Kd.C_below HR0.out HB.out) | (with_reducible refine Kd.C_alloc ?_ _) | (with_reducible refine Kd.C_drewN ?_ _) | (with_reducible refine Kd.C_drew ?_))); (case side2 => exact HC0.out); (case side3 => repeat (first | exact (Kd.C_below HR1.out HB.out) | (with_reducible refine Kd.C_alloc ?_ _) | (with_reducible refine Kd.C_drewN ?_ _) | (with_reducible refine Kd.C_drew ?_))); (case side4 => exact HC1.out); rintro e w47 ⟨rfl, hb⟩; refine ⟨_, rfl, ?_⟩; have n0_ := Aside0.mk (Kd.R_below (kr_ HO_13.out) hb); have n1_ := Aside0.mk (Kd.R_below (kr_ HO866.out) hb); have n2_ := Aside0.mk (below_step (bl_) hb); clear HO_13; clear HO866; clear HB; have HO_13 := n0_; have HO866 := n1_; have HB := n2_; clear n0_ n1_ n2_; (try clear hb); (try clear hb2); (try clear hk); (try clear hi)) | ((with_reducible refine gate_dst (N := 17) rfl ?_); (try (refine gate_guard (by rfl) ?_; dsimp only)); refine box_event ?hg (N := 17) ?hd (cs := #[.int .i64 0, .int .i64 0]) (t := 26) ?hr ?_; (case hd => rfl); (case hg => rfl); (case hr => first | (go_simp; done) | (go_simp; rfl)); intro gb870 hg w48 hbox hb; have n0_ := Aside0.mk (Kd.R_below (kr_ HO_13.out) hb); have n1_ := Aside0.mk (Kd.R_below (kr_ HO866.out) hb); have n2_ := Aside0.mk (below_step (bl_) hb); have n3_ := Aside0.mk (hbox); have n4_ := Aside0.mk ((by rw [hg]; exact (below_size (bl_)) : w.heap.size ≤ gb870)); have n5_ := Aside0.mk ((by rw [hg]; exact (below_size (bl_)) : w.heap.size ≤ gb870)); clear HO_13; clear HO866; clear HB; have HO_13 := n0_; have HO866 := n1_; have HB := n2_; have BK870 := n3_; have GW870 := n4_; have GE870 := n5_; clear n0_ n1_ n2_ n3_ n4_ n5_; clear hb hbox hg; have hcz49_0 : w48.cell? ⟨gb870, 0, none⟩ = some (.int .i64 0) := (blk_cell BK870.out 0).trans rfl; have hcz49_1 : w48.cell? ⟨gb870, 1, none⟩ = some (.int .i64 0) := (blk_cell BK870.out 1).trans rfl; have hfz49_0 := blk_frozen BK870.out 0; have hfz49_1 := blk_frozen BK870.out 1; obtain ⟨Ao50, co50, eo50⟩ := Kd.R_slice HO866.out; subst eo50) | ((with_reducible refine gate_callee (f := 25) rfl ?_); refine goesL_ (some 111) rfl rfl Tryd.func25 (by kernel_rfl) rfl #[.slice (some ⟨go37, 0, none⟩) y862.length co43, .slice Ao50 t863.length co50] rfl (by (try simp only [List.map_toArray, List.map_cons, List.map_nil]); first | done | (rw [show y862.length = x13_2.length from (Kd.R_reads' HO_13.out).1.symm] <;> rfl) | rfl | (simp only [List.length_drop, List.length_take]; rfl)) ?_; (with_reducible refine (turn_Deviation.calls k2 _ _ y862 _ _ t863 t871 t872 t873 _ ?side1 ?side2 ?side3 ?side4 A40.out).mono ?_); (case side1 => refine (Kd.R_reads' (e := 3) (base := w.heap.size) (ok := fun k_ => (True ∧ some k_ ≠ (.slice Ao50 t863.length co50 : Value).ownBlock)) (n := x13_2.length) (c := co43) ?_).2.2; exact (by (with_reducible repeat (first | apply Kd.R_alloc | apply Kd.R_drewN | apply Kd.R_drew)); exact (Kd.R_mono (Kd.R_far (p := ⟨gb870, 1, none⟩) (Kd.R_far (p := ⟨gb870, 0, none⟩) (Kd.R_types HO_13.out BK870.out (by decide)) (fun _ hk => hk.2) (.int .i64 t867)) (fun _ hk => hk.2) (.int .i64 t868)) (fun _ h_ => h_.1)))); (case side2 => rw [show y862.length = x13_2.length from (Kd.R_reads' HO_13.out).1.symm]; exact (Kd.R_reads' HO_13.out).2.1); (case side3 => refine (Kd.R_reads' (e := 3) (base := w.heap.size) (ok := fun k_ => (True ∧ some k_ ≠ (.slice (some ⟨go37, 0, none⟩) x13_2.length co43 : Value).ownBlock)) (n := t863.length) (c := co50) ?_).2.2; exact (by (with_reducible repeat (first | apply Kd.R_alloc | apply Kd.R_drewN | apply Kd.R_drew)); exact (Kd.R_mono (Kd.R_far (p := ⟨gb870, 1, none⟩) (Kd.R_far (p := ⟨gb870, 0, none⟩) (Kd.R_types HO866.out BK870.out (by decide)) (fun _ hk => hk.2) (.int .i64 t867)) (fun _ hk => hk.2) (.int .i64 t868)) (fun _ h_ => h_.1)))); (case side4 => exact (Kd.R_reads' HO866.out).2.1); rintro e w51 ⟨rfl, hb⟩; refine ⟨_, rfl, ?_⟩; have n0_ := Aside0.mk (Kd.R_below (by (with_reducible repeat (first | apply Kd.R_alloc | apply Kd.R_drewN | apply Kd.R_drew)); exact (Kd.R_mono (Kd.R_far (p := ⟨gb870, 1, none⟩) (Kd.R_far (p := ⟨gb870, 0, none⟩) (Kd.R_types HO_13.out BK870.out (by decide)) (fun _ hk => hk.2) (.int .i64 t867)) (fun _ hk => hk.2) (.int .i64 t868)) (fun _ h_ => h_.1))) hb); have n1_ := Aside0.mk (Kd.R_below (by (with_reducible repeat (first | apply Kd.R_alloc | apply Kd.R_drewN | apply Kd.R_drew)); exact (Kd.R_mono (Kd.R_far (p := ⟨gb870, 1, none⟩) (Kd.R_far (p := ⟨gb870, 0, none⟩) (Kd.R_types HO866.out BK870.out (by decide)) (fun _ hk => hk.2) (.int .i64 t867)) (fun _ hk => hk.2) (.int .i64 t868)) (fun _ h_ => h_.1))) hb); have n2_ := Aside0.mk (blk_below (g := gb870) (o := .cells #[.int .i64 t867, .int .i64 t868] 26 (0, 0)) (by (with_reducible repeat (first | refine blk_drewN ?_ _ | refine blk_drew ?_ | refine blk_alloc ?_ _)); refine blk_put (cs := #[.int .i64 t867, .int .i64 0]) ?_ 1 _ rfl; (with_reducible repeat (first | refine blk_drewN ?_ _ | refine blk_drew ?_ | refine blk_alloc ?_ _)); refine blk_put (cs := #[.int .i64 0, .int .i64 0]) ?_ 0 _ rfl; (with_reducible repeat (first | refine blk_drewN ?_ _ | refine blk_drew ?_ | refine blk_alloc ?_ _)); exact BK870.out) hb); have n3_ := Aside0.mk (below_step (bl_) hb); clear HO_13; clear HO866; clear BK870; clear HB; have HO_13 := n0_; have HO866 := n1_; have BK870 := n2_; have HB := n3_; clear n0_ n1_ n2_ n3_; (try clear hb); (try clear hb2); (try clear hk); (try clear hi)) | ((with_reducible refine gate_dst (N := 19) rfl ?_); (try (refine gate_guard (by rfl) ?_; dsimp only)); refine box_event ?hg (N := 19) ?hd (cs := #[.int .i64 0, .int .i64 0]) (t := 26) ?hr ?_; (case hd => rfl); (case hg => rfl); (case hr => first | (go_simp; done) | (go_simp; rfl)); intro gb874 hg w52 hbox hb; have n0_ := Aside0.mk (Kd.R_below (kr_ HO_13.out) hb); have n1_ := Aside0.mk (Kd.R_below (kr_ HO866.out) hb); have n2_ := Aside0.mk (blk_below (g := gb870) (o := .cells #[.int .i64 t867, .int .i64 t868] 26 (0, 0)) (bk_ BK870.out) hb); have n3_ := Aside0.mk (below_step (bl_) hb); have n4_ := Aside0.mk (hbox); have n5_ := Aside0.mk ((by rw [hg]; exact (below_size (bl_)) : w.heap.size ≤ gb874)); have n6_ := Aside0.mk ((by rw [hg]; exact (below_size (bl_)) : w.heap.size ≤ gb874)); have n7_ := Aside0.mk ((by rw [hg]; exact Nat.ne_of_lt (blk_lt (g := gb870) (o := .cells #[.int .i64 t867, .int .i64 t868] 26 (0, 0)) (bk_ BK870.out)) : gb870 ≠ gb874)); have n8_ := Aside0.mk ((by rw [hg]; exact Nat.ne_of_gt (blk_lt (g := gb870) (o := .cells #[.int .i64 t867, .int .i64 t868] 26 (0, 0)) (bk_ BK870.out)) : gb874 ≠ gb870)); clear HO_13; clear HO866; clear BK870; clear HB; have HO_13 := n0_; have HO866 := n1_; have BK870 := n2_; have HB := n3_; have BK874 := n4_; have GW874 := n5_; have GE874 := n6_; have NB870_874 := n7_; have NB874_870 := n8_; clear n0_ n1_ n2_ n3_ n4_ n5_ n6_ n7_ n8_; clear hb hbox hg; have hnb53 := NB874_870.out; have hnc53 := NB870_874.out; have hcz54_0 : w52.cell? ⟨gb874, 0, none⟩ = some (.int .i64 0) := (blk_cell BK874.out 0).trans rfl; have hcz54_1 : w52.cell? ⟨gb874, 1, none⟩ = some (.int .i64 0) := (blk_cell BK874.out 1).trans rfl; have hfz54_0 := blk_frozen BK874.out 0; have hfz54_1 := blk_frozen BK874.out 1))
          (try simp only [Act.put, List.setIfInBounds_toArray, List.set_cons_zero, List.set_cons_succ])
          go_cut [133] (fun v133 wc => ∃ (kq : Nat) (x133_40 : Bool), v133 = .bool x133_40 ∧ Aside0 (trishawlaw01_TurnMerged.j2 kq x133_40 t867 t868 t871 t872 = some r) ∧ Aside0 (kq ≤ k2) ∧ Aside0 (wc.heap[gb870]? = some (.cells #[.int .i64 t867, .int .i64 t868] 26 (0, 0))) ∧ Aside0 (wc.heap[gb874]? = some (.cells #[.int .i64 t871, .int .i64 t872] 26 (0, 0))) ∧ Aside0 (Below w.heap.size w wc))
          case first =>
           have H := HC41.out
           clear HC41
           by_cases c55 : t864 = 0
           ·rw [if_pos c55] at H
            have c55b0 : (t864 == 0) = true := beq_iff_eq.mpr c55
            have c55b1 : (t864 != 0) = false := bne_eq_false_iff_eq.mpr c55
            clear c55
            (first | rw [c55b0] | (simp only [i64_w, i32_w]; rw [c55b0]) | skip)
            by_cases c56 : t869 = 0
            ·rw [if_pos c56] at H
             have c56b0 : (t869 == 0) = true := beq_iff_eq.mpr c56
             have c56b1 : (t869 != 0) = false := bne_eq_false_iff_eq.mpr c56
             clear c56
             by_cases c57 : t873 = 0
             ·rw [if_pos c57] at H
              have c57b0 : (t873 == 0) = true := beq_iff_eq.mpr c57
              have c57b1 : (t873 != 0) = false := bne_eq_false_iff_eq.mpr c57
              clear c57
              replace H := Option.bind_eq_some_iff.mp H
              obtain ⟨t875, A580, H⟩ := H
              replace H : (if t875 = true then ((trishawlaw01_small.f t871 t872).bind fun t876 => (trishawlaw01_TurnMerged.j2 k2 (!t876) t867 t868 t871 t872)) else (trishawlaw01_TurnMerged.j2 k2 true t867 t868 t871 t872)) = some r := H
              have A58 := Aside0.mk A580
              clear A580
              by_cases c59 : t875 = true
              ·subst c59
               have H1 : ((trishawlaw01_small.f t871 t872).bind fun t876 => (trishawlaw01_TurnMerged.j2 k2 (!t876) t867 t868 t871 t872)) = some r := by rw [if_pos rfl] at H; exact H
               clear H
               have H := H1
               clear H1
               replace H := Option.bind_eq_some_iff.mp H
               obtain ⟨t876, A600, H⟩ := H
               replace H : (trishawlaw01_TurnMerged.j2 k2 (!t876) t867 t868 t871 t872) = some r := H
               have A60 := Aside0.mk A600
               clear A600
               have H' := Aside0.mk H
               clear H
               have hnb61 := NB870_874.out
               have hnc61 := NB874_870.out
               have hcz62_0 : w52.cell? ⟨gb870, 0, none⟩ = some (.int .i64 t867) := (blk_cell BK870.out 0).trans rfl
               have hcz62_1 : w52.cell? ⟨gb870, 1, none⟩ = some (.int .i64 t868) := (blk_cell BK870.out 1).trans rfl
               have hfz62_0 := blk_frozen BK870.out 0
               have hfz62_1 := blk_frozen BK870.out 1
               go_wp2_with (first | (go_at_call 26; (with_reducible refine (trishawlaw01_small.calls t867 t868 true _ A58.out).mono ?_); rintro e w63 ⟨rfl, hb⟩; have n0_ := Aside0.mk (Kd.R_below (by (with_reducible repeat (first | apply Kd.R_alloc | apply Kd.R_drewN | apply Kd.R_drew)); exact (Kd.R_mono (Kd.R_far (p := ⟨gb874, 1, none⟩) (Kd.R_far (p := ⟨gb874, 0, none⟩) (Kd.R_types HO_13.out BK874.out (by decide)) (fun _ hk => hk.2) (.int .i64 t871)) (fun _ hk => hk.2) (.int .i64 t872)) (fun _ h_ => h_.1))) hb); have n1_ := Aside0.mk (Kd.R_below (by (with_reducible repeat (first | apply Kd.R_alloc | apply Kd.R_drewN | apply Kd.R_drew)); exact (Kd.R_mono (Kd.R_far (p := ⟨gb874, 1, none⟩) (Kd.R_far (p := ⟨gb874, 0, none⟩) (Kd.R_types HO866.out BK874.out (by decide)) (fun _ hk => hk.2) (.int .i64 t871)) (fun _ hk => hk.2) (.int .i64 t872)) (fun _ h_ => h_.1))) hb); have n2_ := Aside0.mk (blk_below (g := gb870) (o := .cells #[.int .i64 t867, .int .i64 t868] 26 (0, 0)) (by (with_reducible repeat (first | refine blk_drewN ?_ _ | refine blk_drew ?_ | refine blk_alloc ?_ _)); refine blk_far ?_ NB870_874.out _; (with_reducible repeat (first | refine blk_drewN ?_ _ | refine blk_drew ?_ | refine blk_alloc ?_ _)); refine blk_far ?_ NB870_874.out _; (with_reducible repeat (first | refine blk_drewN ?_ _ | refine blk_drew ?_ | refine blk_alloc ?_ _)); exact BK870.out) hb); have n3_ := Aside0.mk (blk_below (g := gb874) (o := .cells #[.int .i64 t871, .int .i64 t872] 26 (0, 0)) (by (with_reducible repeat (first | refine blk_drewN ?_ _ | refine blk_drew ?_ | refine blk_alloc ?_ _)); refine blk_put (cs := #[.int .i64 t871, .int .i64 0]) ?_ 1 _ rfl; (with_reducible repeat (first | refine blk_drewN ?_ _ | refine blk_drew ?_ | refine blk_alloc ?_ _)); refine blk_put (cs := #[.int .i64 0, .int .i64 0]) ?_ 0 _ rfl; (with_reducible repeat (first | refine blk_drewN ?_ _ | refine blk_drew ?_ | refine blk_alloc ?_ _)); exact BK874.out) hb); have n4_ := Aside0.mk (below_step (bl_) hb); clear HO_13; clear HO866; clear BK870; clear BK874; clear HB; have HO_13 := n0_; have HO866 := n1_; have BK870 := n2_; have BK874 := n3_; have HB := n4_; clear n0_ n1_ n2_ n3_ n4_; (try clear hb); (try clear hb2); (try clear hk); (try clear hi); have hcz64_0 : w63.cell? ⟨gb874, 0, none⟩ = some (.int .i64 t871) := (blk_cell BK874.out 0).trans rfl; have hcz64_1 : w63.cell? ⟨gb874, 1, none⟩ = some (.int .i64 t872) := (blk_cell BK874.out 1).trans rfl; have hfz64_0 := blk_frozen BK874.out 0; have hfz64_1 := blk_frozen BK874.out 1) | (go_at_call 26; (with_reducible refine (trishawlaw01_small.calls t871 t872 t876 _ A60.out).mono ?_); rintro e w65 ⟨rfl, hb⟩; have n0_ := Aside0.mk (Kd.R_below (kr_ HO_13.out) hb); have n1_ := Aside0.mk (Kd.R_below (kr_ HO866.out) hb); have n2_ := Aside0.mk (blk_below (g := gb870) (o := .cells #[.int .i64 t867, .int .i64 t868] 26 (0, 0)) (bk_ BK870.out) hb); have n3_ := Aside0.mk (blk_below (g := gb874) (o := .cells #[.int .i64 t871, .int .i64 t872] 26 (0, 0)) (bk_ BK874.out) hb); have n4_ := Aside0.mk (below_step (bl_) hb); clear HO_13; clear HO866; clear BK870; clear BK874; clear HB; have HO_13 := n0_; have HO866 := n1_; have BK870 := n2_; have BK874 := n3_; have HB := n4_; clear n0_ n1_ n2_ n3_ n4_; (try clear hb); (try clear hb2); (try clear hk); (try clear hi)))
               go_meet
               case rel => exact ⟨_, (!t876), (by first | rfl | (simp; done) | (simp [*]; done)), H', ⟨by have := HJ5.out; have := HK2.out; first | omega | exact Nat.le_refl _⟩, ⟨bk_ BK870.out⟩, ⟨bk_ BK874.out⟩, ⟨bl_⟩⟩
              ·replace c59 := Bool.eq_false_iff.mpr c59
               subst c59
               have H1 : (trishawlaw01_TurnMerged.j2 k2 true t867 t868 t871 t872) = some r := by rw [if_neg (show ¬ (false = true) by decide)] at H; exact H
               clear H
               have H := H1
               clear H1
               have H' := Aside0.mk H
               clear H
               have hnb66 := NB870_874.out
               have hnc66 := NB874_870.out
               have hcz67_0 : w52.cell? ⟨gb870, 0, none⟩ = some (.int .i64 t867) := (blk_cell BK870.out 0).trans rfl
               have hcz67_1 : w52.cell? ⟨gb870, 1, none⟩ = some (.int .i64 t868) := (blk_cell BK870.out 1).trans rfl
               have hfz67_0 := blk_frozen BK870.out 0
               have hfz67_1 := blk_frozen BK870.out 1
               go_wp2_with (first | (go_at_call 26; (with_reducible refine (trishawlaw01_small.calls t867 t868 false _ A58.out).mono ?_); rintro e w68 ⟨rfl, hb⟩; have n0_ := Aside0.mk (Kd.R_below (by (with_reducible repeat (first | apply Kd.R_alloc | apply Kd.R_drewN | apply Kd.R_drew)); exact (Kd.R_mono (Kd.R_far (p := ⟨gb874, 1, none⟩) (Kd.R_far (p := ⟨gb874, 0, none⟩) (Kd.R_types HO_13.out BK874.out (by decide)) (fun _ hk => hk.2) (.int .i64 t871)) (fun _ hk => hk.2) (.int .i64 t872)) (fun _ h_ => h_.1))) hb); have n1_ := Aside0.mk (Kd.R_below (by (with_reducible repeat (first | apply Kd.R_alloc | apply Kd.R_drewN | apply Kd.R_drew)); exact (Kd.R_mono (Kd.R_far (p := ⟨gb874, 1, none⟩) (Kd.R_far (p := ⟨gb874, 0, none⟩) (Kd.R_types HO866.out BK874.out (by decide)) (fun _ hk => hk.2) (.int .i64 t871)) (fun _ hk => hk.2) (.int .i64 t872)) (fun _ h_ => h_.1))) hb); have n2_ := Aside0.mk (blk_below (g := gb870) (o := .cells #[.int .i64 t867, .int .i64 t868] 26 (0, 0)) (by (with_reducible repeat (first | refine blk_drewN ?_ _ | refine blk_drew ?_ | refine blk_alloc ?_ _)); refine blk_far ?_ NB870_874.out _; (with_reducible repeat (first | refine blk_drewN ?_ _ | refine blk_drew ?_ | refine blk_alloc ?_ _)); refine blk_far ?_ NB870_874.out _; (with_reducible repeat (first | refine blk_drewN ?_ _ | refine blk_drew ?_ | refine blk_alloc ?_ _)); exact BK870.out) hb); have n3_ := Aside0.mk (blk_below (g := gb874) (o := .cells #[.int .i64 t871, .int .i64 t872] 26 (0, 0)) (by (with_reducible repeat (first | refine blk_drewN ?_ _ | refine blk_drew ?_ | refine blk_alloc ?_ _)); refine blk_put (cs := #[.int .i64 t871, .int .i64 0]) ?_ 1 _ rfl; (with_reducible repeat (first | refine blk_drewN ?_ _ | refine blk_drew ?_ | refine blk_alloc ?_ _)); refine blk_put (cs := #[.int .i64 0, .int .i64 0]) ?_ 0 _ rfl; (with_reducible repeat (first | refine blk_drewN ?_ _ | refine blk_drew ?_ | refine blk_alloc ?_ _)); exact BK874.out) hb); have n4_ := Aside0.mk (below_step (bl_) hb); clear HO_13; clear HO866; clear BK870; clear BK874; clear HB; have HO_13 := n0_; have HO866 := n1_; have BK870 := n2_; have BK874 := n3_; have HB := n4_; clear n0_ n1_ n2_ n3_ n4_; (try clear hb); (try clear hb2); (try clear hk); (try clear hi)))
               go_meet
               case rel => exact ⟨_, (true), (by first | rfl | (simp; done) | (simp [*]; done)), H', ⟨by have := HJ5.out; have := HK2.out; first | omega | exact Nat.le_refl _⟩, ⟨bk_ BK870.out⟩, ⟨bk_ BK874.out⟩, ⟨bl_⟩⟩
             ·rw [if_neg c57] at H
              have c57b0 : (t873 == 0) = false := beq_eq_false_iff_ne.mpr c57
              have c57b1 : (t873 != 0) = true := bne_iff_ne.mpr c57
              have H' := Aside0.mk H
              clear H
              go_wp2
              go_meet
              case rel => exact ⟨_, (true), (by first | rfl | (simp; done) | (simp [*]; done)), H', ⟨by have := HJ5.out; have := HK2.out; first | omega | exact Nat.le_refl _⟩, ⟨by (with_reducible repeat (first | refine blk_drewN ?_ _ | refine blk_drew ?_ | refine blk_alloc ?_ _)); refine blk_far ?_ NB870_874.out _; (with_reducible repeat (first | refine blk_drewN ?_ _ | refine blk_drew ?_ | refine blk_alloc ?_ _)); refine blk_far ?_ NB870_874.out _; (with_reducible repeat (first | refine blk_drewN ?_ _ | refine blk_drew ?_ | refine blk_alloc ?_ _)); exact BK870.out⟩, ⟨by (with_reducible repeat (first | refine blk_drewN ?_ _ | refine blk_drew ?_ | refine blk_alloc ?_ _)); refine blk_put (cs := #[.int .i64 t871, .int .i64 0]) ?_ 1 _ rfl; (with_reducible repeat (first | refine blk_drewN ?_ _ | refine blk_drew ?_ | refine blk_alloc ?_ _)); refine blk_put (cs := #[.int .i64 0, .int .i64 0]) ?_ 0 _ rfl; (with_reducible repeat (first | refine blk_drewN ?_ _ | refine blk_drew ?_ | refine blk_alloc ?_ _)); exact BK874.out⟩, ⟨bl_⟩⟩
            ·rw [if_neg c56] at H
             have c56b0 : (t869 == 0) = false := beq_eq_false_iff_ne.mpr c56
             have c56b1 : (t869 != 0) = true := bne_iff_ne.mpr c56
             have H' := Aside0.mk H
             clear H
             go_wp2
             go_meet
             case rel => exact ⟨_, (true), (by first | rfl | (simp; done) | (simp [*]; done)), H', ⟨by have := HJ5.out; have := HK2.out; first | omega | exact Nat.le_refl _⟩, ⟨by (with_reducible repeat (first | refine blk_drewN ?_ _ | refine blk_drew ?_ | refine blk_alloc ?_ _)); refine blk_far ?_ NB870_874.out _; (with_reducible repeat (first | refine blk_drewN ?_ _ | refine blk_drew ?_ | refine blk_alloc ?_ _)); refine blk_far ?_ NB870_874.out _; (with_reducible repeat (first | refine blk_drewN ?_ _ | refine blk_drew ?_ | refine blk_alloc ?_ _)); exact BK870.out⟩, ⟨by (with_reducible repeat (first | refine blk_drewN ?_ _ | refine blk_drew ?_ | refine blk_alloc ?_ _)); refine blk_put (cs := #[.int .i64 t871, .int .i64 0]) ?_ 1 _ rfl; (with_reducible repeat (first | refine blk_drewN ?_ _ | refine blk_drew ?_ | refine blk_alloc ?_ _)); refine blk_put (cs := #[.int .i64 0, .int .i64 0]) ?_ 0 _ rfl; (with_reducible repeat (first | refine blk_drewN ?_ _ | refine blk_drew ?_ | refine blk_alloc ?_ _)); exact BK874.out⟩, ⟨bl_⟩⟩
           ·rw [if_neg c55] at H
            have c55b0 : (t864 == 0) = false := beq_eq_false_iff_ne.mpr c55
            have c55b1 : (t864 != 0) = true := bne_iff_ne.mpr c55
            (first | rw [c55b0] | (simp only [i64_w, i32_w]; rw [c55b0]) | skip)
            have H' := Aside0.mk H
            clear H
            go_wp2
            go_meet
            case rel => exact ⟨_, (true), (by first | rfl | (simp; done) | (simp [*]; done)), H', ⟨by have := HJ5.out; have := HK2.out; first | omega | exact Nat.le_refl _⟩, ⟨by (with_reducible repeat (first | refine blk_drewN ?_ _ | refine blk_drew ?_ | refine blk_alloc ?_ _)); refine blk_far ?_ NB870_874.out _; (with_reducible repeat (first | refine blk_drewN ?_ _ | refine blk_drew ?_ | refine blk_alloc ?_ _)); refine blk_far ?_ NB870_874.out _; (with_reducible repeat (first | refine blk_drewN ?_ _ | refine blk_drew ?_ | refine blk_alloc ?_ _)); exact BK870.out⟩, ⟨by (with_reducible repeat (first | refine blk_drewN ?_ _ | refine blk_drew ?_ | refine blk_alloc ?_ _)); refine blk_put (cs := #[.int .i64 t871, .int .i64 0]) ?_ 1 _ rfl; (with_reducible repeat (first | refine blk_drewN ?_ _ | refine blk_drew ?_ | refine blk_alloc ?_ _)); refine blk_put (cs := #[.int .i64 0, .int .i64 0]) ?_ 0 _ rfl; (with_reducible repeat (first | refine blk_drewN ?_ _ | refine blk_drew ?_ | refine blk_alloc ?_ _)); exact BK874.out⟩, ⟨bl_⟩⟩
          case rest =>
           clear HC41
           try clear c1
           try clear c2
           try clear p2
           try clear c3
           try clear p3
           try clear q3
           try clear hx3
           try clear c5
           try clear c6
           try clear p6
           try clear c8
           try clear p8
           try clear q8
           try clear hx8
           try clear c9
           try clear c9b0
           try clear c9b1
           try clear c10
           try clear c10b0
           try clear c10b1
           try clear c12
           try clear c14
           try clear c15
           try clear c15b0
           try clear c15b1
           try clear c16
           try clear c16b0
           try clear c16b1
           try clear c17
           try clear c18
           try clear c18b0
           try clear c19
           try clear c19b0
           try clear c21
           try clear c21b0
           try clear c22
           try clear c22b0
           try clear c23
           try clear c23b0
           try clear c25
           try clear c28
           try clear c28b0
           try clear c29
           try clear c29b0
           try clear c29b1
           try clear c30
           try clear c30b0
           try clear c31
           try clear c33
           try clear c33b0
           try clear c34
           try clear c34b0
           try clear c35
           try clear c35b0
           try clear c36
           try clear c36b0
           try clear p37
           try clear q37
           try clear hx37
           try clear hf37
           try clear c39
           try clear c53
           try clear c55
           try clear c55b0
           try clear c55b1
           try clear c56
           try clear c56b0
           try clear c56b1
           try clear c57
           try clear c57b0
           try clear c57b1
           try clear c59
           try clear c61
           try clear p64
           try clear c66
           try clear hcz49_0
           try clear hcz49_1
           try clear hcz54_0
           try clear hcz54_1
           try clear hcz62_0
           try clear hcz62_1
           try clear hcz64_0
           try clear hcz64_1
           try clear hcz67_0
           try clear hcz67_1
           try clear hfz49_0
           try clear hfz49_1
           try clear hfz54_0
           try clear hfz54_1
           try clear hfz62_0
           try clear hfz62_1
           try clear hfz64_0
           try clear hfz64_1
           try clear hfz67_0
           try clear hfz67_1
           try clear hx37_0
           try clear hx853_0
           try clear hx854_0
           try clear hx856_0
           try clear hx860_0
           try clear hx861_0
           try clear p2
           try clear p37
           try clear p6
           try clear p8
           try clear p853
           try clear p854
           try clear p856
           try clear p860
           try clear p861
           try clear q37
           try clear q8
           try clear q853
           try clear q854
           try clear q856
           try clear q860
           try clear q861
           obtain ⟨kq, x133_40, rfl, HA, HJ40, BK870, BK874, HB⟩ := hcut
           cases kq with
           | zero => exact absurd HA.out (by simp [trishawlaw01_TurnMerged.j2])
           | succ kj40 =>
            have H := HA.out
            clear HA
            simp only [trishawlaw01_TurnMerged.j2] at H
            by_cases c69 : x133_40 = true
            ·subst c69
             have H1 : (some false) = some r := by rw [if_pos rfl] at H; exact H
             clear H
             have H := H1
             clear H1
             exact absurd (Option.some.inj (H.trans (congrArg some hr.out))) (by decide)
            ·replace c69 := Bool.eq_false_iff.mpr c69
             subst c69
             have H1 : ((trishawlaw01_atMost.f t871 t872 (wrap64 (2 * t867)) t868).bind fun t877 => (if t877 = true then ((trishawlaw01_alive.f kj40).bind fun t878 => (some t878)) else (some false))) = some r := by rw [if_neg (show ¬ (false = true) by decide)] at H; exact H
             clear H
             have H := H1
             clear H1
             replace H := Option.bind_eq_some_iff.mp H
             obtain ⟨t877, A700, H⟩ := H
             replace H : (if t877 = true then ((trishawlaw01_alive.f kj40).bind fun t878 => (some t878)) else (some false)) = some r := H
             have A70 := Aside0.mk A700
             clear A700
             by_cases c71 : t877 = true
             ·subst c71
              have H1 : ((trishawlaw01_alive.f kj40).bind fun t878 => (some t878)) = some r := by rw [if_pos rfl] at H; exact H
              clear H
              have H := H1
              clear H1
              replace H := Option.bind_eq_some_iff.mp H
              obtain ⟨t878, A720, H⟩ := H
              replace H : (some t878) = some r := H
              have A72 := Aside0.mk A720
              clear A720
              obtain rfl := Option.some.inj H
              have hnb73 := NB874_870.out
              have hnc73 := NB870_874.out
              have hcz74_0 : wc.cell? ⟨gb874, 0, none⟩ = some (.int .i64 t871) := (blk_cell BK874.out 0).trans rfl
              have hcz74_1 : wc.cell? ⟨gb874, 1, none⟩ = some (.int .i64 t872) := (blk_cell BK874.out 1).trans rfl
              have hfz74_0 := blk_frozen BK874.out 0
              have hfz74_1 := blk_frozen BK874.out 1
              have hcz75_0 : wc.cell? ⟨gb870, 0, none⟩ = some (.int .i64 t867) := (blk_cell BK870.out 0).trans rfl
              have hcz75_1 : wc.cell? ⟨gb870, 1, none⟩ = some (.int .i64 t868) := (blk_cell BK870.out 1).trans rfl
              have hfz75_0 := blk_frozen BK870.out 0
              have hfz75_1 := blk_frozen BK870.out 1
              go_wp2_with (first | ((with_reducible refine gate_callee (f := 27) rfl ?_); refine goesL_ (some 141) rfl rfl Tryd.func27 (by kernel_rfl) rfl #[.agg #[.int .i64 t871, .int .i64 t872], .agg #[.int .i64 (wrap64 (2 * t867)), .int .i64 t868]] rfl (as_) ?_; (with_reducible refine (trishawlaw01_atMost.calls t871 t872 (wrap64 (2 * t867)) t868 true _ A70.out).mono ?_); rintro e w76 ⟨rfl, hb⟩; refine ⟨_, rfl, ?_⟩; have n0_ := Aside0.mk (blk_below (g := gb870) (o := .cells #[.int .i64 t867, .int .i64 t868] 26 (0, 0)) (bk_ BK870.out) hb); have n1_ := Aside0.mk (blk_below (g := gb874) (o := .cells #[.int .i64 t871, .int .i64 t872] 26 (0, 0)) (bk_ BK874.out) hb); have n2_ := Aside0.mk (below_step (bl_) hb); clear BK870; clear BK874; clear HB; have BK870 := n0_; have BK874 := n1_; have HB := n2_; clear n0_ n1_ n2_; (try clear hb); (try clear hb2); (try clear hk); (try clear hi)) | (go_at_call 17; (with_reducible refine (trishawlaw01_alive.calls kj40  t878 _ A72.out (HN.out.of (bl_))).mono ?_); rintro e w77 ⟨rfl, hb⟩; have n0_ := Aside0.mk (blk_below (g := gb870) (o := .cells #[.int .i64 t867, .int .i64 t868] 26 (0, 0)) (bk_ BK870.out) hb); have n1_ := Aside0.mk (blk_below (g := gb874) (o := .cells #[.int .i64 t871, .int .i64 t872] 26 (0, 0)) (bk_ BK874.out) hb); have n2_ := Aside0.mk (below_step (bl_) hb); clear BK870; clear BK874; clear HB; have BK870 := n0_; have BK874 := n1_; have HB := n2_; clear n0_ n1_ n2_; (try clear hb); (try clear hb2); (try clear hk); (try clear hi)))
              go_ret
              exact ⟨by first | rfl | (simp [errW_none, errW_some] <;> rfl) | (simp only [← hji17, ← hji20]; first | rfl | (simp [errW_none, errW_some] <;> rfl)) | (simp [*, errW_none, errW_some] <;> rfl), bl_⟩
             ·replace c71 := Bool.eq_false_iff.mpr c71
              subst c71
              have H1 : (some false) = some r := by rw [if_neg (show ¬ (false = true) by decide)] at H; exact H
              clear H
              have H := H1
              clear H1
              exact absurd (Option.some.inj (H.trans (congrArg some hr.out))) (by decide)

/-- THE ONE PURE STATEMENT of trishawlaw01_TurnMerged: yours. -/
def trishawlaw01_TurnMerged.Pure : Prop := ∀ (l0 : List Int) (l1 : List Int) (a2 : Int) (a3 : Int), l0.length ≤ maxLen → l0.length * 8 ≤ 140737488351232 → (∀ x ∈ l0, (Lit.int .i64 x).wf = true) → l1.length ≤ maxLen → l1.length * 8 ≤ 140737488351232 → (∀ x ∈ l1, (Lit.int .i64 x).wf = true) → (Lit.int .u8 a2).wf = true → (Lit.int .u8 a3).wf = true → ∃ k, trishawlaw01_TurnMerged.f k l0 l1 a2 a3 = some true
theorem trishawlaw01_TurnMerged.walk (P : trishawlaw01_TurnMerged.Pure) (a0 : Option Addr) (len0 cap0 : Nat) (z0 : List Int) (a1 : Option Addr) (len1 cap1 : Nat) (z1 : List Int) (a2 : Int) (a3 : Int) (w : World) (w0 : (a0 = none ∧ len0 = 0 ∧ cap0 = 0 ∧ z0 = []) ∨ ∃ x, a0 = some x ∧ len0 ≤ cap0 ∧ cap0 ≤ maxLen ∧ z0.length = cap0 ∧ (∀ i, i < z0.length → w.cell? (x.add i) = some (.int .i64 (z0.getD i 0))) ∧ ∀ n ∈ z0, (Lit.int .i64 n).wf = true) (y0 : len0 * 8 ≤ 140737488351232) (w1 : (a1 = none ∧ len1 = 0 ∧ cap1 = 0 ∧ z1 = []) ∨ ∃ x, a1 = some x ∧ len1 ≤ cap1 ∧ cap1 ≤ maxLen ∧ z1.length = cap1 ∧ (∀ i, i < z1.length → w.cell? (x.add i) = some (.int .i64 (z1.getD i 0))) ∧ ∀ n ∈ z1, (Lit.int .i64 n).wf = true) (y1 : len1 * 8 ≤ 140737488351232) (w2 : (Lit.int .u8 a2).wf = true) (w3 : (Lit.int .u8 a3).wf = true) (hN0 : NoneLaid w) :
    Calls Tryd.prog 14 #[.slice a0 len0 cap0, .slice a1 len1 cap1, .int .u8 a2, .int .u8 a3] w fun e w' => e = .returned (.bool true) ∧ Below w.heap.size w w' := by
 obtain ⟨l0, rfl, hr0, hm0, hw0, hc0⟩ := ReadsInt.ofRowC w0
 obtain ⟨l1, rfl, hr1, hm1, hw1, hc1⟩ := ReadsInt.ofRowC w1
 obtain ⟨k, h⟩ := P l0 l1 a2 a3 hm0 y0 hw0 hm1 y1 hw1 w2 w3
 refine (trishawlaw01_TurnMerged.calls k _ _ l0 _ _ l1 a2 a3 true w (Kd.C_of_reads (d := (0 : Int)) (h1 := fun _ => rfl) hr0) hc0 (Kd.C_of_reads (d := (0 : Int)) (h1 := fun _ => rfl) hr1) hc1 h hN0 rfl).mono ?_
 rintro e w' ⟨rfl, hd⟩
 exact ⟨rfl, hd⟩

end Go.Proofs.YtgobffgogmnmpaaDoor.P
