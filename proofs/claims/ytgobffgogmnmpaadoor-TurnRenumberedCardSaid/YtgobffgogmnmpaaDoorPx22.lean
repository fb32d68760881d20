-- Written by wip/tools/myprint.py of this session's repo, over the kit's printer and hand texts.
import Derived.Test.YtgobffgogmnmpaaDoorPx0
import Derived.Test.YtgobffgogmnmpaaDoorPre
import Derived.Test.YtgobffgogmnmpaaDoorPx1
import Derived.Test.YtgobffgogmnmpaaDoorPx3
import Derived.Test.YtgobffgogmnmpaaDoorPx4
import Derived.Test.YtgobffgogmnmpaaDoorPx6
import Derived.Test.YtgobffgogmnmpaaDoorPx9
import Derived.Test.YtgobffgogmnmpaaDoorPx10
import Derived.Test.YtgobffgogmnmpaaDoorPx16
import Derived.Test.YtgobffgogmnmpaaDoorPx18
namespace Go.Proofs.YtgobffgogmnmpaaDoor.P
open Go.RowKit Go.Proofs.YtgobffgogmnmpaaDoorW.PrintWords Go.Proofs.YtgobffgogmnmpaaDoorW.PrintLast Go.Proofs.YtgobffgogmnmpaaDoorW.PrintMore
attribute [local go_sem] max2_int min2_int max_two min_two max_three min_three max_four min_four   -- for this text's walks alone
set_option linter.unusedVariables false
set_option linter.unusedSimpArgs false

attribute [local go_sem high] eqA26
/-! ### trishawlaw01_TurnRenumbered: function 7 -/
mutual
def trishawlaw01_TurnRenumbered.j0 : Nat → List Int → List Int → Int → Bool → Option (Bool)
  | 0, _, _, _, _ => none
  | k + 1, x0, x1, x2, x45 => if x45 = true then ((trishawlaw01_alive.f k).bind fun t513 => (some t513)) else (if 0 ≤ (x0.length : Int) then (if ((x0.length : Int) : Int).toNat ≤ 35184372088832 then (trishawlaw01_TurnRenumbered.l0 k x0 x1 x2 (x0.length : Int) (List.replicate ((x0.length : Int) : Int).toNat 0) 0) else (none)) else (none))
def trishawlaw01_TurnRenumbered.l0 : Nat → List Int → List Int → Int → Int → List Int → Int → Option (Bool)
  | 0, _, _, _, _, _, _ => none
  | k + 1, x0, x1, x2, x9, x10, x11 => if x11 < x9 then (if x9 = 0 then (none) else (if 0 ≤ x11 then (if x11 < (x0.length : Int) then (if 0 ≤ (Int.tmod (wrap64 (x11 + (wrap64 (x2)))) x9) then (if (Int.tmod (wrap64 (x11 + (wrap64 (x2)))) x9) < (x10.length : Int) then (trishawlaw01_TurnRenumbered.l0 k x0 x1 x2 x9 (x10.set ((Int.tmod (wrap64 (x11 + (wrap64 (x2)))) x9) : Int).toNat (rd x0 x11)) (wrap64 (x11 + 1))) else (none)) else (none)) else (none)) else (none))) else (trishawlaw01_TurnRenumbered.l1 k x0 x1 x2 x9 x10 ([] : List Int) 0)
def trishawlaw01_TurnRenumbered.l1 : Nat → List Int → List Int → Int → Int → List Int → List Int → Int → Option (Bool)
  | 0, _, _, _, _, _, _, _ => none
  | k + 1, x0, x1, x2, x9, x10, x12, x13 => if x13 < (x1.length : Int) then (if 0 ≤ x13 then (if x9 = 0 then (none) else (if x12.length < 17592186044416 then (trishawlaw01_TurnRenumbered.l1 k x0 x1 x2 x9 x10 (x12 ++ [Int.tmod (wrap64 ((rd x1 x13) + (wrap64 (x2)))) x9]) (wrap64 (x13 + 1))) else (none))) else (none)) else ((turn_Deviation.f k x0 x1).bind fun bt523 => ((turn_Deviation.f k x10 x12).bind fun bt527 => ((turn_Quota.f k x0 x1).bind fun bt531 => ((turn_Quota.f k x10 x12).bind fun bt533 => ((turn_Least.f k x0).bind fun bt535 => ((turn_Least.f k x10).bind fun bt539 => (if bt523.2.2 = 0 then (if bt527.2.2 = 0 then (if bt531.2 = 0 then (if bt533.2 = 0 then (if bt535.2.2 = 0 then (if bt539.2.2 = 0 then (if (bt523.1 == bt527.1 && (bt523.2.1 == bt527.2.1)) = true then (if (bt531.1 == bt533.1) = true then (if (bt535.1 == bt539.1 && (bt535.2.1 == bt539.2.1)) = true then ((trishawlaw01_alive.f k).bind fun t543 => (some t543)) else (some false)) else (some false)) else (some false)) else (some false)) else (some false)) else (some false)) else (some false)) else (some false)) else (some false))))))))
end
def trishawlaw01_TurnRenumbered.f (k : Nat) (l0 : List Int) (l1 : List Int) (a2 : Int) : Option (Bool) := (trishawref01_Shares.f k l0).bind fun bt509 => ((trishawlaw01_few.f l0 l1).bind fun t511 => (if t511 = true then (if bt509.2 = 0 then ((trishawref01_Days.f k l1 (l0.length : Int)).bind fun t512 => (trishawlaw01_TurnRenumbered.j0 k l0 l1 a2 (t512 != 0))) else (trishawlaw01_TurnRenumbered.j0 k l0 l1 a2 true)) else (trishawlaw01_TurnRenumbered.j0 k l0 l1 a2 true)))
theorem trishawlaw01_TurnRenumbered.mono_l : ∀ k, (∀ y0 y1 y2 y3, LeO (trishawlaw01_TurnRenumbered.j0 k y0 y1 y2 y3) (trishawlaw01_TurnRenumbered.j0 (k + 1) y0 y1 y2 y3)) ∧ (∀ y0 y1 y2 y3 y4 y5, LeO (trishawlaw01_TurnRenumbered.l0 k y0 y1 y2 y3 y4 y5) (trishawlaw01_TurnRenumbered.l0 (k + 1) y0 y1 y2 y3 y4 y5)) ∧ (∀ y0 y1 y2 y3 y4 y5 y6, LeO (trishawlaw01_TurnRenumbered.l1 k y0 y1 y2 y3 y4 y5 y6) (trishawlaw01_TurnRenumbered.l1 (k + 1) y0 y1 y2 y3 y4 y5 y6))
  | 0 => ⟨fun _ _ _ _ r h => by simp [trishawlaw01_TurnRenumbered.j0] at h, fun _ _ _ _ _ _ r h => by simp [trishawlaw01_TurnRenumbered.l0] at h, fun _ _ _ _ _ _ _ r h => by simp [trishawlaw01_TurnRenumbered.l1] at h⟩
  | k + 1 => by
    obtain ⟨ih0, ih1, ih2⟩ := trishawlaw01_TurnRenumbered.mono_l k
    refine ⟨?_, ?_, ?_⟩
    · intro y0 y1 y2 y3
      unfold trishawlaw01_TurnRenumbered.j0
      repeat' first
      | (with_reducible exact ih0 _ _ _ _)
      | (with_reducible exact ih1 _ _ _ _ _ _)
      | (with_reducible exact ih2 _ _ _ _ _ _ _)
      | (with_reducible exact trishawlaw01_alive.mono _)
      | (with_reducible exact trishawref01_Days.mono _ _ _)
      | (with_reducible exact trishawref01_Shares.mono _ _)
      | (with_reducible exact turn_Deviation.mono _ _ _)
      | (with_reducible exact turn_Least.mono _ _)
      | (with_reducible exact turn_Quota.mono _ _ _)
      | (with_reducible exact LeO.refl _)
      | (with_reducible exact LeO.none _)
      | (with_reducible refine LeO.ite ?_ ?_)
      | (with_reducible refine LeO.bind ?_ (fun _ => ?_))
      | exact ih0 _ _ _ _
      | exact ih1 _ _ _ _ _ _
      | exact ih2 _ _ _ _ _ _ _
      | exact trishawlaw01_alive.mono _
      | exact trishawref01_Days.mono _ _ _
      | exact trishawref01_Shares.mono _ _
      | exact turn_Deviation.mono _ _ _
      | exact turn_Least.mono _ _
      | exact turn_Quota.mono _ _ _
      | exact LeO.none _
      | refine LeO.ite ?_ ?_
      | refine LeO.bind ?_ (fun _ => ?_)
    · intro y0 y1 y2 y3 y4 y5
      unfold trishawlaw01_TurnRenumbered.l0
      repeat' first
      | (with_reducible exact ih0 _ _ _ _)
      | (with_reducible exact ih1 _ _ _ _ _ _)
      | (with_reducible exact ih2 _ _ _ _ _ _ _)
      | (with_reducible exact trishawlaw01_alive.mono _)
      | (with_reducible exact trishawref01_Days.mono _ _ _)
      | (with_reducible exact trishawref01_Shares.mono _ _)
      | (with_reducible exact turn_Deviation.mono _ _ _)
      | (with_reducible exact turn_Least.mono _ _)
      | (with_reducible exact turn_Quota.mono _ _ _)
      | (with_reducible exact LeO.refl _)
      | (with_reducible exact LeO.none _)
      | (with_reducible refine LeO.ite ?_ ?_)
      | (with_reducible refine LeO.bind ?_ (fun _ => ?_))
      | exact ih0 _ _ _ _
      | exact ih1 _ _ _ _ _ _
      | exact ih2 _ _ _ _ _ _ _
      | exact trishawlaw01_alive.mono _
      | exact trishawref01_Days.mono _ _ _
      | exact trishawref01_Shares.mono _ _
      | exact turn_Deviation.mono _ _ _
      | exact turn_Least.mono _ _
      | exact turn_Quota.mono _ _ _
      | exact LeO.none _
      | refine LeO.ite ?_ ?_
      | refine LeO.bind ?_ (fun _ => ?_)
    · intro y0 y1 y2 y3 y4 y5 y6
      unfold trishawlaw01_TurnRenumbered.l1
      repeat' first
      | (with_reducible exact ih0 _ _ _ _)
      | (with_reducible exact ih1 _ _ _ _ _ _)
      | (with_reducible exact ih2 _ _ _ _ _ _ _)
      | (with_reducible exact trishawlaw01_alive.mono _)
      | (with_reducible exact trishawref01_Days.mono _ _ _)
      | (with_reducible exact trishawref01_Shares.mono _ _)
      | (with_reducible exact turn_Deviation.mono _ _ _)
      | (with_reducible exact turn_Least.mono _ _)
      | (with_reducible exact turn_Quota.mono _ _ _)
      | (with_reducible exact LeO.refl _)
      | (with_reducible exact LeO.none _)
      | (with_reducible refine LeO.ite ?_ ?_)
      | (with_reducible refine LeO.bind ?_ (fun _ => ?_))
      | exact ih0 _ _ _ _
      | exact ih1 _ _ _ _ _ _
      | exact ih2 _ _ _ _ _ _ _
      | exact trishawlaw01_alive.mono _
      | exact trishawref01_Days.mono _ _ _
      | exact trishawref01_Shares.mono _ _
      | exact turn_Deviation.mono _ _ _
      | exact turn_Least.mono _ _
      | exact turn_Quota.mono _ _ _
      | exact LeO.none _
      | refine LeO.ite ?_ ?_
      | refine LeO.bind ?_ (fun _ => ?_)
theorem trishawlaw01_TurnRenumbered.mono : ∀ a0 a1 a2 k, LeO (trishawlaw01_TurnRenumbered.f k a0 a1 a2) (trishawlaw01_TurnRenumbered.f (k + 1) a0 a1 a2) := by
  intro a0 a1 a2 k
  obtain ⟨ih0, ih1, ih2⟩ := trishawlaw01_TurnRenumbered.mono_l k
  unfold trishawlaw01_TurnRenumbered.f
  repeat' first
      | (with_reducible exact ih0 _ _ _ _)
      | (with_reducible exact ih1 _ _ _ _ _ _)
      | (with_reducible exact ih2 _ _ _ _ _ _ _)
      | (with_reducible exact trishawlaw01_alive.mono _)
      | (with_reducible exact trishawref01_Days.mono _ _ _)
      | (with_reducible exact trishawref01_Shares.mono _ _)
      | (with_reducible exact turn_Deviation.mono _ _ _)
      | (with_reducible exact turn_Least.mono _ _)
      | (with_reducible exact turn_Quota.mono _ _ _)
      | (with_reducible exact LeO.refl _)
      | (with_reducible exact LeO.none _)
      | (with_reducible refine LeO.ite ?_ ?_)
      | (with_reducible refine LeO.bind ?_ (fun _ => ?_))
      | exact ih0 _ _ _ _
      | exact ih1 _ _ _ _ _ _
      | exact ih2 _ _ _ _ _ _ _
      | exact trishawlaw01_alive.mono _
      | exact trishawref01_Days.mono _ _ _
      | exact trishawref01_Shares.mono _ _
      | exact turn_Deviation.mono _ _ _
      | exact turn_Least.mono _ _
      | exact turn_Quota.mono _ _ _
      | exact LeO.none _
      | refine LeO.ite ?_ ?_
      | refine LeO.bind ?_ (fun _ => ?_)
def trishawlaw01_TurnRenumbered.T9 : Bool × List (List Nat × List Nat) := (true, [([], []), ([], []), ([], []), ([2], [2]), ([1, 3], [1, 3]), ([], []), ([4, 5], [4, 5]), ([], []), ([], []), ([7, 8], [7, 8]), ([9], [9]), ([0, 6, 0, 1, 2, 3, 4, 5, 6, 7, 8, 9, 10], [0, 6]), ([11, 10, 0, 1, 2, 3, 4, 5, 6, 7, 8, 9, 10], [10, 11])])
def trishawlaw01_TurnRenumbered.B9 : List Nat := [0, 0, 0, 4, 14, 0, 62, 0, 0, 384, 896, 2047, 4095]
theorem trishawlaw01_TurnRenumbered.tab9 : rtab .any (opsOf Tryd.f7 9) = trishawlaw01_TurnRenumbered.T9 := by kernel_rfl
theorem trishawlaw01_TurnRenumbered.bits9 : waitsOk trishawlaw01_TurnRenumbered.T9.2 trishawlaw01_TurnRenumbered.B9 = true := by kernel_rfl
set_option maxHeartbeats 8000000 in
set_option maxRecDepth 100000 in
theorem trishawlaw01_TurnRenumbered.calls (k : Nat) (A0 : Option Addr) (c0 : Nat) (l0 : List Int) (A1 : Option Addr) (c1 : Nat) (l1 : List Int) (a2 : Int) (r : Bool) (w : World) (hr0 : Kd.C (Kd.int .i64) w A0 l0.length l0) (hc0 : l0.length ≤ c0) (hr1 : Kd.C (Kd.int .i64) w A1 l1.length l1) (hc1 : l1.length ≤ c1) (h : trishawlaw01_TurnRenumbered.f k l0 l1 a2 = some r) (hN0 : NoneLaid w) (hr_ : r = true) :
    Calls Tryd.prog 7 #[.slice A0 l0.length c0, .slice A1 l1.length c1, .int .u8 a2] w fun e w' => e = .returned (.bool r) ∧ Below w.heap.size w w' := by
 have HN := Aside0.mk hN0
 clear hN0
 have hr := Aside0.mk hr_
 clear hr_
 have hu26 := Tryd.underlying26
 have HR0 := Aside0.mk hr0
 have HC0 := Aside0.mk hc0
 clear hr0 hc0
 have HR1 := Aside0.mk hr1
 have HC1 := Aside0.mk hc1
 clear hr1 hc1
 have HB := Aside0.mk (Below.refl w.heap.size w)
 have H : ((trishawref01_Shares.f k l0).bind fun bt509 => ((trishawlaw01_few.f l0 l1).bind fun t511 => (if t511 = true then (if bt509.2 = 0 then ((trishawref01_Days.f k l1 (l0.length : Int)).bind fun t512 => (trishawlaw01_TurnRenumbered.j0 k l0 l1 a2 (t512 != 0))) else (trishawlaw01_TurnRenumbered.j0 k l0 l1 a2 true)) else (trishawlaw01_TurnRenumbered.j0 k l0 l1 a2 true)))) = some r := h
 clear h
 replace H := Option.bind_eq_some_iff.mp H
 obtain ⟨⟨t509, t510⟩, A40, H⟩ := H
 replace H : ((trishawlaw01_few.f l0 l1).bind fun t511 => (if t511 = true then (if t510 = 0 then ((trishawref01_Days.f k l1 (l0.length : Int)).bind fun t512 => (trishawlaw01_TurnRenumbered.j0 k l0 l1 a2 (t512 != 0))) else (trishawlaw01_TurnRenumbered.j0 k l0 l1 a2 true)) else (trishawlaw01_TurnRenumbered.j0 k l0 l1 a2 true))) = some r := H
 have A4 := Aside0.mk A40
 clear A40
 have HC5 := Aside0.mk H
 clear H
 go_enter Tryd.func7, Tryd.ntmps7
 go_upto_region 2 with (first | ((with_reducible refine gate_callee (f := 23) rfl ?_); refine goesL_ (some 28) rfl rfl Tryd.func23 (by kernel_rfl) rfl #[.slice A0 l0.length c0] rfl (as_) ?_; (with_reducible refine (trishawref01_Shares.calls k _ _ l0 t509 t510 _ ?side1 ?side2 A4.out).mono ?_); (case side1 => repeat (first | exact HR0.out | (with_reducible refine Kd.C_alloc ?_ _) | (with_reducible refine Kd.C_drewN ?_ _) | (with_reducible refine Kd.C_drew ?_))); (case side2 => exact HC0.out); rintro e w' ⟨rfl, ⟨nd, rfl⟩⟩; refine ⟨_, rfl, ?_⟩))
 (try simp only [Act.put, List.setIfInBounds_toArray, List.set_cons_zero, List.set_cons_succ])
 go_cut [45] (fun v45 wc => ∃ (kq : Nat) (x45_4 : Bool), v45 = .bool x45_4 ∧ Aside0 (trishawlaw01_TurnRenumbered.j0 kq l0 l1 a2 x45_4 = some r) ∧ Aside0 (kq ≤ k) ∧ Aside0 (Below w.heap.size w wc))
 case first =>
  have H := HC5.out
  clear HC5
  replace H := Option.bind_eq_some_iff.mp H
  obtain ⟨t511, A60, H⟩ := H
  replace H : (if t511 = true then (if t510 = 0 then ((trishawref01_Days.f k l1 (l0.length : Int)).bind fun t512 => (trishawlaw01_TurnRenumbered.j0 k l0 l1 a2 (t512 != 0))) else (trishawlaw01_TurnRenumbered.j0 k l0 l1 a2 true)) else (trishawlaw01_TurnRenumbered.j0 k l0 l1 a2 true)) = some r := H
  have A6 := Aside0.mk A60
  clear A60
  by_cases c7 : t511 = true
  ·subst c7
   have H1 : (if t510 = 0 then ((trishawref01_Days.f k l1 (l0.length : Int)).bind fun t512 => (trishawlaw01_TurnRenumbered.j0 k l0 l1 a2 (t512 != 0))) else (trishawlaw01_TurnRenumbered.j0 k l0 l1 a2 true)) = some r := by rw [if_pos rfl] at H; exact H
   clear H
   have H := H1
   clear H1
   by_cases c8 : t510 = 0
   ·rw [if_pos c8] at H
    have c8b0 : (t510 == 0) = true := beq_iff_eq.mpr c8
    have c8b1 : (t510 != 0) = false := bne_eq_false_iff_eq.mpr c8
    clear c8
    (first | rw [c8b0] | (simp only [i64_w, i32_w]; rw [c8b0]) | skip)
    replace H := Option.bind_eq_some_iff.mp H
    obtain ⟨t512, A90, H⟩ := H
    replace H : (trishawlaw01_TurnRenumbered.j0 k l0 l1 a2 (t512 != 0)) = some r := H
    have A9 := Aside0.mk A90
    clear A90
    have H' := Aside0.mk H
    clear H
    go_wp2_with (first | ((with_reducible refine gate_callee (f := 16) rfl ?_); refine goesL_ (some 33) rfl rfl Tryd.func16 (by kernel_rfl) rfl #[.slice A0 l0.length c0, .slice A1 l1.length c1] rfl (as_) ?_; (with_reducible refine (trishawlaw01_few.calls _ _ l0 _ _ l1 true _ ?side1 ?side2 ?side3 ?side4 A6.out).mono ?_); (case side1 => repeat (first | exact (Kd.C_below HR0.out HB.out) | (with_reducible refine Kd.C_alloc ?_ _) | (with_reducible refine Kd.C_drewN ?_ _) | (with_reducible refine Kd.C_drew ?_))); (case side2 => exact HC0.out); (case side3 => repeat (first | exact (Kd.C_below HR1.out HB.out) | (with_reducible refine Kd.C_alloc ?_ _) | (with_reducible refine Kd.C_drewN ?_ _) | (with_reducible refine Kd.C_drew ?_))); (case side4 => exact HC1.out); rintro e w' ⟨rfl, ⟨nd, rfl⟩⟩; refine ⟨_, rfl, ?_⟩) | (go_at_call 24; (with_reducible refine (trishawref01_Days.calls k _ _ l1 (l0.length : Int) t512 _ ?side1 ?side2 A9.out).mono ?_); (case side1 => repeat (first | exact (Kd.C_below HR1.out (bl_)) | (with_reducible refine Kd.C_alloc ?_ _) | (with_reducible refine Kd.C_drewN ?_ _) | (with_reducible refine Kd.C_drew ?_))); (case side2 => exact HC1.out); rintro e w' ⟨rfl, ⟨nd, rfl⟩⟩))
    go_meet
    case rel => exact ⟨_, ((t512 != 0)), (by first | rfl | (simp; done) | (simp [*]; done)), H', ⟨by first | omega | exact Nat.le_refl _⟩, ⟨bl_⟩⟩
   ·rw [if_neg c8] at H
    have c8b0 : (t510 == 0) = false := beq_eq_false_iff_ne.mpr c8
    have c8b1 : (t510 != 0) = true := bne_iff_ne.mpr c8
    (first | rw [c8b0] | (simp only [i64_w, i32_w]; rw [c8b0]) | skip)
    have H' := Aside0.mk H
    clear H
    go_wp2_with (first | ((with_reducible refine gate_callee (f := 16) rfl ?_); refine goesL_ (some 33) rfl rfl Tryd.func16 (by kernel_rfl) rfl #[.slice A0 l0.length c0, .slice A1 l1.length c1] rfl (as_) ?_; (with_reducible refine (trishawlaw01_few.calls _ _ l0 _ _ l1 true _ ?side1 ?side2 ?side3 ?side4 A6.out).mono ?_); (case side1 => repeat (first | exact (Kd.C_below HR0.out HB.out) | (with_reducible refine Kd.C_alloc ?_ _) | (with_reducible refine Kd.C_drewN ?_ _) | (with_reducible refine Kd.C_drew ?_))); (case side2 => exact HC0.out); (case side3 => repeat (first | exact (Kd.C_below HR1.out HB.out) | (with_reducible refine Kd.C_alloc ?_ _) | (with_reducible refine Kd.C_drewN ?_ _) | (with_reducible refine Kd.C_drew ?_))); (case side4 => exact HC1.out); rintro e w' ⟨rfl, ⟨nd, rfl⟩⟩; refine ⟨_, rfl, ?_⟩))
    go_meet
    case rel => exact ⟨_, (true), (by first | rfl | (simp; done) | (simp [*]; done)), H', ⟨by first | omega | exact Nat.le_refl _⟩, ⟨bl_⟩⟩
  ·replace c7 := Bool.eq_false_iff.mpr c7
   subst c7
   have H1 : (trishawlaw01_TurnRenumbered.j0 k l0 l1 a2 true) = some r := by rw [if_neg (show ¬ (false = true) by decide)] at H; exact H
   clear H
   have H := H1
   clear H1
   have H' := Aside0.mk H
   clear H
   go_wp2_with (first | ((with_reducible refine gate_callee (f := 16) rfl ?_); refine goesL_ (some 33) rfl rfl Tryd.func16 (by kernel_rfl) rfl #[.slice A0 l0.length c0, .slice A1 l1.length c1] rfl (as_) ?_; (with_reducible refine (trishawlaw01_few.calls _ _ l0 _ _ l1 false _ ?side1 ?side2 ?side3 ?side4 A6.out).mono ?_); (case side1 => repeat (first | exact (Kd.C_below HR0.out HB.out) | (with_reducible refine Kd.C_alloc ?_ _) | (with_reducible refine Kd.C_drewN ?_ _) | (with_reducible refine Kd.C_drew ?_))); (case side2 => exact HC0.out); (case side3 => repeat (first | exact (Kd.C_below HR1.out HB.out) | (with_reducible refine Kd.C_alloc ?_ _) | (with_reducible refine Kd.C_drewN ?_ _) | (with_reducible refine Kd.C_drew ?_))); (case side4 => exact HC1.out); rintro e w' ⟨rfl, ⟨nd, rfl⟩⟩; refine ⟨_, rfl, ?_⟩))
   go_meet
   case rel => exact ⟨_, (true), (by first | rfl | (simp; done) | (simp [*]; done)), H', ⟨by first | omega | exact Nat.le_refl _⟩, ⟨bl_⟩⟩
 case rest =>
  clear HC5
  try clear c1
  try clear c2
  try clear p2
  try clear c7
  try clear c8
  try clear c8b0
  try clear c8b1
  obtain ⟨kq, x45_4, rfl, HA, HJ4, HB⟩ := hcut
  cases kq with
  | zero => exact absurd HA.out (by simp [trishawlaw01_TurnRenumbered.j0])
  | succ kj4 =>
   have H := HA.out
   clear HA
   simp only [trishawlaw01_TurnRenumbered.j0] at H
   by_cases c10 : x45_4 = true
   ·subst c10
    have H1 : ((trishawlaw01_alive.f kj4).bind fun t513 => (some t513)) = some r := by rw [if_pos rfl] at H; exact H
    clear H
    have H := H1
    clear H1
    replace H := Option.bind_eq_some_iff.mp H
    obtain ⟨t513, A110, H⟩ := H
    replace H : (some t513) = some r := H
    have A11 := Aside0.mk A110
    clear A110
    obtain rfl := Option.some.inj H
    go_wp2_with (first | ((with_reducible refine gate_callee (f := 17) rfl ?_); refine goesL_ (some 46) rfl rfl Tryd.func17 (by kernel_rfl) rfl #[] rfl (as_) ?_; (with_reducible refine (trishawlaw01_alive.calls kj4  t513 _ A11.out (HN.out.of (bl_))).mono ?_); rintro e w12 ⟨rfl, hb⟩; refine ⟨_, rfl, ?_⟩; have n0_ := Aside0.mk (below_step (bl_) hb); clear HB; have HB := n0_; clear n0_; (try clear hb); (try clear hb2); (try clear hk); (try clear hi)))
    go_ret
    exact ⟨by first | rfl | (simp [errW_none, errW_some] <;> rfl) | (simp [*, errW_none, errW_some] <;> rfl), bl_⟩
   ·replace c10 := Bool.eq_false_iff.mpr c10
    subst c10
    have H1 : (if 0 ≤ (l0.length : Int) then (if ((l0.length : Int) : Int).toNat ≤ 35184372088832 then (trishawlaw01_TurnRenumbered.l0 kj4 l0 l1 a2 (l0.length : Int) (List.replicate ((l0.length : Int) : Int).toNat 0) 0) else (none)) else (none)) = some r := by rw [if_neg (show ¬ (false = true) by decide)] at H; exact H
    clear H
    have H := H1
    clear H1
    have c13 : 0 ≤ (l0.length : Int) := fl_ fun c13 => by rw [if_neg c13] at H; exact absurd H (by simp)
    rw [if_pos c13] at H
    have c13b0 := eq_true c13
    have c13b1 : decide (0 ≤ (l0.length : Int)) = true := decide_eq_true c13
    clear c13
    have c14 : ((l0.length : Int) : Int).toNat ≤ 35184372088832 := fl_ fun c14 => by rw [if_neg c14] at H; exact absurd H (by simp)
    rw [if_pos c14] at H
    have c14b0 := eq_true c14
    have c14b1 : decide (((l0.length : Int) : Int).toNat ≤ 35184372088832) = true := decide_eq_true c14
    clear c14
    obtain ⟨y514, hy514⟩ : ∃ y_ : List Int, y_ = (List.replicate ((l0.length : Int) : Int).toNat 0) := ⟨_, rfl⟩
    replace H : (trishawlaw01_TurnRenumbered.l0 kj4 l0 l1 a2 (l0.length : Int) y514 0) = some r := by first | (rw [hy514]; with_reducible exact H) | (have H2_ := (Option.bind_some _ _).symm.trans H; rw [hy514]; with_reducible exact H2_) | (have H2_ := (Option.bind_some _ _).symm.trans H; with_reducible exact H2_) | with_reducible exact H | (rw [hy514]; exact H) | exact H
    have Ny514 := Aside0.mk hy514
    clear hy514
    have H' := Aside0.mk H
    clear H
    go_wp2_with (first | ((with_reducible refine gate_dst (N := 50) rfl ?_); (try (refine gate_guard (by rfl) ?_; dsimp only)); refine Kd.R_make (Kd.int .i64) _ 3 rfl (N := 50) rfl 22 _ _ rfl (l0.length : Int) rfl rfl Tryd.underlying22 (.int .i64 0) 8 info3 rfl (by decide) (by omega) 0 (ok := fun _ => True) (okp := fun _ => True) rfl (fun _ hk => hk) trivial (od_) (Nat.le_trans (Nat.mul_le_mul_right _ (od_ : (l0.length : Int).toNat ≤ 35184372088832)) (by omega)) (Below.refl _ _) (Nat.le_refl _) ?_; intro v515 w15 ho16 hb hg_ hnew_; clear hg_ hnew_; (first | rw [← Ny514.out] at ho16 | (simp only [Int.reduceToNat] at ho16; rw [← Ny514.out] at ho16)); have n0_ := Aside0.mk (Kd.R_lower ho16 (below_size (bl_))); have n1_ := Aside0.mk (below_step (bl_) hb); clear HB; have HO516 := n0_; have HB := n1_; clear n0_ n1_; clear hb ho16))
    go_loopg [11] kj4 (fun kq v11 w' => ∃ (x10_2 : List Int) (x11_2 : Int), v11 = .int .i64 x11_2 ∧ Aside0 (trishawlaw01_TurnRenumbered.l0 kq l0 l1 a2 (l0.length : Int) x10_2 x11_2 = some r) ∧ Aside0 (kq ≤ kj4) ∧ Aside0 (Kd.R (Kd.int .i64) 3 w' w.heap.size (fun _ => True) v515 x10_2) ∧ Aside0 (Below w.heap.size w w'))
    case atStart => exact ⟨(y514), (0), (by first | rfl | (simp; done) | (simp [*]; done)), H', ⟨Nat.le_refl _⟩, ⟨kr_ HO516.out⟩, ⟨bl_⟩⟩
    case round =>
     clear H'
     try clear c1
     try clear c2
     try clear p2
     try clear c7
     try clear c8
     try clear c8b0
     try clear c8b1
     try clear c10
     try clear c13
     try clear c13b0
     try clear c13b1
     try clear c14
     try clear c14b0
     try clear c14b1
     try clear c16
     try clear p2
     obtain ⟨x10_2, x11_2, rfl, HA, HK2, HO_10, HB⟩ := hrel
     cases gk with
     | zero => exact absurd HA.out (by simp [trishawlaw01_TurnRenumbered.l0])
     | succ k2 =>
      have H := HA.out
      clear HA
      simp only [trishawlaw01_TurnRenumbered.l0] at H
      by_cases c17 : x11_2 < (l0.length : Int)
      ·rw [if_pos c17] at H
       have c17b0 : decide (x11_2 < (l0.length : Int)) = true := decide_eq_true c17
       clear c17
       by_cases c18 : (l0.length : Int) = 0
       ·rw [if_pos c18] at H
        exact absurd H (by simp)
       ·rw [if_neg c18] at H
        have c18b0 : ((l0.length : Int) == 0) = false := beq_eq_false_iff_ne.mpr c18
        have c18b1 : ((l0.length : Int) != 0) = true := bne_iff_ne.mpr c18
        have c18b2 : ¬ (l0 = []) := fun h_ => c18 (by rw [h_]; rfl)
        have c19 : 0 ≤ x11_2 := fl_ fun c19 => by rw [if_neg c19] at H; exact absurd H (by simp)
        rw [if_pos c19] at H
        have c19b0 : decide (0 ≤ x11_2) = true := decide_eq_true c19
        clear c19
        have c20 : x11_2 < (l0.length : Int) := fl_ fun c20 => by rw [if_neg c20] at H; exact absurd H (by simp)
        rw [if_pos c20] at H
        have c20b0 : decide (x11_2 < (l0.length : Int)) = true := decide_eq_true c20
        clear c20
        obtain ⟨ji21, hji21⟩ : ∃ j_ : Int, (Int.tmod (wrap64 (x11_2 + (wrap64 (a2)))) (l0.length : Int)) = j_ := ⟨_, rfl⟩
        replace H : (if 0 ≤ (ji21) then (if (ji21) < (x10_2.length : Int) then (trishawlaw01_TurnRenumbered.l0 k2 l0 l1 a2 (l0.length : Int) (x10_2.set ((ji21) : Int).toNat (rd l0 x11_2)) (wrap64 (x11_2 + 1))) else (none)) else (none)) = some r := by first | (rw [hji21] at H; exact H) | (simp only [hji21] at H ⊢; exact H)
        have c22 : 0 ≤ (ji21) := fl_ fun c22 => by rw [if_neg c22] at H; exact absurd H (by simp)
        rw [if_pos c22] at H
        have c22b0 : decide (0 ≤ (ji21)) = true := decide_eq_true c22
        clear c22
        have c23 : (ji21) < (x10_2.length : Int) := fl_ fun c23 => by rw [if_neg c23] at H; exact absurd H (by simp)
        rw [if_pos c23] at H
        have c23b0 : decide ((ji21) < (x10_2.length : Int)) = true := decide_eq_true c23
        clear c23
        obtain ⟨y518, hy518⟩ : ∃ y_ : List Int, y_ = (x10_2.set ((ji21) : Int).toNat (rd l0 x11_2)) := ⟨_, rfl⟩
        replace H : (trishawlaw01_TurnRenumbered.l0 k2 l0 l1 a2 (l0.length : Int) y518 (wrap64 (x11_2 + 1))) = some r := by first | (rw [hy518]; with_reducible exact H) | (have H2_ := (Option.bind_some _ _).symm.trans H; rw [hy518]; with_reducible exact H2_) | (have H2_ := (Option.bind_some _ _).symm.trans H; with_reducible exact H2_) | with_reducible exact H | (rw [hy518]; exact H) | exact H
        have Ny518 := Aside0.mk hy518
        clear hy518
        have H' := Aside0.mk H
        clear H
        try go_wp2
        have n0_ := Aside0.mk (Kd.R_drew HO_10.out)
        have n1_ := Aside0.mk (below_drew1 HB.out)
        clear HO_10
        clear HB
        have HO_10 := n0_
        have HB := n1_
        clear n0_ n1_
        have p517 : 0 ≤ (x11_2 : Int) := od_
        have q517 : x11_2 < (l0.length : Int) := od_
        obtain ⟨ad517, e517, hx517_0⟩ := Kd.at_int HR0.out x11_2 p517 q517
        have hw517_0 := hx517_0
        cases e517
        replace hx517_0 := (HB.out.cell (World.block_lt_of_cell? w _ hx517_0)).trans hx517_0
        replace p517 := eq_true p517
        replace q517 := eq_true q517
        have p24 : 0 ≤ ((ji21) : Int) := od_
        have q24 : ((ji21) : Int) < ((x10_2.length : Int) : Int) := od_
        obtain ⟨go24, co24, eo24, gb24, gl24, cl24, HG24⟩ := Kd.R_form HO_10.out (by omega)
        (first | cases eo24 | (injection eo24 with ea_ en_ ec_; (first | subst ea_ | (injection ea_ with ea_; subst ea_)); subst ec_; clear en_))
        have GB24 := Aside0.mk gb24
        have GG24 := Aside0.mk HG24
        clear gb24 gl24 HG24
        obtain ⟨hx24_0, hf24_0⟩ := Kd.R_celln 0 HO_10.out ((ji21) : Int) p24 q24
        replace p24 := eq_true p24
        replace q24 := eq_true q24
        have HP26 := Kd.R_putn HO_10.out ((ji21) : Int) (rd l0 x11_2)
        rw [← Ny518.out] at HP26
        have HQ26 := Aside0.mk HP26
        clear HP26
        refine start_ (n := 13) (S := fun w' => w'.cell? (ad517.add (x11_2).toNat) = some (.int .i64 (rd l0 x11_2))) (ds := [12]) #[false, false, false, false, false, false, false, false, false, false, false, false, false] (by kernel_rfl) rfl rfl (((HB.out.cell (World.block_lt_of_cell? w _ hw517_0)).trans hw517_0)) (fun hHeld => ?_); refine with_tabW trishawlaw01_TurnRenumbered.tab9 trishawlaw01_TurnRenumbered.bits9 (fun HT_ HW_ => ?_)
        generalize wr.drew = w25 at HO_10 HB GG24 HQ26 hf24_0 hx24_0 hx517_0 hHeld ⊢
        refine pu_ 0 56 HT_.out (h := ?_)
        refine pu_ 1 57 HT_.out (h := ?_)
        refine pu_ 2 58 HT_.out (h := ?_)
        refine pu_ 3 59 HT_.out (h := ?_)
        refine pu_ 4 60 HT_.out (h := ?_)
        refine pu_ 5 61 HT_.out (h := ?_)
        refine pu_ 6 62 HT_.out (h := ?_)
        refine pu_ 7 63 HT_.out (h := ?_)
        refine pu_ 8 64 HT_.out (h := ?_)
        refine pu_ 9 65 HT_.out (h := ?_)
        refine take_ (i := 10) (N := some 66) (v := ?_) (a' := ?_) #[true, true, true, true, true, true, true, true, true, true, true, false, false] rfl rfl (take_ofW HT_.out HW_.out (by kernel_rfl)) (fun _ _ _ h => h) (Or.inl ⟨by rfl, ?_⟩) hHeld ?_ ?_
        rotate_left
        ·intro w' s0
         go_simp
         with_reducible rfl
        rotate_left
        ·simp only [Act.put, List.setIfInBounds_toArray, List.set_cons_zero, List.set_cons_succ, i64_w, i32_w]
         rfl
        refine pu_ 11 67 HT_.out (h := ?_)
        refine last_ (i := 12) (N := none) #[true, true, true, true, true, true, true, true, true, true, true, true, true] rfl rfl (one_of HT_.out (by kernel_rfl)) (by decide) (fun K hK => ?_)
        refine skip_ (w1 := ?_) (by rfl) rfl ?_ ?_
        rotate_left
        ·go_simp
         rfl
        refine hK.out _ _ ?_
        clear hK K
        refine done_ (done_of HT_.out (by kernel_rfl)) ?_
        try go_wp2
        go_roundg k2
        case measure => have := HJ4.out; have := HK2.out; omega
        case rel => exact ⟨(y518), (wrap64 (x11_2 + 1)), (by first | rfl | (simp; done) | (simp [*]; done)), H', ⟨by have := HJ4.out; have := HK2.out; omega⟩, ⟨kr_ HQ26.out⟩, ⟨bl_⟩⟩
      ·rw [if_neg c17] at H
       have c17b0 : decide (x11_2 < (l0.length : Int)) = false := decide_eq_false c17
       clear c17
       have H' := Aside0.mk H
       clear H
       go_wp2
       go_loopg [12, 13] k2 (fun kq v12 v13 w' => ∃ (x12_3 : List Int) (x13_3 : Int), v13 = .int .i64 x13_3 ∧ Aside0 (trishawlaw01_TurnRenumbered.l1 kq l0 l1 a2 (l0.length : Int) x10_2 x12_3 x13_3 = some r) ∧ Aside0 (kq ≤ k2) ∧ Aside0 (Kd.R (Kd.int .i64) 3 w' w.heap.size (fun k_ => some k_ ≠ (v12 : Value).ownBlock) v515 x10_2) ∧ Aside0 (Kd.R (Kd.int .i64) 3 w' w.heap.size (fun k_ => some k_ ≠ (v515 : Value).ownBlock) v12 x12_3) ∧ Aside0 (Below w.heap.size w w'))
       case atStart => exact ⟨(([] : List Int)), (0), (by first | rfl | (simp; done) | (simp [*]; done)), H', ⟨Nat.le_refl _⟩, ⟨by (with_reducible repeat (first | apply Kd.R_alloc | apply Kd.R_drewN | apply Kd.R_drew)); exact Kd.R_mono HO_10.out (fun _ hk => (by simp [Value.ownBlock]))⟩, ⟨by first | exact Kd.R_nil _ _ _ _ _ | exact Kd.N_nil _ _ _ _ _ | exact Kd.V_nil _ _ _ _ _ | exact Kd.Q_nil _ _ _ _ _ | exact Kd.S_nil _ _ _ _ _⟩, ⟨bl_⟩⟩
       case round =>
        clear H'
        try clear c1
        try clear c2
        try clear p2
        try clear q2
        try clear hx2
        try clear p5
        try clear q5
        try clear hx5
        try clear p6
        try clear c7
        try clear c8
        try clear c8b0
        try clear c8b1
        try clear c10
        try clear c13
        try clear c13b0
        try clear c13b1
        try clear c14
        try clear c14b0
        try clear c14b1
        try clear c16
        try clear c17
        try clear c17b0
        try clear c18
        try clear c18b0
        try clear c18b1
        try clear c18b2
        try clear c19
        try clear c19b0
        try clear c20
        try clear c20b0
        try clear c22
        try clear c22b0
        try clear c23
        try clear c23b0
        try clear p24
        try clear q24
        try clear hx24
        try clear hf24
        try clear hx24_0
        try clear hx517_0
        try clear p2
        try clear p24
        try clear p517
        try clear q24
        try clear q517
        obtain ⟨x12_3, x13_3, rfl, HA, HK3, HO_10, HO_12, HB⟩ := hrel
        cases gk with
        | zero => exact absurd HA.out (by simp [trishawlaw01_TurnRenumbered.l1])
        | succ k3 =>
         have H := HA.out
         clear HA
         simp only [trishawlaw01_TurnRenumbered.l1] at H
         by_cases c27 : x13_3 < (l1.length : Int)
         ·rw [if_pos c27] at H
          have c27b0 : decide (x13_3 < (l1.length : Int)) = true := decide_eq_true c27
          clear c27
          have c28 : 0 ≤ x13_3 := fl_ fun c28 => by rw [if_neg c28] at H; exact absurd H (by simp)
          rw [if_pos c28] at H
          have c28b0 : decide (0 ≤ x13_3) = true := decide_eq_true c28
          clear c28
          by_cases c29 : (l0.length : Int) = 0
          ·rw [if_pos c29] at H
           exact absurd H (by simp)
          ·rw [if_neg c29] at H
           have c29b0 : ((l0.length : Int) == 0) = false := beq_eq_false_iff_ne.mpr c29
           have c29b1 : ((l0.length : Int) != 0) = true := bne_iff_ne.mpr c29
           have c29b2 : ¬ (l0 = []) := fun h_ => c29 (by rw [h_]; rfl)
           have c30 : x12_3.length < 17592186044416 := fl_ fun c30 => by rw [if_neg c30] at H; exact absurd H (by simp)
           rw [if_pos c30] at H
           have LMc30 := Aside0.mk c30
           clear c30
           obtain ⟨y520, hy520⟩ : ∃ y_ : List Int, y_ = (x12_3 ++ [Int.tmod (wrap64 ((rd l1 x13_3) + (wrap64 (a2)))) (l0.length : Int)]) := ⟨_, rfl⟩
           replace H : (trishawlaw01_TurnRenumbered.l1 k3 l0 l1 a2 (l0.length : Int) x10_2 y520 (wrap64 (x13_3 + 1))) = some r := by first | (rw [hy520]; with_reducible exact H) | (have H2_ := (Option.bind_some _ _).symm.trans H; rw [hy520]; with_reducible exact H2_) | (have H2_ := (Option.bind_some _ _).symm.trans H; with_reducible exact H2_) | with_reducible exact H | (rw [hy520]; exact H) | exact H
           have Ny520 := Aside0.mk hy520
           clear hy520
           have H' := Aside0.mk H
           clear H
           have p519 : 0 ≤ (x13_3 : Int) := od_
           have q519 : x13_3 < (l1.length : Int) := od_
           obtain ⟨ad519, e519, hx519_0⟩ := Kd.at_int HR1.out x13_3 p519 q519
           cases e519
           replace hx519_0 := (HB.out.cell (World.block_lt_of_cell? w _ hx519_0)).trans hx519_0
           replace p519 := eq_true p519
           replace q519 := eq_true q519
           go_wp2_with (first | ((with_reducible refine gate_builtin (b := .append) (xs := #[.tmp 74, .tmp 84]) rfl ?_); (try (refine gate_guard (by rfl) ?_; dsimp only)); at_builtin; refine Kd.R_append (Kd.int .i64) (w0 := w) w.heap.size rfl (.tmp 74) (.tmp 84) 22 3 (.int .i64 0) 8 rfl Tryd.underlying22 info3 rfl (by decide) (by omega) u12 x12_3 (Int.tmod (wrap64 ((rd l1 x13_3) + (wrap64 (a2)))) (l0.length : Int)) [.int .i64 (Int.tmod (wrap64 ((rd l1 x13_3) + (wrap64 (a2)))) (l0.length : Int))] (fun k_ => some k_ ≠ (v515 : Value).ownBlock) (fun _ => False) rfl rfl ?aP (fun _ hk => hk.elim) ?aF ?aO ?aB ?aS ?aL ?_; (case aP => exact rfl); (case aB => exact (bl_)); (case aF => exact (fun k_ hk => Kd.fresh' (Kd.R_lt (kr_ HO_10.out)) k_ hk)); (case aO => exact (kr_ HO_12.out)); (case aS => exact (below_size (bl_))); (case aL => have := LMc30.out; omega); intro v521 w31 ho hb hg hat; rw [← Ny520.out] at ho; have n0_ := Aside0.mk (Kd.R_after (ok := (fun _ => True)) (by (with_reducible repeat (first | apply Kd.R_alloc | apply Kd.R_drewN | apply Kd.R_drew)); exact Kd.R_mono HO_10.out (fun _ hk => ⟨trivial, hk⟩)) hg hat); have n1_ := Aside0.mk (hb); have n2_ := Aside0.mk (ho); clear HO_10; clear HB; clear HO_12; have HO_10 := n0_; have HB := n1_; have HO522 := n2_; clear n0_ n1_ n2_; clear ho hb hg hat))
           go_roundg k3
           case measure => have := HJ4.out; have := HK2.out; have := HK3.out; omega
           case rel => exact ⟨(y520), (wrap64 (x13_3 + 1)), (by first | rfl | (simp; done) | (simp [*]; done)), H', ⟨by have := HJ4.out; have := HK2.out; have := HK3.out; omega⟩, ⟨by (with_reducible repeat (first | apply Kd.R_alloc | apply Kd.R_drewN | apply Kd.R_drew)); exact Kd.R_mono HO_10.out (fun _ hk => hk.2)⟩, ⟨kr_ HO522.out⟩, ⟨bl_⟩⟩
         ·rw [if_neg c27] at H
          have c27b0 : decide (x13_3 < (l1.length : Int)) = false := decide_eq_false c27
          clear c27
          replace H := Option.bind_eq_some_iff.mp H
          obtain ⟨⟨t523, t524, t525⟩, A320, H⟩ := H
          replace H : ((turn_Deviation.f k3 x10_2 x12_3).bind fun bt527 => ((turn_Quota.f k3 l0 l1).bind fun bt531 => ((turn_Quota.f k3 x10_2 x12_3).bind fun bt533 => ((turn_Least.f k3 l0).bind fun bt535 => ((turn_Least.f k3 x10_2).bind fun bt539 => (if t525 = 0 then (if bt527.2.2 = 0 then (if bt531.2 = 0 then (if bt533.2 = 0 then (if bt535.2.2 = 0 then (if bt539.2.2 = 0 then (if (t523 == bt527.1 && (t524 == bt527.2.1)) = true then (if (bt531.1 == bt533.1) = true then (if (bt535.1 == bt539.1 && (bt535.2.1 == bt539.2.1)) = true then ((trishawlaw01_alive.f k3).bind fun t543 => (some t543)) else (some false)) else (some false)) else (some false)) else (some false)) else (some false)) else (some false)) else (some false)) else (some false)) else (some false))))))) = some r := H
          have A32 := Aside0.mk A320
          clear A320
          replace H := Option.bind_eq_some_iff.mp H
          obtain ⟨⟨t527, t528, t529⟩, A330, H⟩ := H
          replace H : ((turn_Quota.f k3 l0 l1).bind fun bt531 => ((turn_Quota.f k3 x10_2 x12_3).bind fun bt533 => ((turn_Least.f k3 l0).bind fun bt535 => ((turn_Least.f k3 x10_2).bind fun bt539 => (if t525 = 0 then (if t529 = 0 then (if bt531.2 = 0 then (if bt533.2 = 0 then (if bt535.2.2 = 0 then (if bt539.2.2 = 0 then (if (t523 == t527 && (t524 == t528)) = true then (if (bt531.1 == bt533.1) = true then (if (bt535.1 == bt539.1 && (bt535.2.1 == bt539.2.1)) = true then ((trishawlaw01_alive.f k3).bind fun t543 => (some t543)) else (some false)) else (some false)) else (some false)) else (some false)) else (some false)) else (some false)) else (some false)) else (some false)) else (some false)))))) = some r := H
          have A33 := Aside0.mk A330
          clear A330
          replace H := Option.bind_eq_some_iff.mp H
          obtain ⟨⟨t531, t532⟩, A340, H⟩ := H
          replace H : ((turn_Quota.f k3 x10_2 x12_3).bind fun bt533 => ((turn_Least.f k3 l0).bind fun bt535 => ((turn_Least.f k3 x10_2).bind fun bt539 => (if t525 = 0 then (if t529 = 0 then (if t532 = 0 then (if bt533.2 = 0 then (if bt535.2.2 = 0 then (if bt539.2.2 = 0 then (if (t523 == t527 && (t524 == t528)) = true then (if (t531 == bt533.1) = true then (if (bt535.1 == bt539.1 && (bt535.2.1 == bt539.2.1)) = true then ((trishawlaw01_alive.f k3).bind fun t543 => (some t543)) else (some false)) else (some false)) else (some false)) else (some false)) else (some false)) else (some false)) else (some false)) else (some false)) else (some false))))) = some r := H
          have A34 := Aside0.mk A340
          clear A340
          replace H := Option.bind_eq_some_iff.mp H
          obtain ⟨⟨t533, t534⟩, A350, H⟩ := H
          replace H : ((turn_Least.f k3 l0).bind fun bt535 => ((turn_Least.f k3 x10_2).bind fun bt539 => (if t525 = 0 then (if t529 = 0 then (if t532 = 0 then (if t534 = 0 then (if bt535.2.2 = 0 then (if bt539.2.2 = 0 then (if (t523 == t527 && (t524 == t528)) = true then (if (t531 == t533) = true then (if (bt535.1 == bt539.1 && (bt535.2.1 == bt539.2.1)) = true then ((trishawlaw01_alive.f k3).bind fun t543 => (some t543)) else (some false)) else (some false)) else (some false)) else (some false)) else (some false)) else (some false)) else (some false)) else (some false)) else (some false)))) = some r := H
          have A35 := Aside0.mk A350
          clear A350
          replace H := Option.bind_eq_some_iff.mp H
          obtain ⟨⟨t535, t536, t537⟩, A360, H⟩ := H
          replace H : ((turn_Least.f k3 x10_2).bind fun bt539 => (if t525 = 0 then (if t529 = 0 then (if t532 = 0 then (if t534 = 0 then (if t537 = 0 then (if bt539.2.2 = 0 then (if (t523 == t527 && (t524 == t528)) = true then (if (t531 == t533) = true then (if (t535 == bt539.1 && (t536 == bt539.2.1)) = true then ((trishawlaw01_alive.f k3).bind fun t543 => (some t543)) else (some false)) else (some false)) else (some false)) else (some false)) else (some false)) else (some false)) else (some false)) else (some false)) else (some false))) = some r := H
          have A36 := Aside0.mk A360
          clear A360
          replace H := Option.bind_eq_some_iff.mp H
          obtain ⟨⟨t539, t540, t541⟩, A370, H⟩ := H
          replace H : (if t525 = 0 then (if t529 = 0 then (if t532 = 0 then (if t534 = 0 then (if t537 = 0 then (if t541 = 0 then (if (t523 == t527 && (t524 == t528)) = true then (if (t531 == t533) = true then (if (t535 == t539 && (t536 == t540)) = true then ((trishawlaw01_alive.f k3).bind fun t543 => (some t543)) else (some false)) else (some false)) else (some false)) else (some false)) else (some false)) else (some false)) else (some false)) else (some false)) else (some false)) = some r := H
          have A37 := Aside0.mk A370
          clear A370
          by_cases c38 : t525 = 0
          ·rw [if_pos c38] at H
           have c38b0 : (t525 == 0) = true := beq_iff_eq.mpr c38
           have c38b1 : (t525 != 0) = false := bne_eq_false_iff_eq.mpr c38
           clear c38
           by_cases c39 : t529 = 0
           ·rw [if_pos c39] at H
            have c39b0 : (t529 == 0) = true := beq_iff_eq.mpr c39
            have c39b1 : (t529 != 0) = false := bne_eq_false_iff_eq.mpr c39
            clear c39
            by_cases c40 : t532 = 0
            ·rw [if_pos c40] at H
             have c40b0 : (t532 == 0) = true := beq_iff_eq.mpr c40
             have c40b1 : (t532 != 0) = false := bne_eq_false_iff_eq.mpr c40
             clear c40
             by_cases c41 : t534 = 0
             ·rw [if_pos c41] at H
              have c41b0 : (t534 == 0) = true := beq_iff_eq.mpr c41
              have c41b1 : (t534 != 0) = false := bne_eq_false_iff_eq.mpr c41
              clear c41
              by_cases c42 : t537 = 0
              ·rw [if_pos c42] at H
               have c42b0 : (t537 == 0) = true := beq_iff_eq.mpr c42
               have c42b1 : (t537 != 0) = false := bne_eq_false_iff_eq.mpr c42
               clear c42
               by_cases c43 : t541 = 0
               ·rw [if_pos c43] at H
                have c43b0 : (t541 == 0) = true := beq_iff_eq.mpr c43
                have c43b1 : (t541 != 0) = false := bne_eq_false_iff_eq.mpr c43
                clear c43
                by_cases c44 : (t523 == t527 && (t524 == t528)) = true
                ·rw [if_pos c44] at H
                 have c44b0 : (t523 == t527 && (t524 == t528)) = true := c44
                 (try (have c44b1 : decide (t523 = t527 && (t524 == t528)) = true := by simpa using c44))
                 (try (have c44b2 : (t523 == t527 && (t524 == t528)) = true := by simpa using c44))
                 clear c44
                 by_cases c45 : (t531 == t533) = true
                 ·rw [if_pos c45] at H
                  have c45b0 : (t531 == t533) = true := c45
                  (try (have c45b1 : decide (t531 = t533) = true := by simpa using c45))
                  (try (have c45b2 : (t531 == t533) = true := by simpa using c45))
                  clear c45
                  by_cases c46 : (t535 == t539 && (t536 == t540)) = true
                  ·rw [if_pos c46] at H
                   have c46b0 : (t535 == t539 && (t536 == t540)) = true := c46
                   (try (have c46b1 : decide (t535 = t539 && (t536 == t540)) = true := by simpa using c46))
                   (try (have c46b2 : (t535 == t539 && (t536 == t540)) = true := by simpa using c46))
                   clear c46
                   replace H := Option.bind_eq_some_iff.mp H
                   obtain ⟨t543, A470, H⟩ := H
                   replace H : (some t543) = some r := H
                   have A47 := Aside0.mk A470
                   clear A470
                   obtain rfl := Option.some.inj H
                   go_wp2_with (first | ((with_reducible refine gate_callee (f := 25) rfl ?_); refine goesL_ (some 89) rfl rfl Tryd.func25 (by kernel_rfl) rfl #[.slice A0 l0.length c0, .slice A1 l1.length c1] rfl (as_) ?_; (with_reducible refine (turn_Deviation.calls k3 _ _ l0 _ _ l1 t523 t524 t525 _ ?side1 ?side2 ?side3 ?side4 A32.out).mono ?_); (case side1 => repeat (first | exact (Kd.C_below HR0.out HB.out) | (with_reducible refine Kd.C_alloc ?_ _) | (with_reducible refine Kd.C_drewN ?_ _) | (with_reducible refine Kd.C_drew ?_))); (case side2 => exact HC0.out); (case side3 => repeat (first | exact (Kd.C_below HR1.out HB.out) | (with_reducible refine Kd.C_alloc ?_ _) | (with_reducible refine Kd.C_drewN ?_ _) | (with_reducible refine Kd.C_drew ?_))); (case side4 => exact HC1.out); rintro e w48 ⟨rfl, hb⟩; refine ⟨_, rfl, ?_⟩; have n0_ := Aside0.mk (Kd.R_below (kr_ HO_10.out) hb); have n1_ := Aside0.mk (Kd.R_below (kr_ HO_12.out) hb); have n2_ := Aside0.mk (below_step (bl_) hb); clear HO_10; clear HO_12; clear HB; have HO_10 := n0_; have HO_12 := n1_; have HB := n2_; clear n0_ n1_ n2_; (try clear hb); (try clear hb2); (try clear hk); (try clear hi)) | ((with_reducible refine gate_dst (N := 14) rfl ?_); (try (refine gate_guard (by rfl) ?_; dsimp only)); refine box_event ?hg (N := 14) ?hd (cs := #[.int .i64 0, .int .i64 0]) (t := 26) ?hr ?_; (case hd => rfl); (case hg => rfl); (case hr => first | (go_simp; done) | (go_simp; rfl)); intro gb526 hg w49 hbox hb; have n0_ := Aside0.mk (Kd.R_below (kr_ HO_10.out) hb); have n1_ := Aside0.mk (Kd.R_below (kr_ HO_12.out) hb); have n2_ := Aside0.mk (below_step (bl_) hb); have n3_ := Aside0.mk (hbox); have n4_ := Aside0.mk ((by rw [hg]; exact (below_size (bl_)) : w.heap.size ≤ gb526)); have n5_ := Aside0.mk ((by rw [hg]; exact (below_size (bl_)) : w.heap.size ≤ gb526)); clear HO_10; clear HO_12; clear HB; have HO_10 := n0_; have HO_12 := n1_; have HB := n2_; have BK526 := n3_; have GW526 := n4_; have GE526 := n5_; clear n0_ n1_ n2_ n3_ n4_ n5_; clear hb hbox hg; have hcz50_0 : w49.cell? ⟨gb526, 0, none⟩ = some (.int .i64 0) := (blk_cell BK526.out 0).trans rfl; have hcz50_1 : w49.cell? ⟨gb526, 1, none⟩ = some (.int .i64 0) := (blk_cell BK526.out 1).trans rfl; have hfz50_0 := blk_frozen BK526.out 0; have hfz50_1 := blk_frozen BK526.out 1; obtain ⟨Ao51, co51, eo51⟩ := Kd.R_slice HO_10.out; subst eo51; obtain ⟨Ao52, co52, eo52⟩ := Kd.R_slice HO_12.out; subst eo52) | ((with_reducible refine gate_callee (f := 25) rfl ?_); refine goesL_ (some 95) rfl rfl Tryd.func25 (by kernel_rfl) rfl #[.slice Ao51 x10_2.length co51, .slice Ao52 x12_3.length co52] rfl (as_) ?_; (with_reducible refine (turn_Deviation.calls k3 _ _ x10_2 _ _ x12_3 t527 t528 t529 _ ?side1 ?side2 ?side3 ?side4 A33.out).mono ?_); (case side1 => refine (Kd.R_reads' (e := 3) (base := w.heap.size) (ok := fun k_ => some k_ ≠ (.slice Ao52 x12_3.length co52 : Value).ownBlock) (n := x10_2.length) (c := co51) ?_).2.2; exact (by (with_reducible repeat (first | apply Kd.R_alloc | apply Kd.R_drewN | apply Kd.R_drew)); exact (Kd.R_mono (Kd.R_far (p := ⟨gb526, 1, none⟩) (Kd.R_far (p := ⟨gb526, 0, none⟩) (Kd.R_types HO_10.out BK526.out (by decide)) (fun _ hk => hk.2) (.int .i64 t523)) (fun _ hk => hk.2) (.int .i64 t524)) (fun _ h_ => h_.1)))); (case side2 => exact (Kd.R_reads' HO_10.out).2.1); (case side3 => refine (Kd.R_reads' (e := 3) (base := w.heap.size) (ok := fun k_ => some k_ ≠ (.slice Ao51 x10_2.length co51 : Value).ownBlock) (n := x12_3.length) (c := co52) ?_).2.2; exact (by (with_reducible repeat (first | apply Kd.R_alloc | apply Kd.R_drewN | apply Kd.R_drew)); exact (Kd.R_mono (Kd.R_far (p := ⟨gb526, 1, none⟩) (Kd.R_far (p := ⟨gb526, 0, none⟩) (Kd.R_types HO_12.out BK526.out (by decide)) (fun _ hk => hk.2) (.int .i64 t523)) (fun _ hk => hk.2) (.int .i64 t524)) (fun _ h_ => h_.1)))); (case side4 => exact (Kd.R_reads' HO_12.out).2.1); rintro e w53 ⟨rfl, hb⟩; refine ⟨_, rfl, ?_⟩; have n0_ := Aside0.mk (Kd.R_below (by (with_reducible repeat (first | apply Kd.R_alloc | apply Kd.R_drewN | apply Kd.R_drew)); exact (Kd.R_mono (Kd.R_far (p := ⟨gb526, 1, none⟩) (Kd.R_far (p := ⟨gb526, 0, none⟩) (Kd.R_types HO_10.out BK526.out (by decide)) (fun _ hk => hk.2) (.int .i64 t523)) (fun _ hk => hk.2) (.int .i64 t524)) (fun _ h_ => h_.1))) hb); have n1_ := Aside0.mk (Kd.R_below (by (with_reducible repeat (first | apply Kd.R_alloc | apply Kd.R_drewN | apply Kd.R_drew)); exact (Kd.R_mono (Kd.R_far (p := ⟨gb526, 1, none⟩) (Kd.R_far (p := ⟨gb526, 0, none⟩) (Kd.R_types HO_12.out BK526.out (by decide)) (fun _ hk => hk.2) (.int .i64 t523)) (fun _ hk => hk.2) (.int .i64 t524)) (fun _ h_ => h_.1))) hb); have n2_ := Aside0.mk (blk_below (g := gb526) (o := .cells #[.int .i64 t523, .int .i64 t524] 26 (0, 0)) (by (with_reducible repeat (first | refine blk_drewN ?_ _ | refine blk_drew ?_ | refine blk_alloc ?_ _)); refine blk_put (cs := #[.int .i64 t523, .int .i64 0]) ?_ 1 _ rfl; (with_reducible repeat (first | refine blk_drewN ?_ _ | refine blk_drew ?_ | refine blk_alloc ?_ _)); refine blk_put (cs := #[.int .i64 0, .int .i64 0]) ?_ 0 _ rfl; (with_reducible repeat (first | refine blk_drewN ?_ _ | refine blk_drew ?_ | refine blk_alloc ?_ _)); exact BK526.out) hb); have n3_ := Aside0.mk (below_step (bl_) hb); clear HO_10; clear HO_12; clear BK526; clear HB; have HO_10 := n0_; have HO_12 := n1_; have BK526 := n2_; have HB := n3_; clear n0_ n1_ n2_ n3_; (try clear hb); (try clear hb2); (try clear hk); (try clear hi)) | ((with_reducible refine gate_dst (N := 16) rfl ?_); (try (refine gate_guard (by rfl) ?_; dsimp only)); refine box_event ?hg (N := 16) ?hd (cs := #[.int .i64 0, .int .i64 0]) (t := 26) ?hr ?_; (case hd => rfl); (case hg => rfl); (case hr => first | (go_simp; done) | (go_simp; rfl)); intro gb530 hg w54 hbox hb; have n0_ := Aside0.mk (Kd.R_below (kr_ HO_10.out) hb); have n1_ := Aside0.mk (Kd.R_below (kr_ HO_12.out) hb); have n2_ := Aside0.mk (blk_below (g := gb526) (o := .cells #[.int .i64 t523, .int .i64 t524] 26 (0, 0)) (bk_ BK526.out) hb); have n3_ := Aside0.mk (below_step (bl_) hb); have n4_ := Aside0.mk (hbox); have n5_ := Aside0.mk ((by rw [hg]; exact (below_size (bl_)) : w.heap.size ≤ gb530)); have n6_ := Aside0.mk ((by rw [hg]; exact (below_size (bl_)) : w.heap.size ≤ gb530)); have n7_ := Aside0.mk ((by rw [hg]; exact Nat.ne_of_lt (blk_lt (g := gb526) (o := .cells #[.int .i64 t523, .int .i64 t524] 26 (0, 0)) (bk_ BK526.out)) : gb526 ≠ gb530)); have n8_ := Aside0.mk ((by rw [hg]; exact Nat.ne_of_gt (blk_lt (g := gb526) (o := .cells #[.int .i64 t523, .int .i64 t524] 26 (0, 0)) (bk_ BK526.out)) : gb530 ≠ gb526)); clear HO_10; clear HO_12; clear BK526; clear HB; have HO_10 := n0_; have HO_12 := n1_; have BK526 := n2_; have HB := n3_; have BK530 := n4_; have GW530 := n5_; have GE530 := n6_; have NB526_530 := n7_; have NB530_526 := n8_; clear n0_ n1_ n2_ n3_ n4_ n5_ n6_ n7_ n8_; clear hb hbox hg; have hnb55 := NB530_526.out; have hnc55 := NB526_530.out; have hcz56_0 : w54.cell? ⟨gb530, 0, none⟩ = some (.int .i64 0) := (blk_cell BK530.out 0).trans rfl; have hcz56_1 : w54.cell? ⟨gb530, 1, none⟩ = some (.int .i64 0) := (blk_cell BK530.out 1).trans rfl; have hfz56_0 := blk_frozen BK530.out 0; have hfz56_1 := blk_frozen BK530.out 1) | ((with_reducible refine gate_callee (f := 29) rfl ?_); refine goesL_ (some 101) rfl rfl Tryd.func29 (by kernel_rfl) rfl #[.slice A0 l0.length c0, .slice A1 l1.length c1] rfl (as_) ?_; (with_reducible refine (turn_Quota.calls k3 _ _ l0 _ _ l1 t531 t532 _ ?side1 ?side2 ?side3 ?side4 A34.out).mono ?_); (case side1 => exact Kd.C_below HR0.out (bl_)); (case side2 => exact HC0.out); (case side3 => exact Kd.C_below HR1.out (bl_)); (case side4 => exact HC1.out); rintro e w57 ⟨rfl, hb⟩; refine ⟨_, rfl, ?_⟩; have n0_ := Aside0.mk (Kd.R_below (by (with_reducible repeat (first | apply Kd.R_alloc | apply Kd.R_drewN | apply Kd.R_drew)); exact (Kd.R_mono (Kd.R_far (p := ⟨gb530, 1, none⟩) (Kd.R_far (p := ⟨gb530, 0, none⟩) (Kd.R_types HO_10.out BK530.out (by decide)) (fun _ hk => hk.2) (.int .i64 t527)) (fun _ hk => hk.2) (.int .i64 t528)) (fun _ h_ => h_.1))) hb); have n1_ := Aside0.mk (Kd.R_below (by (with_reducible repeat (first | apply Kd.R_alloc | apply Kd.R_drewN | apply Kd.R_drew)); exact (Kd.R_mono (Kd.R_far (p := ⟨gb530, 1, none⟩) (Kd.R_far (p := ⟨gb530, 0, none⟩) (Kd.R_types HO_12.out BK530.out (by decide)) (fun _ hk => hk.2) (.int .i64 t527)) (fun _ hk => hk.2) (.int .i64 t528)) (fun _ h_ => h_.1))) hb); have n2_ := Aside0.mk (blk_below (g := gb526) (o := .cells #[.int .i64 t523, .int .i64 t524] 26 (0, 0)) (by (with_reducible repeat (first | refine blk_drewN ?_ _ | refine blk_drew ?_ | refine blk_alloc ?_ _)); refine blk_far ?_ NB526_530.out _; (with_reducible repeat (first | refine blk_drewN ?_ _ | refine blk_drew ?_ | refine blk_alloc ?_ _)); refine blk_far ?_ NB526_530.out _; (with_reducible repeat (first | refine blk_drewN ?_ _ | refine blk_drew ?_ | refine blk_alloc ?_ _)); exact BK526.out) hb); have n3_ := Aside0.mk (blk_below (g := gb530) (o := .cells #[.int .i64 t527, .int .i64 t528] 26 (0, 0)) (by (with_reducible repeat (first | refine blk_drewN ?_ _ | refine blk_drew ?_ | refine blk_alloc ?_ _)); refine blk_put (cs := #[.int .i64 t527, .int .i64 0]) ?_ 1 _ rfl; (with_reducible repeat (first | refine blk_drewN ?_ _ | refine blk_drew ?_ | refine blk_alloc ?_ _)); refine blk_put (cs := #[.int .i64 0, .int .i64 0]) ?_ 0 _ rfl; (with_reducible repeat (first | refine blk_drewN ?_ _ | refine blk_drew ?_ | refine blk_alloc ?_ _)); exact BK530.out) hb); have n4_ := Aside0.mk (below_step (bl_) hb); clear HO_10; clear HO_12; clear BK526; clear BK530; clear HB; have HO_10 := n0_; have HO_12 := n1_; have BK526 := n2_; have BK530 := n3_; have HB := n4_; clear n0_ n1_ n2_ n3_ n4_; (try clear hb); (try clear hb2); (try clear hk); (try clear hi)) | ((with_reducible refine gate_callee (f := 29) rfl ?_); refine goesL_ (some 107) rfl rfl Tryd.func29 (by kernel_rfl) rfl #[.slice Ao51 x10_2.length co51, .slice Ao52 x12_3.length co52] rfl (as_) ?_; (with_reducible refine (turn_Quota.calls k3 _ _ x10_2 _ _ x12_3 t533 t534 _ ?side1 ?side2 ?side3 ?side4 A35.out).mono ?_); (case side1 => repeat (first | exact (Kd.R_reads' HO_10.out).2.2 | (with_reducible refine Kd.C_alloc ?_ _) | (with_reducible refine Kd.C_drewN ?_ _) | (with_reducible refine Kd.C_drew ?_))); (case side2 => exact (Kd.R_reads' HO_10.out).2.1); (case side3 => repeat (first | exact (Kd.R_reads' HO_12.out).2.2 | (with_reducible refine Kd.C_alloc ?_ _) | (with_reducible refine Kd.C_drewN ?_ _) | (with_reducible refine Kd.C_drew ?_))); (case side4 => exact (Kd.R_reads' HO_12.out).2.1); rintro e w58 ⟨rfl, hb⟩; refine ⟨_, rfl, ?_⟩; have n0_ := Aside0.mk (Kd.R_below (kr_ HO_10.out) hb); have n1_ := Aside0.mk (Kd.R_below (kr_ HO_12.out) hb); have n2_ := Aside0.mk (blk_below (g := gb526) (o := .cells #[.int .i64 t523, .int .i64 t524] 26 (0, 0)) (bk_ BK526.out) hb); have n3_ := Aside0.mk (blk_below (g := gb530) (o := .cells #[.int .i64 t527, .int .i64 t528] 26 (0, 0)) (bk_ BK530.out) hb); have n4_ := Aside0.mk (below_step (bl_) hb); clear HO_10; clear HO_12; clear BK526; clear BK530; clear HB; have HO_10 := n0_; have HO_12 := n1_; have BK526 := n2_; have BK530 := n3_; have HB := n4_; clear n0_ n1_ n2_ n3_ n4_; (try clear hb); (try clear hb2); (try clear hk); (try clear hi)) | ((with_reducible refine gate_callee (f := 18) rfl ?_); refine goesL_ (some 112) rfl rfl Tryd.func18 (by kernel_rfl) rfl #[.slice A0 l0.length c0] rfl (as_) ?_; (with_reducible refine (turn_Least.calls k3 _ _ l0 t535 t536 t537 _ ?side1 ?side2 A36.out (HN.out.of (bl_))).mono ?_); (case side1 => repeat (first | exact (Kd.C_below HR0.out HB.out) | (with_reducible refine Kd.C_alloc ?_ _) | (with_reducible refine Kd.C_drewN ?_ _) | (with_reducible refine Kd.C_drew ?_))); (case side2 => exact HC0.out); rintro e w59 ⟨rfl, hb⟩; refine ⟨_, rfl, ?_⟩; have n0_ := Aside0.mk (Kd.R_below (kr_ HO_10.out) hb); have n1_ := Aside0.mk (Kd.R_below (kr_ HO_12.out) hb); have n2_ := Aside0.mk (blk_below (g := gb526) (o := .cells #[.int .i64 t523, .int .i64 t524] 26 (0, 0)) (bk_ BK526.out) hb); have n3_ := Aside0.mk (blk_below (g := gb530) (o := .cells #[.int .i64 t527, .int .i64 t528] 26 (0, 0)) (bk_ BK530.out) hb); have n4_ := Aside0.mk (below_step (bl_) hb); clear HO_10; clear HO_12; clear BK526; clear BK530; clear HB; have HO_10 := n0_; have HO_12 := n1_; have BK526 := n2_; have BK530 := n3_; have HB := n4_; clear n0_ n1_ n2_ n3_ n4_; (try clear hb); (try clear hb2); (try clear hk); (try clear hi)) | ((with_reducible refine gate_dst (N := 22) rfl ?_); (try (refine gate_guard (by rfl) ?_; dsimp only)); refine box_event ?hg (N := 22) ?hd (cs := #[.int .i64 0, .int .i64 0]) (t := 26) ?hr ?_; (case hd => rfl); (case hg => rfl); (case hr => first | (go_simp; done) | (go_simp; rfl)); intro gb538 hg w60 hbox hb; have n0_ := Aside0.mk (Kd.R_below (kr_ HO_10.out) hb); have n1_ := Aside0.mk (Kd.R_below (kr_ HO_12.out) hb); have n2_ := Aside0.mk (blk_below (g := gb526) (o := .cells #[.int .i64 t523, .int .i64 t524] 26 (0, 0)) (bk_ BK526.out) hb); have n3_ := Aside0.mk (blk_below (g := gb530) (o := .cells #[.int .i64 t527, .int .i64 t528] 26 (0, 0)) (bk_ BK530.out) hb); have n4_ := Aside0.mk (below_step (bl_) hb); have n5_ := Aside0.mk (hbox); have n6_ := Aside0.mk ((by rw [hg]; exact (below_size (bl_)) : w.heap.size ≤ gb538)); have n7_ := Aside0.mk ((by rw [hg]; exact (below_size (bl_)) : w.heap.size ≤ gb538)); have n8_ := Aside0.mk ((by rw [hg]; exact Nat.ne_of_lt (blk_lt (g := gb526) (o := .cells #[.int .i64 t523, .int .i64 t524] 26 (0, 0)) (bk_ BK526.out)) : gb526 ≠ gb538)); have n9_ := Aside0.mk ((by rw [hg]; exact Nat.ne_of_gt (blk_lt (g := gb526) (o := .cells #[.int .i64 t523, .int .i64 t524] 26 (0, 0)) (bk_ BK526.out)) : gb538 ≠ gb526)); have n10_ := Aside0.mk ((by rw [hg]; exact Nat.ne_of_lt (blk_lt (g := gb530) (o := .cells #[.int .i64 t527, .int .i64 t528] 26 (0, 0)) (bk_ BK530.out)) : gb530 ≠ gb538)); have n11_ := Aside0.mk ((by rw [hg]; exact Nat.ne_of_gt (blk_lt (g := gb530) (o := .cells #[.int .i64 t527, .int .i64 t528] 26 (0, 0)) (bk_ BK530.out)) : gb538 ≠ gb530)); clear HO_10; clear HO_12; clear BK526; clear BK530; clear HB; have HO_10 := n0_; have HO_12 := n1_; have BK526 := n2_; have BK530 := n3_; have HB := n4_; have BK538 := n5_; have GW538 := n6_; have GE538 := n7_; have NB526_538 := n8_; have NB538_526 := n9_; have NB530_538 := n10_; have NB538_530 := n11_; clear n0_ n1_ n2_ n3_ n4_ n5_ n6_ n7_ n8_ n9_ n10_ n11_; clear hb hbox hg; have hnb61 := NB538_526.out; have hnc61 := NB526_538.out; have hnb62 := NB538_530.out; have hnc62 := NB530_538.out; have hcz63_0 : w60.cell? ⟨gb538, 0, none⟩ = some (.int .i64 0) := (blk_cell BK538.out 0).trans rfl; have hcz63_1 : w60.cell? ⟨gb538, 1, none⟩ = some (.int .i64 0) := (blk_cell BK538.out 1).trans rfl; have hfz63_0 := blk_frozen BK538.out 0; have hfz63_1 := blk_frozen BK538.out 1) | ((with_reducible refine gate_callee (f := 18) rfl ?_); refine goesL_ (some 117) rfl rfl Tryd.func18 (by kernel_rfl) rfl #[.slice Ao51 x10_2.length co51] rfl (as_) ?_; (with_reducible refine (turn_Least.calls k3 _ _ x10_2 t539 t540 t541 _ ?side1 ?side2 A37.out (HN.out.of (bl_))).mono ?_); (case side1 => refine (Kd.R_reads' (e := 3) (base := w.heap.size) (ok := fun k_ => some k_ ≠ (.slice Ao52 x12_3.length co52 : Value).ownBlock) (n := x10_2.length) (c := co51) ?_).2.2; exact (by (with_reducible repeat (first | apply Kd.R_alloc | apply Kd.R_drewN | apply Kd.R_drew)); exact (Kd.R_mono (Kd.R_far (p := ⟨gb538, 1, none⟩) (Kd.R_far (p := ⟨gb538, 0, none⟩) (Kd.R_types HO_10.out BK538.out (by decide)) (fun _ hk => hk.2) (.int .i64 t535)) (fun _ hk => hk.2) (.int .i64 t536)) (fun _ h_ => h_.1)))); (case side2 => exact (Kd.R_reads' HO_10.out).2.1); rintro e w64 ⟨rfl, hb⟩; refine ⟨_, rfl, ?_⟩; have n0_ := Aside0.mk (Kd.R_below (by (with_reducible repeat (first | apply Kd.R_alloc | apply Kd.R_drewN | apply Kd.R_drew)); exact (Kd.R_mono (Kd.R_far (p := ⟨gb538, 1, none⟩) (Kd.R_far (p := ⟨gb538, 0, none⟩) (Kd.R_types HO_10.out BK538.out (by decide)) (fun _ hk => hk.2) (.int .i64 t535)) (fun _ hk => hk.2) (.int .i64 t536)) (fun _ h_ => h_.1))) hb); have n1_ := Aside0.mk (Kd.R_below (by (with_reducible repeat (first | apply Kd.R_alloc | apply Kd.R_drewN | apply Kd.R_drew)); exact (Kd.R_mono (Kd.R_far (p := ⟨gb538, 1, none⟩) (Kd.R_far (p := ⟨gb538, 0, none⟩) (Kd.R_types HO_12.out BK538.out (by decide)) (fun _ hk => hk.2) (.int .i64 t535)) (fun _ hk => hk.2) (.int .i64 t536)) (fun _ h_ => h_.1))) hb); have n2_ := Aside0.mk (blk_below (g := gb526) (o := .cells #[.int .i64 t523, .int .i64 t524] 26 (0, 0)) (by (with_reducible repeat (first | refine blk_drewN ?_ _ | refine blk_drew ?_ | refine blk_alloc ?_ _)); refine blk_far ?_ NB526_538.out _; (with_reducible repeat (first | refine blk_drewN ?_ _ | refine blk_drew ?_ | refine blk_alloc ?_ _)); refine blk_far ?_ NB526_538.out _; (with_reducible repeat (first | refine blk_drewN ?_ _ | refine blk_drew ?_ | refine blk_alloc ?_ _)); exact BK526.out) hb); have n3_ := Aside0.mk (blk_below (g := gb530) (o := .cells #[.int .i64 t527, .int .i64 t528] 26 (0, 0)) (by (with_reducible repeat (first | refine blk_drewN ?_ _ | refine blk_drew ?_ | refine blk_alloc ?_ _)); refine blk_far ?_ NB530_538.out _; (with_reducible repeat (first | refine blk_drewN ?_ _ | refine blk_drew ?_ | refine blk_alloc ?_ _)); refine blk_far ?_ NB530_538.out _; (with_reducible repeat (first | refine blk_drewN ?_ _ | refine blk_drew ?_ | refine blk_alloc ?_ _)); exact BK530.out) hb); have n4_ := Aside0.mk (blk_below (g := gb538) (o := .cells #[.int .i64 t535, .int .i64 t536] 26 (0, 0)) (by (with_reducible repeat (first | refine blk_drewN ?_ _ | refine blk_drew ?_ | refine blk_alloc ?_ _)); refine blk_put (cs := #[.int .i64 t535, .int .i64 0]) ?_ 1 _ rfl; (with_reducible repeat (first | refine blk_drewN ?_ _ | refine blk_drew ?_ | refine blk_alloc ?_ _)); refine blk_put (cs := #[.int .i64 0, .int .i64 0]) ?_ 0 _ rfl; (with_reducible repeat (first | refine blk_drewN ?_ _ | refine blk_drew ?_ | refine blk_alloc ?_ _)); exact BK538.out) hb); have n5_ := Aside0.mk (below_step (bl_) hb); clear HO_10; clear HO_12; clear BK526; clear BK530; clear BK538; clear HB; have HO_10 := n0_; have HO_12 := n1_; have BK526 := n2_; have BK530 := n3_; have BK538 := n4_; have HB := n5_; clear n0_ n1_ n2_ n3_ n4_ n5_; (try clear hb); (try clear hb2); (try clear hk); (try clear hi)) | ((with_reducible refine gate_dst (N := 24) rfl ?_); (try (refine gate_guard (by rfl) ?_; dsimp only)); refine box_event ?hg (N := 24) ?hd (cs := #[.int .i64 0, .int .i64 0]) (t := 26) ?hr ?_; (case hd => rfl); (case hg => rfl); (case hr => first | (go_simp; done) | (go_simp; rfl)); intro gb542 hg w65 hbox hb; have n0_ := Aside0.mk (Kd.R_below (kr_ HO_10.out) hb); have n1_ := Aside0.mk (Kd.R_below (kr_ HO_12.out) hb); have n2_ := Aside0.mk (blk_below (g := gb526) (o := .cells #[.int .i64 t523, .int .i64 t524] 26 (0, 0)) (bk_ BK526.out) hb); have n3_ := Aside0.mk (blk_below (g := gb530) (o := .cells #[.int .i64 t527, .int .i64 t528] 26 (0, 0)) (bk_ BK530.out) hb); have n4_ := Aside0.mk (blk_below (g := gb538) (o := .cells #[.int .i64 t535, .int .i64 t536] 26 (0, 0)) (bk_ BK538.out) hb); have n5_ := Aside0.mk (below_step (bl_) hb); have n6_ := Aside0.mk (hbox); have n7_ := Aside0.mk ((by rw [hg]; exact (below_size (bl_)) : w.heap.size ≤ gb542)); have n8_ := Aside0.mk ((by rw [hg]; exact (below_size (bl_)) : w.heap.size ≤ gb542)); have n9_ := Aside0.mk ((by rw [hg]; exact Nat.ne_of_lt (blk_lt (g := gb526) (o := .cells #[.int .i64 t523, .int .i64 t524] 26 (0, 0)) (bk_ BK526.out)) : gb526 ≠ gb542)); have n10_ := Aside0.mk ((by rw [hg]; exact Nat.ne_of_gt (blk_lt (g := gb526) (o := .cells #[.int .i64 t523, .int .i64 t524] 26 (0, 0)) (bk_ BK526.out)) : gb542 ≠ gb526)); have n11_ := Aside0.mk ((by rw [hg]; exact Nat.ne_of_lt (blk_lt (g := gb530) (o := .cells #[.int .i64 t527, .int .i64 t528] 26 (0, 0)) (bk_ BK530.out)) : gb530 ≠ gb542)); have n12_ := Aside0.mk ((by rw [hg]; exact Nat.ne_of_gt (blk_lt (g := gb530) (o := .cells #[.int .i64 t527, .int .i64 t528] 26 (0, 0)) (bk_ BK530.out)) : gb542 ≠ gb530)); have n13_ := Aside0.mk ((by rw [hg]; exact Nat.ne_of_lt (blk_lt (g := gb538) (o := .cells #[.int .i64 t535, .int .i64 t536] 26 (0, 0)) (bk_ BK538.out)) : gb538 ≠ gb542)); have n14_ := Aside0.mk ((by rw [hg]; exact Nat.ne_of_gt (blk_lt (g := gb538) (o := .cells #[.int .i64 t535, .int .i64 t536] 26 (0, 0)) (bk_ BK538.out)) : gb542 ≠ gb538)); clear HO_10; clear HO_12; clear BK526; clear BK530; clear BK538; clear HB; have HO_10 := n0_; have HO_12 := n1_; have BK526 := n2_; have BK530 := n3_; have BK538 := n4_; have HB := n5_; have BK542 := n6_; have GW542 := n7_; have GE542 := n8_; have NB526_542 := n9_; have NB542_526 := n10_; have NB530_542 := n11_; have NB542_530 := n12_; have NB538_542 := n13_; have NB542_538 := n14_; clear n0_ n1_ n2_ n3_ n4_ n5_ n6_ n7_ n8_ n9_ n10_ n11_ n12_ n13_ n14_; clear hb hbox hg; have hnb66 := NB542_526.out; have hnc66 := NB526_542.out; have hnb67 := NB542_530.out; have hnc67 := NB530_542.out; have hnb68 := NB542_538.out; have hnc68 := NB538_542.out; have hcz69_0 : w65.cell? ⟨gb542, 0, none⟩ = some (.int .i64 0) := (blk_cell BK542.out 0).trans rfl; have hcz69_1 : w65.cell? ⟨gb542, 1, none⟩ = some (.int .i64 0) := (blk_cell BK542.out 1).trans rfl; have hfz69_0 := blk_frozen BK542.out 0; have hfz69_1 := blk_frozen BK542.out 1; have hcz70_0 : w65.cell? ⟨gb526, 0, none⟩ = some (.int .i64 t523) := (blk_cell BK526.out 0).trans rfl; have hcz70_1 : w65.cell? ⟨gb526, 1, none⟩ = some (.int .i64 t524) := (blk_cell BK526.out 1).trans rfl; have hfz70_0 := blk_frozen BK526.out 0; have hfz70_1 := blk_frozen BK526.out 1; have hcz71_0 : w65.cell? ⟨gb530, 0, none⟩ = some (.int .i64 t527) := (blk_cell BK530.out 0).trans rfl; have hcz71_1 : w65.cell? ⟨gb530, 1, none⟩ = some (.int .i64 t528) := (blk_cell BK530.out 1).trans rfl; have hfz71_0 := blk_frozen BK530.out 0; have hfz71_1 := blk_frozen BK530.out 1; have hcz72_0 : w65.cell? ⟨gb538, 0, none⟩ = some (.int .i64 t535) := (blk_cell BK538.out 0).trans rfl; have hcz72_1 : w65.cell? ⟨gb538, 1, none⟩ = some (.int .i64 t536) := (blk_cell BK538.out 1).trans rfl; have hfz72_0 := blk_frozen BK538.out 0; have hfz72_1 := blk_frozen BK538.out 1) | (go_at_call 17; (with_reducible refine (trishawlaw01_alive.calls k3  t543 _ A47.out (HN.out.of (bl_))).mono ?_); rintro e w73 ⟨rfl, hb⟩; have n0_ := Aside0.mk (Kd.R_below (by (with_reducible repeat (first | apply Kd.R_alloc | apply Kd.R_drewN | apply Kd.R_drew)); exact (Kd.R_mono (Kd.R_far (p := ⟨gb542, 1, none⟩) (Kd.R_far (p := ⟨gb542, 0, none⟩) (Kd.R_types HO_10.out BK542.out (by decide)) (fun _ hk => hk.2) (.int .i64 t539)) (fun _ hk => hk.2) (.int .i64 t540)) (fun _ h_ => h_.1))) hb); have n1_ := Aside0.mk (Kd.R_below (by (with_reducible repeat (first | apply Kd.R_alloc | apply Kd.R_drewN | apply Kd.R_drew)); exact (Kd.R_mono (Kd.R_far (p := ⟨gb542, 1, none⟩) (Kd.R_far (p := ⟨gb542, 0, none⟩) (Kd.R_types HO_12.out BK542.out (by decide)) (fun _ hk => hk.2) (.int .i64 t539)) (fun _ hk => hk.2) (.int .i64 t540)) (fun _ h_ => h_.1))) hb); have n2_ := Aside0.mk (blk_below (g := gb526) (o := .cells #[.int .i64 t523, .int .i64 t524] 26 (0, 0)) (by (with_reducible repeat (first | refine blk_drewN ?_ _ | refine blk_drew ?_ | refine blk_alloc ?_ _)); refine blk_far ?_ NB526_542.out _; (with_reducible repeat (first | refine blk_drewN ?_ _ | refine blk_drew ?_ | refine blk_alloc ?_ _)); refine blk_far ?_ NB526_542.out _; (with_reducible repeat (first | refine blk_drewN ?_ _ | refine blk_drew ?_ | refine blk_alloc ?_ _)); exact BK526.out) hb); have n3_ := Aside0.mk (blk_below (g := gb530) (o := .cells #[.int .i64 t527, .int .i64 t528] 26 (0, 0)) (by (with_reducible repeat (first | refine blk_drewN ?_ _ | refine blk_drew ?_ | refine blk_alloc ?_ _)); refine blk_far ?_ NB530_542.out _; (with_reducible repeat (first | refine blk_drewN ?_ _ | refine blk_drew ?_ | refine blk_alloc ?_ _)); refine blk_far ?_ NB530_542.out _; (with_reducible repeat (first | refine blk_drewN ?_ _ | refine blk_drew ?_ | refine blk_alloc ?_ _)); exact BK530.out) hb); have n4_ := Aside0.mk (blk_below (g := gb538) (o := .cells #[.int .i64 t535, .int .i64 t536] 26 (0, 0)) (by (with_reducible repeat (first | refine blk_drewN ?_ _ | refine blk_drew ?_ | refine blk_alloc ?_ _)); refine blk_far ?_ NB538_542.out _; (with_reducible repeat (first | refine blk_drewN ?_ _ | refine blk_drew ?_ | refine blk_alloc ?_ _)); refine blk_far ?_ NB538_542.out _; (with_reducible repeat (first | refine blk_drewN ?_ _ | refine blk_drew ?_ | refine blk_alloc ?_ _)); exact BK538.out) hb); have n5_ := Aside0.mk (blk_below (g := gb542) (o := .cells #[.int .i64 t539, .int .i64 t540] 26 (0, 0)) (by (with_reducible repeat (first | refine blk_drewN ?_ _ | refine blk_drew ?_ | refine blk_alloc ?_ _)); refine blk_put (cs := #[.int .i64 t539, .int .i64 0]) ?_ 1 _ rfl; (with_reducible repeat (first | refine blk_drewN ?_ _ | refine blk_drew ?_ | refine blk_alloc ?_ _)); refine blk_put (cs := #[.int .i64 0, .int .i64 0]) ?_ 0 _ rfl; (with_reducible repeat (first | refine blk_drewN ?_ _ | refine blk_drew ?_ | refine blk_alloc ?_ _)); exact BK542.out) hb); have n6_ := Aside0.mk (below_step (bl_) hb); clear HO_10; clear HO_12; clear BK526; clear BK530; clear BK538; clear BK542; clear HB; have HO_10 := n0_; have HO_12 := n1_; have BK526 := n2_; have BK530 := n3_; have BK538 := n4_; have BK542 := n5_; have HB := n6_; clear n0_ n1_ n2_ n3_ n4_ n5_ n6_; (try clear hb); (try clear hb2); (try clear hk); (try clear hi)))
                   go_ret
                   exact ⟨by first | rfl | (simp [errW_none, errW_some] <;> rfl) | (simp [*, errW_none, errW_some] <;> rfl), bl_⟩
                  ·rw [if_neg c46] at H
                   have c46b0 : (t535 == t539 && (t536 == t540)) = false := by simpa using c46
                   (try (have c46b1 : decide (t535 = t539 && (t536 == t540)) = false := by simpa using c46))
                   (try (have c46b2 : (t535 == t539 && (t536 == t540)) = false := by simpa using c46))
                   (try (have c46b3 : ¬ (t535 = t539 && (t536 == t540)) := by simpa using c46))
                   clear c46
                   exact absurd (Option.some.inj (H.trans (congrArg some hr.out))) (by decide)
                 ·rw [if_neg c45] at H
                  have c45b0 : (t531 == t533) = false := by simpa using c45
                  (try (have c45b1 : decide (t531 = t533) = false := by simpa using c45))
                  (try (have c45b2 : (t531 == t533) = false := by simpa using c45))
                  (try (have c45b3 : ¬ (t531 = t533) := by simpa using c45))
                  clear c45
                  exact absurd (Option.some.inj (H.trans (congrArg some hr.out))) (by decide)
                ·rw [if_neg c44] at H
                 have c44b0 : (t523 == t527 && (t524 == t528)) = false := by simpa using c44
                 (try (have c44b1 : decide (t523 = t527 && (t524 == t528)) = false := by simpa using c44))
                 (try (have c44b2 : (t523 == t527 && (t524 == t528)) = false := by simpa using c44))
                 (try (have c44b3 : ¬ (t523 = t527 && (t524 == t528)) := by simpa using c44))
                 clear c44
                 exact absurd (Option.some.inj (H.trans (congrArg some hr.out))) (by decide)
               ·rw [if_neg c43] at H
                have c43b0 : (t541 == 0) = false := beq_eq_false_iff_ne.mpr c43
                have c43b1 : (t541 != 0) = true := bne_iff_ne.mpr c43
                exact absurd (Option.some.inj (H.trans (congrArg some hr.out))) (by decide)
              ·rw [if_neg c42] at H
               have c42b0 : (t537 == 0) = false := beq_eq_false_iff_ne.mpr c42
               have c42b1 : (t537 != 0) = true := bne_iff_ne.mpr c42
               exact absurd (Option.some.inj (H.trans (congrArg some hr.out))) (by decide)
             ·rw [if_neg c41] at H
              have c41b0 : (t534 == 0) = false := beq_eq_false_iff_ne.mpr c41
              have c41b1 : (t534 != 0) = true := bne_iff_ne.mpr c41
              exact absurd (Option.some.inj (H.trans (congrArg some hr.out))) (by decide)
            ·rw [if_neg c40] at H
             have c40b0 : (t532 == 0) = false := beq_eq_false_iff_ne.mpr c40
             have c40b1 : (t532 != 0) = true := bne_iff_ne.mpr c40
             exact absurd (Option.some.inj (H.trans (congrArg some hr.out))) (by decide)
           ·rw [if_neg c39] at H
            have c39b0 : (t529 == 0) = false := beq_eq_false_iff_ne.mpr c39
            have c39b1 : (t529 != 0) = true := bne_iff_ne.mpr c39
            exact absurd (Option.some.inj (H.trans (congrArg some hr.out))) (by decide)
          ·rw [if_neg c38] at H
           have c38b0 : (t525 == 0) = false := beq_eq_false_iff_ne.mpr c38
           have c38b1 : (t525 != 0) = true := bne_iff_ne.mpr c38
           exact absurd (Option.some.inj (H.trans (congrArg some hr.out))) (by decide)

/-- THE ONE PURE STATEMENT of trishawlaw01_TurnRenumbered: yours. -/
def trishawlaw01_TurnRenumbered.Pure : Prop := ∀ (l0 : List Int) (l1 : List Int) (a2 : Int), l0.length ≤ maxLen → l0.length * 8 ≤ 140737488351232 → (∀ x ∈ l0, (Lit.int .i64 x).wf = true) → l1.length ≤ maxLen → l1.length * 8 ≤ 140737488351232 → (∀ x ∈ l1, (Lit.int .i64 x).wf = true) → (Lit.int .u8 a2).wf = true → ∃ k, trishawlaw01_TurnRenumbered.f k l0 l1 a2 = some true
theorem trishawlaw01_TurnRenumbered.walk (P : trishawlaw01_TurnRenumbered.Pure) (a0 : Option Addr) (len0 cap0 : Nat) (z0 : List Int) (a1 : Option Addr) (len1 cap1 : Nat) (z1 : List Int) (a2 : Int) (w : World) (w0 : (a0 = none ∧ len0 = 0 ∧ cap0 = 0 ∧ z0 = []) ∨ ∃ x, a0 = some x ∧ len0 ≤ cap0 ∧ cap0 ≤ maxLen ∧ z0.length = cap0 ∧ (∀ i, i < z0.length → w.cell? (x.add i) = some (.int .i64 (z0.getD i 0))) ∧ ∀ n ∈ z0, (Lit.int .i64 n).wf = true) (y0 : len0 * 8 ≤ 140737488351232) (w1 : (a1 = none ∧ len1 = 0 ∧ cap1 = 0 ∧ z1 = []) ∨ ∃ x, a1 = some x ∧ len1 ≤ cap1 ∧ cap1 ≤ maxLen ∧ z1.length = cap1 ∧ (∀ i, i < z1.length → w.cell? (x.add i) = some (.int .i64 (z1.getD i 0))) ∧ ∀ n ∈ z1, (Lit.int .i64 n).wf = true) (y1 : len1 * 8 ≤ 140737488351232) (w2 : (Lit.int .u8 a2).wf = true) (hN0 : NoneLaid w) :
    Calls Tryd.prog 7 #[.slice a0 len0 cap0, .slice a1 len1 cap1, .int .u8 a2] w fun e w' => e = .returned (.bool true) ∧ Below w.heap.size w w' := by
 obtain ⟨l0, rfl, hr0, hm0, hw0, hc0⟩ := ReadsInt.ofRowC w0
 obtain ⟨l1, rfl, hr1, hm1, hw1, hc1⟩ := ReadsInt.ofRowC w1
 obtain ⟨k, h⟩ := P l0 l1 a2 hm0 y0 hw0 hm1 y1 hw1 w2
 refine (trishawlaw01_TurnRenumbered.calls k _ _ l0 _ _ l1 a2 true w (Kd.C_of_reads (d := (0 : Int)) (h1 := fun _ => rfl) hr0) hc0 (Kd.C_of_reads (d := (0 : Int)) (h1 := fun _ => rfl) hr1) hc1 h hN0 rfl).mono ?_
 rintro e w' ⟨rfl, hd⟩
 exact ⟨rfl, hd⟩

end Go.Proofs.YtgobffgogmnmpaaDoor.P
