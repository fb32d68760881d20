-- Written by wip/tools/myprint.py of this session's repo, over the kit's printer and hand texts.
import Derived.Test.YtgobffgogmnmpaaDoorPx0
import Derived.Test.YtgobffgogmnmpaaDoorPre
import Derived.Test.YtgobffgogmnmpaaDoorPx4
import Derived.Test.YtgobffgogmnmpaaDoorPx8
import Derived.Test.YtgobffgogmnmpaaDoorPx9
import Derived.Test.YtgobffgogmnmpaaDoorPx10
import Derived.Test.YtgobffgogmnmpaaDoorPx23
namespace Go.Proofs.YtgobffgogmnmpaaDoor.P
open Go.RowKit Go.Proofs.YtgobffgogmnmpaaDoorW.PrintWords Go.Proofs.YtgobffgogmnmpaaDoorW.PrintLast Go.Proofs.YtgobffgogmnmpaaDoorW.PrintMore
attribute [local go_sem] max2_int min2_int max_two min_two max_three min_three max_four min_four   -- for this text's walks alone
set_option linter.unusedVariables false
set_option linter.unusedSimpArgs false

/-! ### trishawlaw01_TurnAround: function 9 -/
mutual
def trishawlaw01_TurnAround.j0 : Nat → List Int → Int → Int → Bool → Option (Bool)
  | 0, _, _, _, _ => none
  | k + 1, x0, x1, x5, x27 => if x27 = true then ((trishawlaw01_alive.f k).bind fun t621 => (some t621)) else ((turn_Fair.f k x0 400).bind fun bt622 => ((turn_Greedy.f k x0 400).bind fun bt626 => (if bt622.2 = 0 then (if bt626.2 = 0 then (if (bt622.1.length : Int) = 400 then (trishawlaw01_TurnAround.j1 k x0 x1 x5 bt622.1 bt626.1 ((bt626.1.length : Int) != 400)) else (trishawlaw01_TurnAround.j1 k x0 x1 x5 bt622.1 bt626.1 true)) else (trishawlaw01_TurnAround.j1 k x0 x1 x5 bt622.1 bt626.1 true)) else (trishawlaw01_TurnAround.j1 k x0 x1 x5 bt622.1 bt626.1 true))))
def trishawlaw01_TurnAround.j1 : Nat → List Int → Int → Int → List Int → List Int → Bool → Option (Bool)
  | 0, _, _, _, _, _, _ => none
  | k + 1, x0, x1, x5, x7, x9, x54 => if x54 = true then (some false) else ((turn_Fair.f k x0 (Int.tmod (wrap64 (x1)) 401)).bind fun bt630 => ((turn_Greedy.f k x0 (Int.tmod (wrap64 (x1)) 401)).bind fun bt634 => (if bt630.2 = 0 then (if bt634.2 = 0 then (if 0 ≤ (Int.tmod (wrap64 (x1)) 401) then (if (Int.tmod (wrap64 (x1)) 401) ≤ (x7.length : Int) then ((trishawlaw01_same.f k bt630.1 (x7.take ((Int.tmod (wrap64 (x1)) 401) : Int).toNat)).bind fun t642 => (if t642 = true then (if (Int.tmod (wrap64 (x1)) 401) ≤ (x9.length : Int) then ((trishawlaw01_same.f k bt634.1 (x9.take ((Int.tmod (wrap64 (x1)) 401) : Int).toNat)).bind fun t647 => (trishawlaw01_TurnAround.j2 k x0 x5 x7 (!t647))) else (none)) else (trishawlaw01_TurnAround.j2 k x0 x5 x7 true))) else (none)) else (none)) else (trishawlaw01_TurnAround.j2 k x0 x5 x7 true)) else (trishawlaw01_TurnAround.j2 k x0 x5 x7 true))))
def trishawlaw01_TurnAround.j2 : Nat → List Int → Int → List Int → Bool → Option (Bool)
  | 0, _, _, _, _ => none
  | k + 1, x0, x5, x7, x91 => if x91 = true then (some false) else (if 0 ≤ (x0.length : Int) then (if ((x0.length : Int) : Int).toNat ≤ 35184372088832 then (trishawlaw01_TurnAround.l0 k x0 x5 x7 (List.replicate ((x0.length : Int) : Int).toNat 0) 0) else (none)) else (none))
def trishawlaw01_TurnAround.l0 : Nat → List Int → Int → List Int → List Int → Int → Option (Bool)
  | 0, _, _, _, _, _ => none
  | k + 1, x0, x5, x7, x14, x15 => if x15 < (x7.length : Int) then (if 0 ≤ x15 then (if (rd x7 x15) < 0 then (trishawlaw01_TurnAround.j4 k x0 x5 x7 x14 x15 true) else (if (rd x7 x15) ≥ (x0.length : Int) then (trishawlaw01_TurnAround.j4 k x0 x5 x7 x14 x15 true) else (if x15 ≥ x5 then (if 0 ≤ (wrap64 (x15 - x5)) then (if (wrap64 (x15 - x5)) < (x7.length : Int) then (trishawlaw01_TurnAround.j4 k x0 x5 x7 x14 x15 ((rd x7 x15) != (rd x7 (wrap64 (x15 - x5))))) else (none)) else (none)) else (trishawlaw01_TurnAround.j4 k x0 x5 x7 x14 x15 false)))) else (none)) else ((trishawlaw01_same.f k x14 x0).bind fun t651 => (if t651 = true then ((trishawlaw01_alive.f k).bind fun t652 => (some t652)) else (some false)))
def trishawlaw01_TurnAround.j4 : Nat → List Int → Int → List Int → List Int → Int → Bool → Option (Bool)
  | 0, _, _, _, _, _, _ => none
  | k + 1, x0, x5, x7, x14, x15, x132 => if x132 = true then (some false) else (if x15 < x5 then (if 0 ≤ x15 then (if x15 < (x7.length : Int) then (if 0 ≤ (rd x7 x15) then (if (rd x7 x15) < (x14.length : Int) then (trishawlaw01_TurnAround.l0 k x0 x5 x7 (x14.set ((rd x7 x15) : Int).toNat (wrap64 ((rd x14 (rd x7 x15)) + 1))) (wrap64 (x15 + 1))) else (none)) else (none)) else (none)) else (none)) else (trishawlaw01_TurnAround.l0 k x0 x5 x7 x14 (wrap64 (x15 + 1))))
end
def trishawlaw01_TurnAround.f (k : Nat) (l0 : List Int) (a1 : Int) : Option (Bool) := (trishawref01_Shares.f k l0).bind fun bt619 => (if (l0.length : Int) > 30 then (trishawlaw01_TurnAround.j0 k l0 a1 bt619.1 true) else (trishawlaw01_TurnAround.j0 k l0 a1 bt619.1 (bt619.2 != 0)))
theorem trishawlaw01_TurnAround.mono_l : ∀ k, (∀ y0 y1 y2 y3, LeO (trishawlaw01_TurnAround.j0 k y0 y1 y2 y3) (trishawlaw01_TurnAround.j0 (k + 1) y0 y1 y2 y3)) ∧ (∀ y0 y1 y2 y3 y4 y5, LeO (trishawlaw01_TurnAround.j1 k y0 y1 y2 y3 y4 y5) (trishawlaw01_TurnAround.j1 (k + 1) y0 y1 y2 y3 y4 y5)) ∧ (∀ y0 y1 y2 y3, LeO (trishawlaw01_TurnAround.j2 k y0 y1 y2 y3) (trishawlaw01_TurnAround.j2 (k + 1) y0 y1 y2 y3)) ∧ (∀ y0 y1 y2 y3 y4, LeO (trishawlaw01_TurnAround.l0 k y0 y1 y2 y3 y4) (trishawlaw01_TurnAround.l0 (k + 1) y0 y1 y2 y3 y4)) ∧ (∀ y0 y1 y2 y3 y4 y5, LeO (trishawlaw01_TurnAround.j4 k y0 y1 y2 y3 y4 y5) (trishawlaw01_TurnAround.j4 (k + 1) y0 y1 y2 y3 y4 y5))
  | 0 => ⟨fun _ _ _ _ r h => by simp [trishawlaw01_TurnAround.j0] at h, fun _ _ _ _ _ _ r h => by simp [trishawlaw01_TurnAround.j1] at h, fun _ _ _ _ r h => by simp [trishawlaw01_TurnAround.j2] at h, fun _ _ _ _ _ r h => by simp [trishawlaw01_TurnAround.l0] at h, fun _ _ _ _ _ _ r h => by simp [trishawlaw01_TurnAround.j4] at h⟩
  | k + 1 => by
    obtain ⟨ih0, ih1, ih2, ih3, ih4⟩ := trishawlaw01_TurnAround.mono_l k
    refine ⟨?_, ?_, ?_, ?_, ?_⟩
    · intro y0 y1 y2 y3
      unfold trishawlaw01_TurnAround.j0
      repeat' first
      | (with_reducible exact ih0 _ _ _ _)
      | (with_reducible exact ih1 _ _ _ _ _ _)
      | (with_reducible exact ih2 _ _ _ _)
      | (with_reducible exact ih3 _ _ _ _ _)
      | (with_reducible exact ih4 _ _ _ _ _ _)
      | (with_reducible exact trishawlaw01_alive.mono _)
      | (with_reducible exact trishawlaw01_same.mono _ _ _)
      | (with_reducible exact trishawref01_Shares.mono _ _)
      | (with_reducible exact turn_Fair.mono _ _ _)
      | (with_reducible exact turn_Greedy.mono _ _ _)
      | (with_reducible exact LeO.refl _)
      | (with_reducible exact LeO.none _)
      | (with_reducible refine LeO.ite ?_ ?_)
      | (with_reducible refine LeO.bind ?_ (fun _ => ?_))
      | exact ih0 _ _ _ _
      | exact ih1 _ _ _ _ _ _
      | exact ih2 _ _ _ _
      | exact ih3 _ _ _ _ _
      | exact ih4 _ _ _ _ _ _
      | exact trishawlaw01_alive.mono _
      | exact trishawlaw01_same.mono _ _ _
      | exact trishawref01_Shares.mono _ _
      | exact turn_Fair.mono _ _ _
      | exact turn_Greedy.mono _ _ _
      | exact LeO.none _
      | refine LeO.ite ?_ ?_
      | refine LeO.bind ?_ (fun _ => ?_)
    · intro y0 y1 y2 y3 y4 y5
      unfold trishawlaw01_TurnAround.j1
      repeat' first
      | (with_reducible exact ih0 _ _ _ _)
      | (with_reducible exact ih1 _ _ _ _ _ _)
      | (with_reducible exact ih2 _ _ _ _)
      | (with_reducible exact ih3 _ _ _ _ _)
      | (with_reducible exact ih4 _ _ _ _ _ _)
      | (with_reducible exact trishawlaw01_alive.mono _)
      | (with_reducible exact trishawlaw01_same.mono _ _ _)
      | (with_reducible exact trishawref01_Shares.mono _ _)
      | (with_reducible exact turn_Fair.mono _ _ _)
      | (with_reducible exact turn_Greedy.mono _ _ _)
      | (with_reducible exact LeO.refl _)
      | (with_reducible exact LeO.none _)
      | (with_reducible refine LeO.ite ?_ ?_)
      | (with_reducible refine LeO.bind ?_ (fun _ => ?_))
      | exact ih0 _ _ _ _
      | exact ih1 _ _ _ _ _ _
      | exact ih2 _ _ _ _
      | exact ih3 _ _ _ _ _
      | exact ih4 _ _ _ _ _ _
      | exact trishawlaw01_alive.mono _
      | exact trishawlaw01_same.mono _ _ _
      | exact trishawref01_Shares.mono _ _
      | exact turn_Fair.mono _ _ _
      | exact turn_Greedy.mono _ _ _
      | exact LeO.none _
      | refine LeO.ite ?_ ?_
      | refine LeO.bind ?_ (fun _ => ?_)
    · intro y0 y1 y2 y3
      unfold trishawlaw01_TurnAround.j2
      repeat' first
      | (with_reducible exact ih0 _ _ _ _)
      | (with_reducible exact ih1 _ _ _ _ _ _)
      | (with_reducible exact ih2 _ _ _ _)
      | (with_reducible exact ih3 _ _ _ _ _)
      | (with_reducible exact ih4 _ _ _ _ _ _)
      | (with_reducible exact trishawlaw01_alive.mono _)
      | (with_reducible exact trishawlaw01_same.mono _ _ _)
      | (with_reducible exact trishawref01_Shares.mono _ _)
      | (with_reducible exact turn_Fair.mono _ _ _)
      | (with_reducible exact turn_Greedy.mono _ _ _)
      | (with_reducible exact LeO.refl _)
      | (with_reducible exact LeO.none _)
      | (with_reducible refine LeO.ite ?_ ?_)
      | (with_reducible refine LeO.bind ?_ (fun _ => ?_))
      | exact ih0 _ _ _ _
      | exact ih1 _ _ _ _ _ _
      | exact ih2 _ _ _ _
      | exact ih3 _ _ _ _ _
      | exact ih4 _ _ _ _ _ _
      | exact trishawlaw01_alive.mono _
      | exact trishawlaw01_same.mono _ _ _
      | exact trishawref01_Shares.mono _ _
      | exact turn_Fair.mono _ _ _
      | exact turn_Greedy.mono _ _ _
      | exact LeO.none _
      | refine LeO.ite ?_ ?_
      | refine LeO.bind ?_ (fun _ => ?_)
    · intro y0 y1 y2 y3 y4
      unfold trishawlaw01_TurnAround.l0
      repeat' first
      | (with_reducible exact ih0 _ _ _ _)
      | (with_reducible exact ih1 _ _ _ _ _ _)
      | (with_reducible exact ih2 _ _ _ _)
      | (with_reducible exact ih3 _ _ _ _ _)
      | (with_reducible exact ih4 _ _ _ _ _ _)
      | (with_reducible exact trishawlaw01_alive.mono _)
      | (with_reducible exact trishawlaw01_same.mono _ _ _)
      | (with_reducible exact trishawref01_Shares.mono _ _)
      | (with_reducible exact turn_Fair.mono _ _ _)
      | (with_reducible exact turn_Greedy.mono _ _ _)
      | (with_reducible exact LeO.refl _)
      | (with_reducible exact LeO.none _)
      | (with_reducible refine LeO.ite ?_ ?_)
      | (with_reducible refine LeO.bind ?_ (fun _ => ?_))
      | exact ih0 _ _ _ _
      | exact ih1 _ _ _ _ _ _
      | exact ih2 _ _ _ _
      | exact ih3 _ _ _ _ _
      | exact ih4 _ _ _ _ _ _
      | exact trishawlaw01_alive.mono _
      | exact trishawlaw01_same.mono _ _ _
      | exact trishawref01_Shares.mono _ _
      | exact turn_Fair.mono _ _ _
      | exact turn_Greedy.mono _ _ _
      | exact LeO.none _
      | refine LeO.ite ?_ ?_
      | refine LeO.bind ?_ (fun _ => ?_)
    · intro y0 y1 y2 y3 y4 y5
      unfold trishawlaw01_TurnAround.j4
      repeat' first
      | (with_reducible exact ih0 _ _ _ _)
      | (with_reducible exact ih1 _ _ _ _ _ _)
      | (with_reducible exact ih2 _ _ _ _)
      | (with_reducible exact ih3 _ _ _ _ _)
      | (with_reducible exact ih4 _ _ _ _ _ _)
      | (with_reducible exact trishawlaw01_alive.mono _)
      | (with_reducible exact trishawlaw01_same.mono _ _ _)
      | (with_reducible exact trishawref01_Shares.mono _ _)
      | (with_reducible exact turn_Fair.mono _ _ _)
      | (with_reducible exact turn_Greedy.mono _ _ _)
      | (with_reducible exact LeO.refl _)
      | (with_reducible exact LeO.none _)
      | (with_reducible refine LeO.ite ?_ ?_)
      | (with_reducible refine LeO.bind ?_ (fun _ => ?_))
      | exact ih0 _ _ _ _
      | exact ih1 _ _ _ _ _ _
      | exact ih2 _ _ _ _
      | exact ih3 _ _ _ _ _
      | exact ih4 _ _ _ _ _ _
      | exact trishawlaw01_alive.mono _
      | exact trishawlaw01_same.mono _ _ _
      | exact trishawref01_Shares.mono _ _
      | exact turn_Fair.mono _ _ _
      | exact turn_Greedy.mono _ _ _
      | exact LeO.none _
      | refine LeO.ite ?_ ?_
      | refine LeO.bind ?_ (fun _ => ?_)
theorem trishawlaw01_TurnAround.mono : ∀ a0 a1 k, LeO (trishawlaw01_TurnAround.f k a0 a1) (trishawlaw01_TurnAround.f (k + 1) a0 a1) := by
  intro a0 a1 k
  obtain ⟨ih0, ih1, ih2, ih3, ih4⟩ := trishawlaw01_TurnAround.mono_l k
  unfold trishawlaw01_TurnAround.f
  repeat' first
      | (with_reducible exact ih0 _ _ _ _)
      | (with_reducible exact ih1 _ _ _ _ _ _)
      | (with_reducible exact ih2 _ _ _ _)
      | (with_reducible exact ih3 _ _ _ _ _)
      | (with_reducible exact ih4 _ _ _ _ _ _)
      | (with_reducible exact trishawlaw01_alive.mono _)
      | (with_reducible exact trishawlaw01_same.mono _ _ _)
      | (with_reducible exact trishawref01_Shares.mono _ _)
      | (with_reducible exact turn_Fair.mono _ _ _)
      | (with_reducible exact turn_Greedy.mono _ _ _)
      | (with_reducible exact LeO.refl _)
      | (with_reducible exact LeO.none _)
      | (with_reducible refine LeO.ite ?_ ?_)
      | (with_reducible refine LeO.bind ?_ (fun _ => ?_))
      | exact ih0 _ _ _ _
      | exact ih1 _ _ _ _ _ _
      | exact ih2 _ _ _ _
      | exact ih3 _ _ _ _ _
      | exact ih4 _ _ _ _ _ _
      | exact trishawlaw01_alive.mono _
      | exact trishawlaw01_same.mono _ _ _
      | exact trishawref01_Shares.mono _ _
      | exact turn_Fair.mono _ _ _
      | exact turn_Greedy.mono _ _ _
      | exact LeO.none _
      | refine LeO.ite ?_ ?_
      | refine LeO.bind ?_ (fun _ => ?_)
set_option maxHeartbeats 8000000 in
set_option maxRecDepth 100000 in
theorem trishawlaw01_TurnAround.calls (k : Nat) (A0 : Option Addr) (c0 : Nat) (l0 : List Int) (a1 : Int) (r : Bool) (w : World) (hr0 : Kd.C (Kd.int .i64) w A0 l0.length l0) (hc0 : l0.length ≤ c0) (h : trishawlaw01_TurnAround.f k l0 a1 = some r) (hN0 : NoneLaid w) (hr_ : r = true) :
    Calls Tryd.prog 9 #[.slice A0 l0.length c0, .int .u16 a1] w fun e w' => e = .returned (.bool r) ∧ Below w.heap.size w w' := by
 have HN := Aside0.mk hN0
 clear hN0
 have hr := Aside0.mk hr_
 clear hr_
 have HR0 := Aside0.mk hr0
 have HC0 := Aside0.mk hc0
 clear hr0 hc0
 have HB := Aside0.mk (Below.refl w.heap.size w)
 have H : ((trishawref01_Shares.f k l0).bind fun bt619 => (if (l0.length : Int) > 30 then (trishawlaw01_TurnAround.j0 k l0 a1 bt619.1 true) else (trishawlaw01_TurnAround.j0 k l0 a1 bt619.1 (bt619.2 != 0)))) = some r := h
 clear h
 replace H := Option.bind_eq_some_iff.mp H
 obtain ⟨⟨t619, t620⟩, A30, H⟩ := H
 replace H : (if (l0.length : Int) > 30 then (trishawlaw01_TurnAround.j0 k l0 a1 t619 true) else (trishawlaw01_TurnAround.j0 k l0 a1 t619 (t620 != 0))) = some r := H
 have A3 := Aside0.mk A30
 clear A30
 have HC4 := Aside0.mk H
 clear H
 go_enter Tryd.func9, Tryd.ntmps9
 go_upto_region 2 with (first | (go_at_call 23; (with_reducible refine (trishawref01_Shares.calls k _ _ l0 t619 t620 _ ?side1 ?side2 A3.out).mono ?_); (case side1 => repeat (first | exact HR0.out | (with_reducible refine Kd.C_alloc ?_ _) | (with_reducible refine Kd.C_drewN ?_ _) | (with_reducible refine Kd.C_drew ?_))); (case side2 => exact HC0.out); rintro e w' ⟨rfl, ⟨nd, rfl⟩⟩; (try first | exact ⟨rfl, _, World.drewN_drewN _ _ _⟩ | exact ⟨rfl, _, Eq.trans (World.drewN_drewN _ _ _) (congrArg (World.drewN _) (Nat.add_assoc _ _ _))⟩)))
 repeat (go_quiet (first | (go_at_call 23; (with_reducible refine (trishawref01_Shares.calls k _ _ l0 t619 t620 _ ?side1 ?side2 A3.out).mono ?_); (case side1 => repeat (first | exact HR0.out | (with_reducible refine Kd.C_alloc ?_ _) | (with_reducible refine Kd.C_drewN ?_ _) | (with_reducible refine Kd.C_drew ?_))); (case side2 => exact HC0.out); rintro e w' ⟨rfl, ⟨nd, rfl⟩⟩; (try first | exact ⟨rfl, _, World.drewN_drewN _ _ _⟩ | exact ⟨rfl, _, Eq.trans (World.drewN_drewN _ _ _) (congrArg (World.drewN _) (Nat.add_assoc _ _ _))⟩))); go_upto_region 2 with (first | (go_at_call 23; (with_reducible refine (trishawref01_Shares.calls k _ _ l0 t619 t620 _ ?side1 ?side2 A3.out).mono ?_); (case side1 => repeat (first | exact HR0.out | (with_reducible refine Kd.C_alloc ?_ _) | (with_reducible refine Kd.C_drewN ?_ _) | (with_reducible refine Kd.C_drew ?_))); (case side2 => exact HC0.out); rintro e w' ⟨rfl, ⟨nd, rfl⟩⟩; (try first | exact ⟨rfl, _, World.drewN_drewN _ _ _⟩ | exact ⟨rfl, _, Eq.trans (World.drewN_drewN _ _ _) (congrArg (World.drewN _) (Nat.add_assoc _ _ _))⟩))))
 (try simp only [Act.put, List.setIfInBounds_toArray, List.set_cons_zero, List.set_cons_succ])
 go_cut [27] (fun v27 wc => ∃ (kq : Nat) (x27_3 : Bool), v27 = .bool x27_3 ∧ Aside0 (trishawlaw01_TurnAround.j0 kq l0 a1 t619 x27_3 = some r) ∧ Aside0 (kq ≤ k) ∧ Aside0 (Below w.heap.size w wc))
 case first =>
  have H := HC4.out
  clear HC4
  by_cases c5 : (l0.length : Int) > 30
  ·rw [if_pos c5] at H
   have c5b0 : decide (30 < (l0.length : Int)) = true := decide_eq_true c5
   have c5b1 : decide (30 < l0.length) = true := decide_eq_true (by omega)
   clear c5
   (first | rw [c5b0] | (simp only [i64_w, i32_w]; rw [c5b0]) | skip)
   have H' := Aside0.mk H
   clear H
   go_wp2
   repeat (go_quiet (fail); try go_wp2)
   (try simp only [← hji28])
   (try simp only [← hji57])
   go_meet
   case rel => exact ⟨_, (true), (by first | rfl | (simp; done) | (simp [*]; done)), H', ⟨by first | omega | exact Nat.le_refl _⟩, ⟨bl_⟩⟩
  ·rw [if_neg c5] at H
   have c5b0 : decide (30 < (l0.length : Int)) = false := decide_eq_false c5
   have c5b1 : decide (30 < l0.length) = false := decide_eq_false (by omega)
   clear c5
   (first | rw [c5b0] | (simp only [i64_w, i32_w]; rw [c5b0]) | skip)
   have H' := Aside0.mk H
   clear H
   go_wp2
   repeat (go_quiet (fail); try go_wp2)
   (try simp only [← hji28])
   (try simp only [← hji57])
   go_meet
   case rel => exact ⟨_, ((t620 != 0)), (by first | rfl | (simp; done) | (simp [*]; done)), H', ⟨by first | omega | exact Nat.le_refl _⟩, ⟨bl_⟩⟩
 case rest =>
  clear HC4
  try clear p2
  try clear c5
  try clear c5b0
  try clear c5b1
  obtain ⟨kq, x27_3, rfl, HA, HJ3, HB⟩ := hcut
  cases kq with
  | zero => exact absurd HA.out (by simp [trishawlaw01_TurnAround.j0])
  | succ kj3 =>
   have H := HA.out
   clear HA
   simp only [trishawlaw01_TurnAround.j0] at H
   by_cases c6 : x27_3 = true
   ·subst c6
    have H1 : ((trishawlaw01_alive.f kj3).bind fun t621 => (some t621)) = some r := by rw [if_pos rfl] at H; exact H
    clear H
    have H := H1
    clear H1
    replace H := Option.bind_eq_some_iff.mp H
    obtain ⟨t621, A70, H⟩ := H
    replace H : (some t621) = some r := H
    have A7 := Aside0.mk A70
    clear A70
    obtain rfl := Option.some.inj H
    go_wp2_with (first | (go_at_call 17; (with_reducible refine (trishawlaw01_alive.calls kj3  t621 _ A7.out (HN.out.of (bl_))).mono ?_); rintro e w8 ⟨rfl, hb⟩; have n0_ := Aside0.mk (below_step (bl_) hb); clear HB; have HB := n0_; clear n0_; (try clear hb); (try clear hb2); (try clear hk); (try clear hi)))
    repeat (go_quiet (first | (go_at_call 17; (with_reducible refine (trishawlaw01_alive.calls kj3  t621 _ A7.out (HN.out.of (bl_))).mono ?_); rintro e w8 ⟨rfl, hb⟩; have n0_ := Aside0.mk (below_step (bl_) hb); clear HB; have HB := n0_; clear n0_; (try clear hb); (try clear hb2); (try clear hk); (try clear hi))); try go_wp2_with (first | (go_at_call 17; (with_reducible refine (trishawlaw01_alive.calls kj3  t621 _ A7.out (HN.out.of (bl_))).mono ?_); rintro e w8 ⟨rfl, hb⟩; have n0_ := Aside0.mk (below_step (bl_) hb); clear HB; have HB := n0_; clear n0_; (try clear hb); (try clear hb2); (try clear hk); (try clear hi))))
    go_ret
    exact ⟨by first | rfl | (simp [errW_none, errW_some] <;> rfl) | (simp [*, errW_none, errW_some] <;> rfl), bl_⟩
   ·replace c6 := Bool.eq_false_iff.mpr c6
    subst c6
    have H1 : ((turn_Fair.f kj3 l0 400).bind fun bt622 => ((turn_Greedy.f kj3 l0 400).bind fun bt626 => (if bt622.2 = 0 then (if bt626.2 = 0 then (if (bt622.1.length : Int) = 400 then (trishawlaw01_TurnAround.j1 kj3 l0 a1 t619 bt622.1 bt626.1 ((bt626.1.length : Int) != 400)) else (trishawlaw01_TurnAround.j1 kj3 l0 a1 t619 bt622.1 bt626.1 true)) else (trishawlaw01_TurnAround.j1 kj3 l0 a1 t619 bt622.1 bt626.1 true)) else (trishawlaw01_TurnAround.j1 kj3 l0 a1 t619 bt622.1 bt626.1 true)))) = some r := by rw [if_neg (show ¬ (false = true) by decide)] at H; exact H
    clear H
    have H := H1
    clear H1
    replace H := Option.bind_eq_some_iff.mp H
    obtain ⟨⟨t622, t623⟩, A90, H⟩ := H
    replace H : ((turn_Greedy.f kj3 l0 400).bind fun bt626 => (if t623 = 0 then (if bt626.2 = 0 then (if (t622.length : Int) = 400 then (trishawlaw01_TurnAround.j1 kj3 l0 a1 t619 t622 bt626.1 ((bt626.1.length : Int) != 400)) else (trishawlaw01_TurnAround.j1 kj3 l0 a1 t619 t622 bt626.1 true)) else (trishawlaw01_TurnAround.j1 kj3 l0 a1 t619 t622 bt626.1 true)) else (trishawlaw01_TurnAround.j1 kj3 l0 a1 t619 t622 bt626.1 true))) = some r := H
    have A9 := Aside0.mk A90
    clear A90
    replace H := Option.bind_eq_some_iff.mp H
    obtain ⟨⟨t626, t627⟩, A100, H⟩ := H
    replace H : (if t623 = 0 then (if t627 = 0 then (if (t622.length : Int) = 400 then (trishawlaw01_TurnAround.j1 kj3 l0 a1 t619 t622 t626 ((t626.length : Int) != 400)) else (trishawlaw01_TurnAround.j1 kj3 l0 a1 t619 t622 t626 true)) else (trishawlaw01_TurnAround.j1 kj3 l0 a1 t619 t622 t626 true)) else (trishawlaw01_TurnAround.j1 kj3 l0 a1 t619 t622 t626 true)) = some r := H
    have A10 := Aside0.mk A100
    clear A100
    have HC11 := Aside0.mk H
    clear H
    go_upto_region 6 with (first | (go_at_call 31; (with_reducible refine (turn_Fair.calls kj3 _ _ l0 400 t622 t623 _ ?side1 ?side2 A9.out).mono ?_); (case side1 => repeat (first | exact (Kd.C_below HR0.out HB.out) | (with_reducible refine Kd.C_alloc ?_ _) | (with_reducible refine Kd.C_drewN ?_ _) | (with_reducible refine Kd.C_drew ?_))); (case side2 => exact HC0.out); rintro e w12 ⟨v624, rfl, ho0, hb⟩; have n0_ := Aside0.mk (Kd.R_lower ho0 (below_size (bl_))); have n1_ := Aside0.mk (below_step (bl_) hb); clear HB; have HO625 := n0_; have HB := n1_; clear n0_ n1_; (try clear hb); (try clear hb2); (try clear hk); (try clear hi); (try clear ho0)) | (go_at_call 32; (with_reducible refine (turn_Greedy.calls kj3 _ _ l0 400 t626 t627 _ ?side1 ?side2 A10.out).mono ?_); (case side1 => repeat (first | exact (Kd.C_below HR0.out HB.out) | (with_reducible refine Kd.C_alloc ?_ _) | (with_reducible refine Kd.C_drewN ?_ _) | (with_reducible refine Kd.C_drew ?_))); (case side2 => exact HC0.out); rintro e w13 ⟨v628, rfl, ho0, hb⟩; have n0_ := Aside0.mk (Kd.R_elder' (kr_ HO625.out) (Kd.R_base ho0) hb); have n1_ := Aside0.mk (Kd.R_lower (Kd.R_new' ho0 (Kd.R_lt (kr_ HO625.out))) (below_size (bl_))); have n2_ := Aside0.mk (below_step (bl_) hb); clear HO625; clear HB; have HO625 := n0_; have HO629 := n1_; have HB := n2_; clear n0_ n1_ n2_; (try clear hb); (try clear hb2); (try clear hk); (try clear hi); (try clear ho0)))
    repeat (go_quiet (first | (go_at_call 31; (with_reducible refine (turn_Fair.calls kj3 _ _ l0 400 t622 t623 _ ?side1 ?side2 A9.out).mono ?_); (case side1 => repeat (first | exact (Kd.C_below HR0.out HB.out) | (with_reducible refine Kd.C_alloc ?_ _) | (with_reducible refine Kd.C_drewN ?_ _) | (with_reducible refine Kd.C_drew ?_))); (case side2 => exact HC0.out); rintro e w12 ⟨v624, rfl, ho0, hb⟩; have n0_ := Aside0.mk (Kd.R_lower ho0 (below_size (bl_))); have n1_ := Aside0.mk (below_step (bl_) hb); clear HB; have HO625 := n0_; have HB := n1_; clear n0_ n1_; (try clear hb); (try clear hb2); (try clear hk); (try clear hi); (try clear ho0)) | (go_at_call 32; (with_reducible refine (turn_Greedy.calls kj3 _ _ l0 400 t626 t627 _ ?side1 ?side2 A10.out).mono ?_); (case side1 => repeat (first | exact (Kd.C_below HR0.out HB.out) | (with_reducible refine Kd.C_alloc ?_ _) | (with_reducible refine Kd.C_drewN ?_ _) | (with_reducible refine Kd.C_drew ?_))); (case side2 => exact HC0.out); rintro e w13 ⟨v628, rfl, ho0, hb⟩; have n0_ := Aside0.mk (Kd.R_elder' (kr_ HO625.out) (Kd.R_base ho0) hb); have n1_ := Aside0.mk (Kd.R_lower (Kd.R_new' ho0 (Kd.R_lt (kr_ HO625.out))) (below_size (bl_))); have n2_ := Aside0.mk (below_step (bl_) hb); clear HO625; clear HB; have HO625 := n0_; have HO629 := n1_; have HB := n2_; clear n0_ n1_ n2_; (try clear hb); (try clear hb2); (try clear hk); (try clear hi); (try clear ho0))); go_upto_region 6 with (first | (go_at_call 31; (with_reducible refine (turn_Fair.calls kj3 _ _ l0 400 t622 t623 _ ?side1 ?side2 A9.out).mono ?_); (case side1 => repeat (first | exact (Kd.C_below HR0.out HB.out) | (with_reducible refine Kd.C_alloc ?_ _) | (with_reducible refine Kd.C_drewN ?_ _) | (with_reducible refine Kd.C_drew ?_))); (case side2 => exact HC0.out); rintro e w12 ⟨v624, rfl, ho0, hb⟩; have n0_ := Aside0.mk (Kd.R_lower ho0 (below_size (bl_))); have n1_ := Aside0.mk (below_step (bl_) hb); clear HB; have HO625 := n0_; have HB := n1_; clear n0_ n1_; (try clear hb); (try clear hb2); (try clear hk); (try clear hi); (try clear ho0)) | (go_at_call 32; (with_reducible refine (turn_Greedy.calls kj3 _ _ l0 400 t626 t627 _ ?side1 ?side2 A10.out).mono ?_); (case side1 => repeat (first | exact (Kd.C_below HR0.out HB.out) | (with_reducible refine Kd.C_alloc ?_ _) | (with_reducible refine Kd.C_drewN ?_ _) | (with_reducible refine Kd.C_drew ?_))); (case side2 => exact HC0.out); rintro e w13 ⟨v628, rfl, ho0, hb⟩; have n0_ := Aside0.mk (Kd.R_elder' (kr_ HO625.out) (Kd.R_base ho0) hb); have n1_ := Aside0.mk (Kd.R_lower (Kd.R_new' ho0 (Kd.R_lt (kr_ HO625.out))) (below_size (bl_))); have n2_ := Aside0.mk (below_step (bl_) hb); clear HO625; clear HB; have HO625 := n0_; have HO629 := n1_; have HB := n2_; clear n0_ n1_ n2_; (try clear hb); (try clear hb2); (try clear hk); (try clear hi); (try clear ho0))))
    (try simp only [Act.put, List.setIfInBounds_toArray, List.set_cons_zero, List.set_cons_succ])
    go_cut [54] (fun v54 wc => ∃ (kq : Nat) (x54_10 : Bool), v54 = .bool x54_10 ∧ Aside0 (trishawlaw01_TurnAround.j1 kq l0 a1 t619 t622 t626 x54_10 = some r) ∧ Aside0 (kq ≤ kj3) ∧ Aside0 (Kd.R (Kd.int .i64) 3 wc w.heap.size (fun k_ => some k_ ≠ (v628 : Value).ownBlock) v624 t622) ∧ Aside0 (Kd.R (Kd.int .i64) 3 wc w.heap.size (fun k_ => some k_ ≠ (v624 : Value).ownBlock) v628 t626) ∧ Aside0 (Below w.heap.size w wc))
    case first =>
     have H := HC11.out
     clear HC11
     by_cases c14 : t623 = 0
     ·rw [if_pos c14] at H
      have c14b0 : (t623 == 0) = true := beq_iff_eq.mpr c14
      have c14b1 : (t623 != 0) = false := bne_eq_false_iff_eq.mpr c14
      clear c14
      (first | rw [c14b0] | (simp only [i64_w, i32_w]; rw [c14b0]) | skip)
      by_cases c15 : t627 = 0
      ·rw [if_pos c15] at H
       have c15b0 : (t627 == 0) = true := beq_iff_eq.mpr c15
       have c15b1 : (t627 != 0) = false := bne_eq_false_iff_eq.mpr c15
       clear c15
       by_cases c16 : (t622.length : Int) = 400
       ·rw [if_pos c16] at H
        have c16b0 : ((t622.length : Int) == 400) = true := beq_iff_eq.mpr c16
        have c16b1 : ((t622.length : Int) != 400) = false := bne_eq_false_iff_eq.mpr c16
        clear c16
        have H' := Aside0.mk H
        clear H
        obtain ⟨Ao17, co17, eo17⟩ := Kd.R_slice HO625.out
        subst eo17
        obtain ⟨Ao18, co18, eo18⟩ := Kd.R_slice HO629.out
        subst eo18
        go_wp2
        repeat (go_quiet (fail); try go_wp2)
        (try simp only [← hji28])
        (try simp only [← hji57])
        go_meet
        case rel => exact ⟨_, (((t626.length : Int) != 400)), (by first | rfl | (simp; done) | (simp [*]; done)), H', ⟨by have := HJ3.out; first | omega | exact Nat.le_refl _⟩, ⟨by (with_reducible repeat (first | apply Kd.R_alloc | apply Kd.R_drewN | apply Kd.R_drew)); exact Kd.R_mono HO625.out (fun _ hk => hk.2)⟩, ⟨by (with_reducible repeat (first | apply Kd.R_alloc | apply Kd.R_drewN | apply Kd.R_drew)); exact Kd.R_mono HO629.out (fun _ hk => hk.2)⟩, ⟨bl_⟩⟩
       ·rw [if_neg c16] at H
        have c16b0 : ((t622.length : Int) == 400) = false := beq_eq_false_iff_ne.mpr c16
        have c16b1 : ((t622.length : Int) != 400) = true := bne_iff_ne.mpr c16
        have H' := Aside0.mk H
        clear H
        obtain ⟨Ao19, co19, eo19⟩ := Kd.R_slice HO625.out
        subst eo19
        go_wp2
        repeat (go_quiet (fail); try go_wp2)
        (try simp only [← hji28])
        (try simp only [← hji57])
        go_meet
        case rel => exact ⟨_, (true), (by first | rfl | (simp; done) | (simp [*]; done)), H', ⟨by have := HJ3.out; first | omega | exact Nat.le_refl _⟩, ⟨by (with_reducible repeat (first | apply Kd.R_alloc | apply Kd.R_drewN | apply Kd.R_drew)); exact Kd.R_mono HO625.out (fun _ hk => hk.2)⟩, ⟨by (with_reducible repeat (first | apply Kd.R_alloc | apply Kd.R_drewN | apply Kd.R_drew)); exact Kd.R_mono HO629.out (fun _ hk => hk.2)⟩, ⟨bl_⟩⟩
      ·rw [if_neg c15] at H
       have c15b0 : (t627 == 0) = false := beq_eq_false_iff_ne.mpr c15
       have c15b1 : (t627 != 0) = true := bne_iff_ne.mpr c15
       have H' := Aside0.mk H
       clear H
       go_wp2
       repeat (go_quiet (fail); try go_wp2)
       (try simp only [← hji28])
       (try simp only [← hji57])
       go_meet
       case rel => exact ⟨_, (true), (by first | rfl | (simp; done) | (simp [*]; done)), H', ⟨by have := HJ3.out; first | omega | exact Nat.le_refl _⟩, ⟨by (with_reducible repeat (first | apply Kd.R_alloc | apply Kd.R_drewN | apply Kd.R_drew)); exact Kd.R_mono HO625.out (fun _ hk => hk.2)⟩, ⟨by (with_reducible repeat (first | apply Kd.R_alloc | apply Kd.R_drewN | apply Kd.R_drew)); exact Kd.R_mono HO629.out (fun _ hk => hk.2)⟩, ⟨bl_⟩⟩
     ·rw [if_neg c14] at H
      have c14b0 : (t623 == 0) = false := beq_eq_false_iff_ne.mpr c14
      have c14b1 : (t623 != 0) = true := bne_iff_ne.mpr c14
      (first | rw [c14b0] | (simp only [i64_w, i32_w]; rw [c14b0]) | skip)
      have H' := Aside0.mk H
      clear H
      go_wp2
      repeat (go_quiet (fail); try go_wp2)
      (try simp only [← hji28])
      (try simp only [← hji57])
      go_meet
      case rel => exact ⟨_, (true), (by first | rfl | (simp; done) | (simp [*]; done)), H', ⟨by have := HJ3.out; first | omega | exact Nat.le_refl _⟩, ⟨by (with_reducible repeat (first | apply Kd.R_alloc | apply Kd.R_drewN | apply Kd.R_drew)); exact Kd.R_mono HO625.out (fun _ hk => hk.2)⟩, ⟨by (with_reducible repeat (first | apply Kd.R_alloc | apply Kd.R_drewN | apply Kd.R_drew)); exact Kd.R_mono HO629.out (fun _ hk => hk.2)⟩, ⟨bl_⟩⟩
    case rest =>
     clear HC11
     try clear c1
     try clear p2
     try clear c5
     try clear c5b0
     try clear c5b1
     try clear c6
     try clear c9
     try clear c14
     try clear c14b0
     try clear c14b1
     try clear c15
     try clear c15b0
     try clear c15b1
     try clear c16
     try clear c16b0
     try clear c16b1
     try clear p2
     obtain ⟨kq, x54_10, rfl, HA, HJ10, HO_7, HO_9, HB⟩ := hcut
     cases kq with
     | zero => exact absurd HA.out (by simp [trishawlaw01_TurnAround.j1])
     | succ kj10 =>
      have H := HA.out
      clear HA
      simp only [trishawlaw01_TurnAround.j1] at H
      by_cases c20 : x54_10 = true
      ·subst c20
       have H1 : (some false) = some r := by rw [if_pos rfl] at H; exact H
       clear H
       have H := H1
       clear H1
       exact absurd (Option.some.inj (H.trans (congrArg some hr.out))) (by decide)
      ·replace c20 := Bool.eq_false_iff.mpr c20
       subst c20
       have H1 : ((turn_Fair.f kj10 l0 (Int.tmod (wrap64 (a1)) 401)).bind fun bt630 => ((turn_Greedy.f kj10 l0 (Int.tmod (wrap64 (a1)) 401)).bind fun bt634 => (if bt630.2 = 0 then (if bt634.2 = 0 then (if 0 ≤ (Int.tmod (wrap64 (a1)) 401) then (if (Int.tmod (wrap64 (a1)) 401) ≤ (t622.length : Int) then ((trishawlaw01_same.f kj10 bt630.1 (t622.take ((Int.tmod (wrap64 (a1)) 401) : Int).toNat)).bind fun t642 => (if t642 = true then (if (Int.tmod (wrap64 (a1)) 401) ≤ (t626.length : Int) then ((trishawlaw01_same.f kj10 bt634.1 (t626.take ((Int.tmod (wrap64 (a1)) 401) : Int).toNat)).bind fun t647 => (trishawlaw01_TurnAround.j2 kj10 l0 t619 t622 (!t647))) else (none)) else (trishawlaw01_TurnAround.j2 kj10 l0 t619 t622 true))) else (none)) else (none)) else (trishawlaw01_TurnAround.j2 kj10 l0 t619 t622 true)) else (trishawlaw01_TurnAround.j2 kj10 l0 t619 t622 true)))) = some r := by rw [if_neg (show ¬ (false = true) by decide)] at H; exact H
       clear H
       have H := H1
       clear H1
       replace H := Option.bind_eq_some_iff.mp H
       obtain ⟨⟨t630, t631⟩, A210, H⟩ := H
       replace H : ((turn_Greedy.f kj10 l0 (Int.tmod (wrap64 (a1)) 401)).bind fun bt634 => (if t631 = 0 then (if bt634.2 = 0 then (if 0 ≤ (Int.tmod (wrap64 (a1)) 401) then (if (Int.tmod (wrap64 (a1)) 401) ≤ (t622.length : Int) then ((trishawlaw01_same.f kj10 t630 (t622.take ((Int.tmod (wrap64 (a1)) 401) : Int).toNat)).bind fun t642 => (if t642 = true then (if (Int.tmod (wrap64 (a1)) 401) ≤ (t626.length : Int) then ((trishawlaw01_same.f kj10 bt634.1 (t626.take ((Int.tmod (wrap64 (a1)) 401) : Int).toNat)).bind fun t647 => (trishawlaw01_TurnAround.j2 kj10 l0 t619 t622 (!t647))) else (none)) else (trishawlaw01_TurnAround.j2 kj10 l0 t619 t622 true))) else (none)) else (none)) else (trishawlaw01_TurnAround.j2 kj10 l0 t619 t622 true)) else (trishawlaw01_TurnAround.j2 kj10 l0 t619 t622 true))) = some r := H
       have A21 := Aside0.mk A210
       clear A210
       replace H := Option.bind_eq_some_iff.mp H
       obtain ⟨⟨t634, t635⟩, A220, H⟩ := H
       replace H : (if t631 = 0 then (if t635 = 0 then (if 0 ≤ (Int.tmod (wrap64 (a1)) 401) then (if (Int.tmod (wrap64 (a1)) 401) ≤ (t622.length : Int) then ((trishawlaw01_same.f kj10 t630 (t622.take ((Int.tmod (wrap64 (a1)) 401) : Int).toNat)).bind fun t642 => (if t642 = true then (if (Int.tmod (wrap64 (a1)) 401) ≤ (t626.length : Int) then ((trishawlaw01_same.f kj10 t634 (t626.take ((Int.tmod (wrap64 (a1)) 401) : Int).toNat)).bind fun t647 => (trishawlaw01_TurnAround.j2 kj10 l0 t619 t622 (!t647))) else (none)) else (trishawlaw01_TurnAround.j2 kj10 l0 t619 t622 true))) else (none)) else (none)) else (trishawlaw01_TurnAround.j2 kj10 l0 t619 t622 true)) else (trishawlaw01_TurnAround.j2 kj10 l0 t619 t622 true)) = some r := H
       have A22 := Aside0.mk A220
       clear A220
       have HC23 := Aside0.mk H
       clear H
       go_upto_region 11 with (first | (go_at_call 31; (with_reducible refine (turn_Fair.calls kj10 _ _ l0 (Int.tmod (wrap64 (a1)) 401) t630 t631 _ ?side1 ?side2 A21.out).mono ?_); (case side1 => repeat (first | exact (Kd.C_below HR0.out HB.out) | (with_reducible refine Kd.C_alloc ?_ _) | (with_reducible refine Kd.C_drewN ?_ _) | (with_reducible refine Kd.C_drew ?_))); (case side2 => exact HC0.out); rintro e w24 ⟨v632, rfl, ho0, hb⟩; have n0_ := Aside0.mk (Kd.R_elder' (kr_ HO_7.out) (Kd.R_base ho0) hb); have n1_ := Aside0.mk (Kd.R_elder' (kr_ HO_9.out) (Kd.R_base ho0) hb); have n2_ := Aside0.mk (Kd.R_lower (Kd.R_new' (Kd.R_new' ho0 (Kd.R_lt (kr_ HO_7.out))) (Kd.R_lt (kr_ HO_9.out))) (below_size (bl_))); have n3_ := Aside0.mk (below_step (bl_) hb); clear HO_7; clear HO_9; clear HB; have HO_7 := n0_; have HO_9 := n1_; have HO633 := n2_; have HB := n3_; clear n0_ n1_ n2_ n3_; (try clear hb); (try clear hb2); (try clear hk); (try clear hi); (try clear ho0)) | (go_at_call 32; (with_reducible refine (turn_Greedy.calls kj10 _ _ l0 (Int.tmod (wrap64 (a1)) 401) t634 t635 _ ?side1 ?side2 A22.out).mono ?_); (case side1 => repeat (first | exact (Kd.C_below HR0.out HB.out) | (with_reducible refine Kd.C_alloc ?_ _) | (with_reducible refine Kd.C_drewN ?_ _) | (with_reducible refine Kd.C_drew ?_))); (case side2 => exact HC0.out); rintro e w25 ⟨v636, rfl, ho0, hb⟩; have n0_ := Aside0.mk (Kd.R_elder' (kr_ HO_7.out) (Kd.R_base ho0) hb); have n1_ := Aside0.mk (Kd.R_elder' (kr_ HO_9.out) (Kd.R_base ho0) hb); have n2_ := Aside0.mk (Kd.R_elder' (kr_ HO633.out) (Kd.R_base ho0) hb); have n3_ := Aside0.mk (Kd.R_lower (Kd.R_new' (Kd.R_new' (Kd.R_new' ho0 (Kd.R_lt (kr_ HO_7.out))) (Kd.R_lt (kr_ HO_9.out))) (Kd.R_lt (kr_ HO633.out))) (below_size (bl_))); have n4_ := Aside0.mk (below_step (bl_) hb); clear HO_7; clear HO_9; clear HO633; clear HB; have HO_7 := n0_; have HO_9 := n1_; have HO633 := n2_; have HO637 := n3_; have HB := n4_; clear n0_ n1_ n2_ n3_ n4_; (try clear hb); (try clear hb2); (try clear hk); (try clear hi); (try clear ho0)))
       repeat (go_quiet (first | (go_at_call 31; (with_reducible refine (turn_Fair.calls kj10 _ _ l0 (Int.tmod (wrap64 (a1)) 401) t630 t631 _ ?side1 ?side2 A21.out).mono ?_); (case side1 => repeat (first | exact (Kd.C_below HR0.out HB.out) | (with_reducible refine Kd.C_alloc ?_ _) | (with_reducible refine Kd.C_drewN ?_ _) | (with_reducible refine Kd.C_drew ?_))); (case side2 => exact HC0.out); rintro e w24 ⟨v632, rfl, ho0, hb⟩; have n0_ := Aside0.mk (Kd.R_elder' (kr_ HO_7.out) (Kd.R_base ho0) hb); have n1_ := Aside0.mk (Kd.R_elder' (kr_ HO_9.out) (Kd.R_base ho0) hb); have n2_ := Aside0.mk (Kd.R_lower (Kd.R_new' (Kd.R_new' ho0 (Kd.R_lt (kr_ HO_7.out))) (Kd.R_lt (kr_ HO_9.out))) (below_size (bl_))); have n3_ := Aside0.mk (below_step (bl_) hb); clear HO_7; clear HO_9; clear HB; have HO_7 := n0_; have HO_9 := n1_; have HO633 := n2_; have HB := n3_; clear n0_ n1_ n2_ n3_; (try clear hb); (try clear hb2); (try clear hk); (try clear hi); (try clear ho0)) | (go_at_call 32; (with_reducible refine (turn_Greedy.calls kj10 _ _ l0 (Int.tmod (wrap64 (a1)) 401) t634 t635 _ ?side1 ?side2 A22.out).mono ?_); (case side1 => repeat (first | exact (Kd.C_below HR0.out HB.out) | (with_reducible refine Kd.C_alloc ?_ _) | (with_reducible refine Kd.C_drewN ?_ _) | (with_reducible refine Kd.C_drew ?_))); (case side2 => exact HC0.out); rintro e w25 ⟨v636, rfl, ho0, hb⟩; have n0_ := Aside0.mk (Kd.R_elder' (kr_ HO_7.out) (Kd.R_base ho0) hb); have n1_ := Aside0.mk (Kd.R_elder' (kr_ HO_9.out) (Kd.R_base ho0) hb); have n2_ := Aside0.mk (Kd.R_elder' (kr_ HO633.out) (Kd.R_base ho0) hb); have n3_ := Aside0.mk (Kd.R_lower (Kd.R_new' (Kd.R_new' (Kd.R_new' ho0 (Kd.R_lt (kr_ HO_7.out))) (Kd.R_lt (kr_ HO_9.out))) (Kd.R_lt (kr_ HO633.out))) (below_size (bl_))); have n4_ := Aside0.mk (below_step (bl_) hb); clear HO_7; clear HO_9; clear HO633; clear HB; have HO_7 := n0_; have HO_9 := n1_; have HO633 := n2_; have HO637 := n3_; have HB := n4_; clear n0_ n1_ n2_ n3_ n4_; (try clear hb); (try clear hb2); (try clear hk); (try clear hi); (try clear ho0))); go_upto_region 11 with (first | (go_at_call 31; (with_reducible refine (turn_Fair.calls kj10 _ _ l0 (Int.tmod (wrap64 (a1)) 401) t630 t631 _ ?side1 ?side2 A21.out).mono ?_); (case side1 => repeat (first | exact (Kd.C_below HR0.out HB.out) | (with_reducible refine Kd.C_alloc ?_ _) | (with_reducible refine Kd.C_drewN ?_ _) | (with_reducible refine Kd.C_drew ?_))); (case side2 => exact HC0.out); rintro e w24 ⟨v632, rfl, ho0, hb⟩; have n0_ := Aside0.mk (Kd.R_elder' (kr_ HO_7.out) (Kd.R_base ho0) hb); have n1_ := Aside0.mk (Kd.R_elder' (kr_ HO_9.out) (Kd.R_base ho0) hb); have n2_ := Aside0.mk (Kd.R_lower (Kd.R_new' (Kd.R_new' ho0 (Kd.R_lt (kr_ HO_7.out))) (Kd.R_lt (kr_ HO_9.out))) (below_size (bl_))); have n3_ := Aside0.mk (below_step (bl_) hb); clear HO_7; clear HO_9; clear HB; have HO_7 := n0_; have HO_9 := n1_; have HO633 := n2_; have HB := n3_; clear n0_ n1_ n2_ n3_; (try clear hb); (try clear hb2); (try clear hk); (try clear hi); (try clear ho0)) | (go_at_call 32; (with_reducible refine (turn_Greedy.calls kj10 _ _ l0 (Int.tmod (wrap64 (a1)) 401) t634 t635 _ ?side1 ?side2 A22.out).mono ?_); (case side1 => repeat (first | exact (Kd.C_below HR0.out HB.out) | (with_reducible refine Kd.C_alloc ?_ _) | (with_reducible refine Kd.C_drewN ?_ _) | (with_reducible refine Kd.C_drew ?_))); (case side2 => exact HC0.out); rintro e w25 ⟨v636, rfl, ho0, hb⟩; have n0_ := Aside0.mk (Kd.R_elder' (kr_ HO_7.out) (Kd.R_base ho0) hb); have n1_ := Aside0.mk (Kd.R_elder' (kr_ HO_9.out) (Kd.R_base ho0) hb); have n2_ := Aside0.mk (Kd.R_elder' (kr_ HO633.out) (Kd.R_base ho0) hb); have n3_ := Aside0.mk (Kd.R_lower (Kd.R_new' (Kd.R_new' (Kd.R_new' ho0 (Kd.R_lt (kr_ HO_7.out))) (Kd.R_lt (kr_ HO_9.out))) (Kd.R_lt (kr_ HO633.out))) (below_size (bl_))); have n4_ := Aside0.mk (below_step (bl_) hb); clear HO_7; clear HO_9; clear HO633; clear HB; have HO_7 := n0_; have HO_9 := n1_; have HO633 := n2_; have HO637 := n3_; have HB := n4_; clear n0_ n1_ n2_ n3_ n4_; (try clear hb); (try clear hb2); (try clear hk); (try clear hi); (try clear ho0))))
       (try simp only [Act.put, List.setIfInBounds_toArray, List.set_cons_zero, List.set_cons_succ])
       go_cut [91] (fun v91 wc => ∃ (kq : Nat) (x91_22 : Bool), v91 = .bool x91_22 ∧ Aside0 (trishawlaw01_TurnAround.j2 kq l0 t619 t622 x91_22 = some r) ∧ Aside0 (kq ≤ kj10) ∧ Aside0 (Kd.R (Kd.int .i64) 3 wc w.heap.size (fun _ => True) v624 t622) ∧ Aside0 (Below w.heap.size w wc))
       case first =>
        have H := HC23.out
        clear HC23
        by_cases c26 : t631 = 0
        ·rw [if_pos c26] at H
         have c26b0 : (t631 == 0) = true := beq_iff_eq.mpr c26
         have c26b1 : (t631 != 0) = false := bne_eq_false_iff_eq.mpr c26
         clear c26
         (first | rw [c26b0] | (simp only [i64_w, i32_w]; rw [c26b0]) | skip)
         by_cases c27 : t635 = 0
         ·rw [if_pos c27] at H
          have c27b0 : (t635 == 0) = true := beq_iff_eq.mpr c27
          have c27b1 : (t635 != 0) = false := bne_eq_false_iff_eq.mpr c27
          clear c27
          obtain ⟨ji28, hji28⟩ : ∃ j_ : Int, (Int.tmod (wrap64 (a1)) 401) = j_ := ⟨_, rfl⟩
          replace H : (if 0 ≤ (ji28) then (if (ji28) ≤ (t622.length : Int) then ((trishawlaw01_same.f kj10 t630 (t622.take ((ji28) : Int).toNat)).bind fun t642 => (if t642 = true then (if (ji28) ≤ (t626.length : Int) then ((trishawlaw01_same.f kj10 t634 (t626.take ((ji28) : Int).toNat)).bind fun t647 => (trishawlaw01_TurnAround.j2 kj10 l0 t619 t622 (!t647))) else (none)) else (trishawlaw01_TurnAround.j2 kj10 l0 t619 t622 true))) else (none)) else (none)) = some r := by first | (rw [hji28] at H; exact H) | (simp only [hji28] at H ⊢; exact H)
          have c29 : 0 ≤ (ji28) := fl_ fun c29 => by rw [if_neg c29] at H; exact absurd H (by simp)
          rw [if_pos c29] at H
          have c29b0 := eq_true c29
          have c29b1 : decide (0 ≤ (ji28)) = true := decide_eq_true c29
          clear c29
          have c30 : (ji28) ≤ (t622.length : Int) := fl_ fun c30 => by rw [if_neg c30] at H; exact absurd H (by simp)
          rw [if_pos c30] at H
          have c30b0 := eq_true c30
          have c30b1 : decide ((ji28) ≤ (t622.length : Int)) = true := decide_eq_true c30
          clear c30
          obtain ⟨y638, hy638⟩ : ∃ y_ : List Int, y_ = (t622.take ((ji28) : Int).toNat) := ⟨_, rfl⟩
          replace H : ((trishawlaw01_same.f kj10 t630 y638).bind fun t642 => (if t642 = true then (if (ji28) ≤ (t626.length : Int) then ((trishawlaw01_same.f kj10 t634 (t626.take ((ji28) : Int).toNat)).bind fun t647 => (trishawlaw01_TurnAround.j2 kj10 l0 t619 t622 (!t647))) else (none)) else (trishawlaw01_TurnAround.j2 kj10 l0 t619 t622 true))) = some r := by first | (rw [hy638]; with_reducible exact H) | (have H2_ := (Option.bind_some _ _).symm.trans H; rw [hy638]; with_reducible exact H2_) | (have H2_ := (Option.bind_some _ _).symm.trans H; with_reducible exact H2_) | with_reducible exact H | (rw [hy638]; exact H) | exact H
          have Ny638 := Aside0.mk hy638
          clear hy638
          replace H := Option.bind_eq_some_iff.mp H
          obtain ⟨t642, A310, H⟩ := H
          replace H : (if t642 = true then (if (ji28) ≤ (t626.length : Int) then ((trishawlaw01_same.f kj10 t634 (t626.take ((ji28) : Int).toNat)).bind fun t647 => (trishawlaw01_TurnAround.j2 kj10 l0 t619 t622 (!t647))) else (none)) else (trishawlaw01_TurnAround.j2 kj10 l0 t619 t622 true)) = some r := H
          have A31 := Aside0.mk A310
          clear A310
          by_cases c32 : t642 = true
          ·subst c32
           have H1 : (if (ji28) ≤ (t626.length : Int) then ((trishawlaw01_same.f kj10 t634 (t626.take ((ji28) : Int).toNat)).bind fun t647 => (trishawlaw01_TurnAround.j2 kj10 l0 t619 t622 (!t647))) else (none)) = some r := by rw [if_pos rfl] at H; exact H
           clear H
           have H := H1
           clear H1
           have c33b0 := eq_true (od_ : 0 ≤ (ji28))
           have c34 : (ji28) ≤ (t626.length : Int) := fl_ fun c34 => by rw [if_neg c34] at H; exact absurd H (by simp)
           rw [if_pos c34] at H
           have c34b0 := eq_true c34
           have c34b1 : decide ((ji28) ≤ (t626.length : Int)) = true := decide_eq_true c34
           clear c34
           obtain ⟨y643, hy643⟩ : ∃ y_ : List Int, y_ = (t626.take ((ji28) : Int).toNat) := ⟨_, rfl⟩
           replace H : ((trishawlaw01_same.f kj10 t634 y643).bind fun t647 => (trishawlaw01_TurnAround.j2 kj10 l0 t619 t622 (!t647))) = some r := by first | (rw [hy643]; with_reducible exact H) | (have H2_ := (Option.bind_some _ _).symm.trans H; rw [hy643]; with_reducible exact H2_) | (have H2_ := (Option.bind_some _ _).symm.trans H; with_reducible exact H2_) | with_reducible exact H | (rw [hy643]; exact H) | exact H
           have Ny643 := Aside0.mk hy643
           clear hy643
           replace H := Option.bind_eq_some_iff.mp H
           obtain ⟨t647, A350, H⟩ := H
           replace H : (trishawlaw01_TurnAround.j2 kj10 l0 t619 t622 (!t647)) = some r := H
           have A35 := Aside0.mk A350
           clear A350
           have H' := Aside0.mk H
           clear H
           obtain ⟨Ao37, co37, eo37⟩ := Kd.R_slice HO_7.out
           subst eo37
           have q36 : ((ji28) : Int) ≤ ((t622.length : Int) : Int) := od_
           obtain ⟨i036, hi036, _, hsz36, _⟩ := info_parts info3
           have hroom36 : t622.length ≤ co37 := (Kd.R_reads' HO_7.out).2.1
           have hC36 : Kd.C (Kd.int .i64) _ Ao37 t622.length t622 := (Kd.R_reads' HO_7.out).2.2
           have hcut36 := cut_to (P := Tryd.prog) 22 3 .i64 Tryd.underlying22 hi036 Ao37 t622.length co37 (ji28) (od_) q36 hroom36
           have hr36 := Kd.C_take (m := ((ji28) : Int).toNat) hC36 (by omega)
           have hy36 : y638.length = ((ji28) : Int).toNat := (by rw [Ny638.out, List.length_take]; omega)
           rw [← Ny638.out] at hr36
           rw [← hy36] at hcut36
           have HR641 := Aside0.mk hr36
           have HC641 := Aside0.mk (show y638.length ≤ co37 from by omega)
           clear hr36 hC36 hroom36 hi036 hsz36
           have KY36 := Aside0.mk hy36
           clear hy36
           have KL36 := Aside0.mk (show ((ji28) : Int).toNat ≤ t622.length from by omega)
           replace q36 := eq_true q36
           obtain ⟨Ao38, co38, eo38⟩ := Kd.R_slice HO633.out
           subst eo38
           go_wp2_with (first | (go_at_call 22; (with_reducible refine (trishawlaw01_same.calls kj10 _ _ t630 _ _ y638 true _ ?side1 ?side2 ?side3 ?side4 A31.out).mono ?_); (case side1 => repeat (first | exact (Kd.R_reads' HO633.out).2.2 | (with_reducible refine Kd.C_alloc ?_ _) | (with_reducible refine Kd.C_drewN ?_ _) | (with_reducible refine Kd.C_drew ?_))); (case side2 => exact (Kd.R_reads' HO633.out).2.1); (case side3 => repeat (first | exact (by repeat (first | (with_reducible exact HR641.out) | (with_reducible refine Kd.C_alloc ?_ _) | (with_reducible refine Kd.C_drewN ?_ _) | (with_reducible refine Kd.C_drew ?_) | exact HR641.out)) | (with_reducible refine Kd.C_alloc ?_ _) | (with_reducible refine Kd.C_drewN ?_ _) | (with_reducible refine Kd.C_drew ?_))); (case side4 => exact HC641.out); rintro e w' ⟨rfl, ⟨nd, rfl⟩⟩; (try first | exact ⟨rfl, _, World.drewN_drewN _ _ _⟩ | exact ⟨rfl, _, Eq.trans (World.drewN_drewN _ _ _) (congrArg (World.drewN _) (Nat.add_assoc _ _ _))⟩); obtain ⟨Ao40, co40, eo40⟩ := Kd.R_slice HO_9.out; subst eo40; have q39 : ((ji28) : Int) ≤ ((t626.length : Int) : Int) := od_; obtain ⟨i039, hi039, _, hsz39, _⟩ := info_parts info3; have hroom39 : t626.length ≤ co40 := (Kd.R_reads' HO_9.out).2.1; have hC39 : Kd.C (Kd.int .i64) _ Ao40 t626.length t626 := (Kd.R_reads' HO_9.out).2.2; have hcut39 := cut_to (P := Tryd.prog) 22 3 .i64 Tryd.underlying22 hi039 Ao40 t626.length co40 (ji28) (od_) q39 hroom39; have hr39 := Kd.C_take (m := ((ji28) : Int).toNat) hC39 (by omega); have hy39 : y643.length = ((ji28) : Int).toNat := (by rw [Ny643.out, List.length_take]; omega); rw [← Ny643.out] at hr39; rw [← hy39] at hcut39; have HR646 := Aside0.mk hr39; have HC646 := Aside0.mk (show y643.length ≤ co40 from by omega); clear hr39 hC39 hroom39 hi039 hsz39; have KY39 := Aside0.mk hy39; clear hy39; have KL39 := Aside0.mk (show ((ji28) : Int).toNat ≤ t626.length from by omega); replace q39 := eq_true q39; obtain ⟨Ao41, co41, eo41⟩ := Kd.R_slice HO637.out; subst eo41) | (go_at_call 22; (with_reducible refine (trishawlaw01_same.calls kj10 _ _ t634 _ _ y643 t647 _ ?side1 ?side2 ?side3 ?side4 A35.out).mono ?_); (case side1 => repeat (first | exact (Kd.R_reads' HO637.out).2.2 | (with_reducible refine Kd.C_alloc ?_ _) | (with_reducible refine Kd.C_drewN ?_ _) | (with_reducible refine Kd.C_drew ?_))); (case side2 => exact (Kd.R_reads' HO637.out).2.1); (case side3 => repeat (first | exact (by repeat (first | (with_reducible exact HR646.out) | (with_reducible refine Kd.C_alloc ?_ _) | (with_reducible refine Kd.C_drewN ?_ _) | (with_reducible refine Kd.C_drew ?_) | exact HR646.out)) | (with_reducible refine Kd.C_alloc ?_ _) | (with_reducible refine Kd.C_drewN ?_ _) | (with_reducible refine Kd.C_drew ?_))); (case side4 => exact HC646.out); rintro e w' ⟨rfl, ⟨nd, rfl⟩⟩; (try first | exact ⟨rfl, _, World.drewN_drewN _ _ _⟩ | exact ⟨rfl, _, Eq.trans (World.drewN_drewN _ _ _) (congrArg (World.drewN _) (Nat.add_assoc _ _ _))⟩)))
           repeat (go_quiet (first | (go_at_call 22; (with_reducible refine (trishawlaw01_same.calls kj10 _ _ t630 _ _ y638 true _ ?side1 ?side2 ?side3 ?side4 A31.out).mono ?_); (case side1 => repeat (first | exact (Kd.R_reads' HO633.out).2.2 | (with_reducible refine Kd.C_alloc ?_ _) | (with_reducible refine Kd.C_drewN ?_ _) | (with_reducible refine Kd.C_drew ?_))); (case side2 => exact (Kd.R_reads' HO633.out).2.1); (case side3 => repeat (first | exact (by repeat (first | (with_reducible exact HR641.out) | (with_reducible refine Kd.C_alloc ?_ _) | (with_reducible refine Kd.C_drewN ?_ _) | (with_reducible refine Kd.C_drew ?_) | exact HR641.out)) | (with_reducible refine Kd.C_alloc ?_ _) | (with_reducible refine Kd.C_drewN ?_ _) | (with_reducible refine Kd.C_drew ?_))); (case side4 => exact HC641.out); rintro e w' ⟨rfl, ⟨nd, rfl⟩⟩; (try first | exact ⟨rfl, _, World.drewN_drewN _ _ _⟩ | exact ⟨rfl, _, Eq.trans (World.drewN_drewN _ _ _) (congrArg (World.drewN _) (Nat.add_assoc _ _ _))⟩); obtain ⟨Ao40, co40, eo40⟩ := Kd.R_slice HO_9.out; subst eo40; have q39 : ((ji28) : Int) ≤ ((t626.length : Int) : Int) := od_; obtain ⟨i039, hi039, _, hsz39, _⟩ := info_parts info3; have hroom39 : t626.length ≤ co40 := (Kd.R_reads' HO_9.out).2.1; have hC39 : Kd.C (Kd.int .i64) _ Ao40 t626.length t626 := (Kd.R_reads' HO_9.out).2.2; have hcut39 := cut_to (P := Tryd.prog) 22 3 .i64 Tryd.underlying22 hi039 Ao40 t626.length co40 (ji28) (od_) q39 hroom39; have hr39 := Kd.C_take (m := ((ji28) : Int).toNat) hC39 (by omega); have hy39 : y643.length = ((ji28) : Int).toNat := (by rw [Ny643.out, List.length_take]; omega); rw [← Ny643.out] at hr39; rw [← hy39] at hcut39; have HR646 := Aside0.mk hr39; have HC646 := Aside0.mk (show y643.length ≤ co40 from by omega); clear hr39 hC39 hroom39 hi039 hsz39; have KY39 := Aside0.mk hy39; clear hy39; have KL39 := Aside0.mk (show ((ji28) : Int).toNat ≤ t626.length from by omega); replace q39 := eq_true q39; obtain ⟨Ao41, co41, eo41⟩ := Kd.R_slice HO637.out; subst eo41) | (go_at_call 22; (with_reducible refine (trishawlaw01_same.calls kj10 _ _ t634 _ _ y643 t647 _ ?side1 ?side2 ?side3 ?side4 A35.out).mono ?_); (case side1 => repeat (first | exact (Kd.R_reads' HO637.out).2.2 | (with_reducible refine Kd.C_alloc ?_ _) | (with_reducible refine Kd.C_drewN ?_ _) | (with_reducible refine Kd.C_drew ?_))); (case side2 => exact (Kd.R_reads' HO637.out).2.1); (case side3 => repeat (first | exact (by repeat (first | (with_reducible exact HR646.out) | (with_reducible refine Kd.C_alloc ?_ _) | (with_reducible refine Kd.C_drewN ?_ _) | (with_reducible refine Kd.C_drew ?_) | exact HR646.out)) | (with_reducible refine Kd.C_alloc ?_ _) | (with_reducible refine Kd.C_drewN ?_ _) | (with_reducible refine Kd.C_drew ?_))); (case side4 => exact HC646.out); rintro e w' ⟨rfl, ⟨nd, rfl⟩⟩; (try first | exact ⟨rfl, _, World.drewN_drewN _ _ _⟩ | exact ⟨rfl, _, Eq.trans (World.drewN_drewN _ _ _) (congrArg (World.drewN _) (Nat.add_assoc _ _ _))⟩))); try go_wp2_with (first | (go_at_call 22; (with_reducible refine (trishawlaw01_same.calls kj10 _ _ t630 _ _ y638 true _ ?side1 ?side2 ?side3 ?side4 A31.out).mono ?_); (case side1 => repeat (first | exact (Kd.R_reads' HO633.out).2.2 | (with_reducible refine Kd.C_alloc ?_ _) | (with_reducible refine Kd.C_drewN ?_ _) | (with_reducible refine Kd.C_drew ?_))); (case side2 => exact (Kd.R_reads' HO633.out).2.1); (case side3 => repeat (first | exact (by repeat (first | (with_reducible exact HR641.out) | (with_reducible refine Kd.C_alloc ?_ _) | (with_reducible refine Kd.C_drewN ?_ _) | (with_reducible refine Kd.C_drew ?_) | exact HR641.out)) | (with_reducible refine Kd.C_alloc ?_ _) | (with_reducible refine Kd.C_drewN ?_ _) | (with_reducible refine Kd.C_drew ?_))); (case side4 => exact HC641.out); rintro e w' ⟨rfl, ⟨nd, rfl⟩⟩; (try first | exact ⟨rfl, _, World.drewN_drewN _ _ _⟩ | exact ⟨rfl, _, Eq.trans (World.drewN_drewN _ _ _) (congrArg (World.drewN _) (Nat.add_assoc _ _ _))⟩); obtain ⟨Ao40, co40, eo40⟩ := Kd.R_slice HO_9.out; subst eo40; have q39 : ((ji28) : Int) ≤ ((t626.length : Int) : Int) := od_; obtain ⟨i039, hi039, _, hsz39, _⟩ := info_parts info3; have hroom39 : t626.length ≤ co40 := (Kd.R_reads' HO_9.out).2.1; have hC39 : Kd.C (Kd.int .i64) _ Ao40 t626.length t626 := (Kd.R_reads' HO_9.out).2.2; have hcut39 := cut_to (P := Tryd.prog) 22 3 .i64 Tryd.underlying22 hi039 Ao40 t626.length co40 (ji28) (od_) q39 hroom39; have hr39 := Kd.C_take (m := ((ji28) : Int).toNat) hC39 (by omega); have hy39 : y643.length = ((ji28) : Int).toNat := (by rw [Ny643.out, List.length_take]; omega); rw [← Ny643.out] at hr39; rw [← hy39] at hcut39; have HR646 := Aside0.mk hr39; have HC646 := Aside0.mk (show y643.length ≤ co40 from by omega); clear hr39 hC39 hroom39 hi039 hsz39; have KY39 := Aside0.mk hy39; clear hy39; have KL39 := Aside0.mk (show ((ji28) : Int).toNat ≤ t626.length from by omega); replace q39 := eq_true q39; obtain ⟨Ao41, co41, eo41⟩ := Kd.R_slice HO637.out; subst eo41) | (go_at_call 22; (with_reducible refine (trishawlaw01_same.calls kj10 _ _ t634 _ _ y643 t647 _ ?side1 ?side2 ?side3 ?side4 A35.out).mono ?_); (case side1 => repeat (first | exact (Kd.R_reads' HO637.out).2.2 | (with_reducible refine Kd.C_alloc ?_ _) | (with_reducible refine Kd.C_drewN ?_ _) | (with_reducible refine Kd.C_drew ?_))); (case side2 => exact (Kd.R_reads' HO637.out).2.1); (case side3 => repeat (first | exact (by repeat (first | (with_reducible exact HR646.out) | (with_reducible refine Kd.C_alloc ?_ _) | (with_reducible refine Kd.C_drewN ?_ _) | (with_reducible refine Kd.C_drew ?_) | exact HR646.out)) | (with_reducible refine Kd.C_alloc ?_ _) | (with_reducible refine Kd.C_drewN ?_ _) | (with_reducible refine Kd.C_drew ?_))); (case side4 => exact HC646.out); rintro e w' ⟨rfl, ⟨nd, rfl⟩⟩; (try first | exact ⟨rfl, _, World.drewN_drewN _ _ _⟩ | exact ⟨rfl, _, Eq.trans (World.drewN_drewN _ _ _) (congrArg (World.drewN _) (Nat.add_assoc _ _ _))⟩))))
           (try simp only [← hji28])
           (try simp only [← hji57])
           go_meet
           case rel => exact ⟨_, (!t647), (by first | rfl | (simp; done) | (simp [*]; done)), H', ⟨by have := HJ3.out; have := HJ10.out; first | omega | exact Nat.le_refl _⟩, ⟨by (with_reducible repeat (first | apply Kd.R_alloc | apply Kd.R_drewN | apply Kd.R_drew)); exact Kd.R_mono HO_7.out (fun _ hk => trivial)⟩, ⟨bl_⟩⟩
          ·replace c32 := Bool.eq_false_iff.mpr c32
           subst c32
           have H1 : (trishawlaw01_TurnAround.j2 kj10 l0 t619 t622 true) = some r := by rw [if_neg (show ¬ (false = true) by decide)] at H; exact H
           clear H
           have H := H1
           clear H1
           have H' := Aside0.mk H
           clear H
           obtain ⟨Ao43, co43, eo43⟩ := Kd.R_slice HO_7.out
           subst eo43
           have q42 : ((ji28) : Int) ≤ ((t622.length : Int) : Int) := od_
           obtain ⟨i042, hi042, _, hsz42, _⟩ := info_parts info3
           have hroom42 : t622.length ≤ co43 := (Kd.R_reads' HO_7.out).2.1
           have hC42 : Kd.C (Kd.int .i64) _ Ao43 t622.length t622 := (Kd.R_reads' HO_7.out).2.2
           have hcut42 := cut_to (P := Tryd.prog) 22 3 .i64 Tryd.underlying22 hi042 Ao43 t622.length co43 (ji28) (od_) q42 hroom42
           have hr42 := Kd.C_take (m := ((ji28) : Int).toNat) hC42 (by omega)
           have hy42 : y638.length = ((ji28) : Int).toNat := (by rw [Ny638.out, List.length_take]; omega)
           rw [← Ny638.out] at hr42
           rw [← hy42] at hcut42
           have HR641 := Aside0.mk hr42
           have HC641 := Aside0.mk (show y638.length ≤ co43 from by omega)
           clear hr42 hC42 hroom42 hi042 hsz42
           have KY42 := Aside0.mk hy42
           clear hy42
           have KL42 := Aside0.mk (show ((ji28) : Int).toNat ≤ t622.length from by omega)
           replace q42 := eq_true q42
           obtain ⟨Ao44, co44, eo44⟩ := Kd.R_slice HO633.out
           subst eo44
           go_wp2_with (first | (go_at_call 22; (with_reducible refine (trishawlaw01_same.calls kj10 _ _ t630 _ _ y638 false _ ?side1 ?side2 ?side3 ?side4 A31.out).mono ?_); (case side1 => repeat (first | exact (Kd.R_reads' HO633.out).2.2 | (with_reducible refine Kd.C_alloc ?_ _) | (with_reducible refine Kd.C_drewN ?_ _) | (with_reducible refine Kd.C_drew ?_))); (case side2 => exact (Kd.R_reads' HO633.out).2.1); (case side3 => repeat (first | exact (by repeat (first | (with_reducible exact HR641.out) | (with_reducible refine Kd.C_alloc ?_ _) | (with_reducible refine Kd.C_drewN ?_ _) | (with_reducible refine Kd.C_drew ?_) | exact HR641.out)) | (with_reducible refine Kd.C_alloc ?_ _) | (with_reducible refine Kd.C_drewN ?_ _) | (with_reducible refine Kd.C_drew ?_))); (case side4 => exact HC641.out); rintro e w' ⟨rfl, ⟨nd, rfl⟩⟩; (try first | exact ⟨rfl, _, World.drewN_drewN _ _ _⟩ | exact ⟨rfl, _, Eq.trans (World.drewN_drewN _ _ _) (congrArg (World.drewN _) (Nat.add_assoc _ _ _))⟩)))
           repeat (go_quiet (first | (go_at_call 22; (with_reducible refine (trishawlaw01_same.calls kj10 _ _ t630 _ _ y638 false _ ?side1 ?side2 ?side3 ?side4 A31.out).mono ?_); (case side1 => repeat (first | exact (Kd.R_reads' HO633.out).2.2 | (with_reducible refine Kd.C_alloc ?_ _) | (with_reducible refine Kd.C_drewN ?_ _) | (with_reducible refine Kd.C_drew ?_))); (case side2 => exact (Kd.R_reads' HO633.out).2.1); (case side3 => repeat (first | exact (by repeat (first | (with_reducible exact HR641.out) | (with_reducible refine Kd.C_alloc ?_ _) | (with_reducible refine Kd.C_drewN ?_ _) | (with_reducible refine Kd.C_drew ?_) | exact HR641.out)) | (with_reducible refine Kd.C_alloc ?_ _) | (with_reducible refine Kd.C_drewN ?_ _) | (with_reducible refine Kd.C_drew ?_))); (case side4 => exact HC641.out); rintro e w' ⟨rfl, ⟨nd, rfl⟩⟩; (try first | exact ⟨rfl, _, World.drewN_drewN _ _ _⟩ | exact ⟨rfl, _, Eq.trans (World.drewN_drewN _ _ _) (congrArg (World.drewN _) (Nat.add_assoc _ _ _))⟩))); try go_wp2_with (first | (go_at_call 22; (with_reducible refine (trishawlaw01_same.calls kj10 _ _ t630 _ _ y638 false _ ?side1 ?side2 ?side3 ?side4 A31.out).mono ?_); (case side1 => repeat (first | exact (Kd.R_reads' HO633.out).2.2 | (with_reducible refine Kd.C_alloc ?_ _) | (with_reducible refine Kd.C_drewN ?_ _) | (with_reducible refine Kd.C_drew ?_))); (case side2 => exact (Kd.R_reads' HO633.out).2.1); (case side3 => repeat (first | exact (by repeat (first | (with_reducible exact HR641.out) | (with_reducible refine Kd.C_alloc ?_ _) | (with_reducible refine Kd.C_drewN ?_ _) | (with_reducible refine Kd.C_drew ?_) | exact HR641.out)) | (with_reducible refine Kd.C_alloc ?_ _) | (with_reducible refine Kd.C_drewN ?_ _) | (with_reducible refine Kd.C_drew ?_))); (case side4 => exact HC641.out); rintro e w' ⟨rfl, ⟨nd, rfl⟩⟩; (try first | exact ⟨rfl, _, World.drewN_drewN _ _ _⟩ | exact ⟨rfl, _, Eq.trans (World.drewN_drewN _ _ _) (congrArg (World.drewN _) (Nat.add_assoc _ _ _))⟩))))
           (try simp only [← hji28])
           (try simp only [← hji57])
           go_meet
           case rel => exact ⟨_, (true), (by first | rfl | (simp; done) | (simp [*]; done)), H', ⟨by have := HJ3.out; have := HJ10.out; first | omega | exact Nat.le_refl _⟩, ⟨by (with_reducible repeat (first | apply Kd.R_alloc | apply Kd.R_drewN | apply Kd.R_drew)); exact Kd.R_mono HO_7.out (fun _ hk => trivial)⟩, ⟨bl_⟩⟩
         ·rw [if_neg c27] at H
          have c27b0 : (t635 == 0) = false := beq_eq_false_iff_ne.mpr c27
          have c27b1 : (t635 != 0) = true := bne_iff_ne.mpr c27
          have H' := Aside0.mk H
          clear H
          go_wp2
          repeat (go_quiet (fail); try go_wp2)
          (try simp only [← hji28])
          (try simp only [← hji57])
          go_meet
          case rel => exact ⟨_, (true), (by first | rfl | (simp; done) | (simp [*]; done)), H', ⟨by have := HJ3.out; have := HJ10.out; first | omega | exact Nat.le_refl _⟩, ⟨by (with_reducible repeat (first | apply Kd.R_alloc | apply Kd.R_drewN | apply Kd.R_drew)); exact Kd.R_mono HO_7.out (fun _ hk => trivial)⟩, ⟨bl_⟩⟩
        ·rw [if_neg c26] at H
         have c26b0 : (t631 == 0) = false := beq_eq_false_iff_ne.mpr c26
         have c26b1 : (t631 != 0) = true := bne_iff_ne.mpr c26
         (first | rw [c26b0] | (simp only [i64_w, i32_w]; rw [c26b0]) | skip)
         have H' := Aside0.mk H
         clear H
         go_wp2
         repeat (go_quiet (fail); try go_wp2)
         (try simp only [← hji28])
         (try simp only [← hji57])
         go_meet
         case rel => exact ⟨_, (true), (by first | rfl | (simp; done) | (simp [*]; done)), H', ⟨by have := HJ3.out; have := HJ10.out; first | omega | exact Nat.le_refl _⟩, ⟨by (with_reducible repeat (first | apply Kd.R_alloc | apply Kd.R_drewN | apply Kd.R_drew)); exact Kd.R_mono HO_7.out (fun _ hk => trivial)⟩, ⟨bl_⟩⟩
       case rest =>
        clear HC23
        try clear c1
        try clear c2
        try clear p2
        try clear c3
        try clear q3
        try clear q4
        try clear c5
        try clear c5b0
        try clear c5b1
        try clear c6
        try clear p6
        try clear c9
        try clear c14
        try clear c14b0
        try clear c14b1
        try clear c15
        try clear c15b0
        try clear c15b1
        try clear c16
        try clear c16b0
        try clear c16b1
        try clear c20
        try clear c26
        try clear c26b0
        try clear c26b1
        try clear c27
        try clear c27b0
        try clear c27b1
        try clear c29
        try clear c29b0
        try clear c29b1
        try clear c30
        try clear c30b0
        try clear c30b1
        try clear c32
        try clear c33
        try clear c33b0
        try clear c34
        try clear c34b0
        try clear c34b1
        try clear q36
        try clear q39
        try clear q42
        try clear p2
        try clear q36
        try clear q39
        try clear q42
        obtain ⟨kq, x91_22, rfl, HA, HJ22, HO_7, HB⟩ := hcut
        cases kq with
        | zero => exact absurd HA.out (by simp [trishawlaw01_TurnAround.j2])
        | succ kj22 =>
         have H := HA.out
         clear HA
         simp only [trishawlaw01_TurnAround.j2] at H
         by_cases c45 : x91_22 = true
         ·subst c45
          have H1 : (some false) = some r := by rw [if_pos rfl] at H; exact H
          clear H
          have H := H1
          clear H1
          exact absurd (Option.some.inj (H.trans (congrArg some hr.out))) (by decide)
         ·replace c45 := Bool.eq_false_iff.mpr c45
          subst c45
          have H1 : (if 0 ≤ (l0.length : Int) then (if ((l0.length : Int) : Int).toNat ≤ 35184372088832 then (trishawlaw01_TurnAround.l0 kj22 l0 t619 t622 (List.replicate ((l0.length : Int) : Int).toNat 0) 0) else (none)) else (none)) = some r := by rw [if_neg (show ¬ (false = true) by decide)] at H; exact H
          clear H
          have H := H1
          clear H1
          have c46 : 0 ≤ (l0.length : Int) := fl_ fun c46 => by rw [if_neg c46] at H; exact absurd H (by simp)
          rw [if_pos c46] at H
          have c46b0 := eq_true c46
          have c46b1 : decide (0 ≤ (l0.length : Int)) = true := decide_eq_true c46
          clear c46
          have c47 : ((l0.length : Int) : Int).toNat ≤ 35184372088832 := fl_ fun c47 => by rw [if_neg c47] at H; exact absurd H (by simp)
          rw [if_pos c47] at H
          have c47b0 := eq_true c47
          have c47b1 : decide (((l0.length : Int) : Int).toNat ≤ 35184372088832) = true := decide_eq_true c47
          clear c47
          obtain ⟨y648, hy648⟩ : ∃ y_ : List Int, y_ = (List.replicate ((l0.length : Int) : Int).toNat 0) := ⟨_, rfl⟩
          replace H : (trishawlaw01_TurnAround.l0 kj22 l0 t619 t622 y648 0) = some r := by first | (rw [hy648]; with_reducible exact H) | (have H2_ := (Option.bind_some _ _).symm.trans H; rw [hy648]; with_reducible exact H2_) | (have H2_ := (Option.bind_some _ _).symm.trans H; with_reducible exact H2_) | with_reducible exact H | (rw [hy648]; exact H) | exact H
          have Ny648 := Aside0.mk hy648
          clear hy648
          have H' := Aside0.mk H
          clear H
          go_wp2_with (first | ((with_reducible refine gate_dst (N := 94) rfl ?_); (try (refine gate_guard (by rfl) ?_; dsimp only)); refine Kd.R_make (Kd.int .i64) _ 3 rfl (N := 94) rfl 22 _ _ rfl (l0.length : Int) rfl rfl Tryd.underlying22 (.int .i64 0) 8 info3 rfl (by decide) (by omega) 0 (ok := fun _ => True) (okp := fun _ => True) rfl (fun _ hk => hk) trivial (od_) (Nat.le_trans (Nat.mul_le_mul_right _ (od_ : (l0.length : Int).toNat ≤ 35184372088832)) (by omega)) (Below.refl _ _) (Nat.le_refl _) ?_; intro v649 w48 ho49 hb hg_ hnew_; clear hg_ hnew_; (first | rw [← Ny648.out] at ho49 | (simp only [Int.reduceToNat] at ho49; rw [← Ny648.out] at ho49)); have n0_ := Aside0.mk (Kd.R_elder' (kr_ HO_7.out) (Kd.R_base ho49) hb); have n1_ := Aside0.mk (Kd.R_lower (Kd.R_new' ho49 (Kd.R_lt (kr_ HO_7.out))) (below_size (bl_))); have n2_ := Aside0.mk (below_step (bl_) hb); clear HO_7; clear HB; have HO_7 := n0_; have HO650 := n1_; have HB := n2_; clear n0_ n1_ n2_; clear hb ho49))
          repeat (go_quiet (first | ((with_reducible refine gate_dst (N := 94) rfl ?_); (try (refine gate_guard (by rfl) ?_; dsimp only)); refine Kd.R_make (Kd.int .i64) _ 3 rfl (N := 94) rfl 22 _ _ rfl (l0.length : Int) rfl rfl Tryd.underlying22 (.int .i64 0) 8 info3 rfl (by decide) (by omega) 0 (ok := fun _ => True) (okp := fun _ => True) rfl (fun _ hk => hk) trivial (od_) (Nat.le_trans (Nat.mul_le_mul_right _ (od_ : (l0.length : Int).toNat ≤ 35184372088832)) (by omega)) (Below.refl _ _) (Nat.le_refl _) ?_; intro v649 w48 ho49 hb hg_ hnew_; clear hg_ hnew_; (first | rw [← Ny648.out] at ho49 | (simp only [Int.reduceToNat] at ho49; rw [← Ny648.out] at ho49)); have n0_ := Aside0.mk (Kd.R_elder' (kr_ HO_7.out) (Kd.R_base ho49) hb); have n1_ := Aside0.mk (Kd.R_lower (Kd.R_new' ho49 (Kd.R_lt (kr_ HO_7.out))) (below_size (bl_))); have n2_ := Aside0.mk (below_step (bl_) hb); clear HO_7; clear HB; have HO_7 := n0_; have HO650 := n1_; have HB := n2_; clear n0_ n1_ n2_; clear hb ho49)); try go_wp2_with (first | ((with_reducible refine gate_dst (N := 94) rfl ?_); (try (refine gate_guard (by rfl) ?_; dsimp only)); refine Kd.R_make (Kd.int .i64) _ 3 rfl (N := 94) rfl 22 _ _ rfl (l0.length : Int) rfl rfl Tryd.underlying22 (.int .i64 0) 8 info3 rfl (by decide) (by omega) 0 (ok := fun _ => True) (okp := fun _ => True) rfl (fun _ hk => hk) trivial (od_) (Nat.le_trans (Nat.mul_le_mul_right _ (od_ : (l0.length : Int).toNat ≤ 35184372088832)) (by omega)) (Below.refl _ _) (Nat.le_refl _) ?_; intro v649 w48 ho49 hb hg_ hnew_; clear hg_ hnew_; (first | rw [← Ny648.out] at ho49 | (simp only [Int.reduceToNat] at ho49; rw [← Ny648.out] at ho49)); have n0_ := Aside0.mk (Kd.R_elder' (kr_ HO_7.out) (Kd.R_base ho49) hb); have n1_ := Aside0.mk (Kd.R_lower (Kd.R_new' ho49 (Kd.R_lt (kr_ HO_7.out))) (below_size (bl_))); have n2_ := Aside0.mk (below_step (bl_) hb); clear HO_7; clear HB; have HO_7 := n0_; have HO650 := n1_; have HB := n2_; clear n0_ n1_ n2_; clear hb ho49)))
          go_loopg [15] kj22 (fun kq v15 w' => ∃ (x14_4 : List Int) (x15_4 : Int), v15 = .int .i64 x15_4 ∧ Aside0 (trishawlaw01_TurnAround.l0 kq l0 t619 t622 x14_4 x15_4 = some r) ∧ Aside0 (kq ≤ kj22) ∧ Aside0 (Kd.R (Kd.int .i64) 3 w' w.heap.size (fun k_ => some k_ ≠ (v649 : Value).ownBlock) v624 t622) ∧ Aside0 (Kd.R (Kd.int .i64) 3 w' w.heap.size (fun k_ => some k_ ≠ (v624 : Value).ownBlock) v649 x14_4) ∧ Aside0 (Below w.heap.size w w'))
          case atStart => exact ⟨(y648), (0), (by first | rfl | (simp; done) | (simp [*]; done)), H', ⟨Nat.le_refl _⟩, ⟨by (with_reducible repeat (first | apply Kd.R_alloc | apply Kd.R_drewN | apply Kd.R_drew)); exact Kd.R_mono HO_7.out (fun _ hk => hk.2)⟩, ⟨by (with_reducible repeat (first | apply Kd.R_alloc | apply Kd.R_drewN | apply Kd.R_drew)); exact Kd.R_mono HO650.out (fun _ hk => hk.2)⟩, ⟨bl_⟩⟩
          case round =>
           clear H'
           try clear c1
           try clear c2
           try clear p2
           try clear c3
           try clear q3
           try clear c4
           try clear q4
           try clear c5
           try clear c5b0
           try clear c5b1
           try clear c6
           try clear p6
           try clear c9
           try clear c14
           try clear c14b0
           try clear c14b1
           try clear c15
           try clear c15b0
           try clear c15b1
           try clear c16
           try clear c16b0
           try clear c16b1
           try clear c20
           try clear c26
           try clear c26b0
           try clear c26b1
           try clear c27
           try clear c27b0
           try clear c27b1
           try clear c29
           try clear c29b0
           try clear c29b1
           try clear c30
           try clear c30b0
           try clear c30b1
           try clear c32
           try clear c33
           try clear c33b0
           try clear c34
           try clear c34b0
           try clear c34b1
           try clear q36
           try clear q39
           try clear q42
           try clear c45
           try clear c46
           try clear c46b0
           try clear c46b1
           try clear c47
           try clear c47b0
           try clear c47b1
           try clear p2
           try clear p6
           try clear q3
           try clear q36
           try clear q39
           try clear q4
           try clear q42
           obtain ⟨x14_4, x15_4, rfl, HA, HK4, HO_7, HO_14, HB⟩ := hrel
           cases gk with
           | zero => exact absurd HA.out (by simp [trishawlaw01_TurnAround.l0])
           | succ k4 =>
            have H := HA.out
            clear HA
            simp only [trishawlaw01_TurnAround.l0] at H
            by_cases c50 : x15_4 < (t622.length : Int)
            ·rw [if_pos c50] at H
             have c50b0 : decide (x15_4 < (t622.length : Int)) = true := decide_eq_true c50
             clear c50
             have HC51 := Aside0.mk H
             clear H
             obtain ⟨Ao52, co52, eo52⟩ := Kd.R_slice HO_7.out
             subst eo52
             go_upto_region 17 with (fail)
             repeat (go_quiet (fail); go_upto_region 17 with (fail))
             go_cut [132] (fun v132 wc => ∃ (kq : Nat) (x132_50 : Bool), v132 = .bool x132_50 ∧ Aside0 (trishawlaw01_TurnAround.j4 kq l0 t619 t622 x14_4 x15_4 x132_50 = some r) ∧ Aside0 (kq ≤ k4) ∧ Aside0 (Kd.R (Kd.int .i64) 3 wc w.heap.size (fun k_ => some k_ ≠ (v649 : Value).ownBlock) (.slice Ao52 t622.length co52) t622) ∧ Aside0 (Kd.R (Kd.int .i64) 3 wc w.heap.size (fun k_ => some k_ ≠ ((.slice Ao52 t622.length co52) : Value).ownBlock) v649 x14_4) ∧ Aside0 (Below w.heap.size w wc))
             case first =>
              have H := HC51.out
              clear HC51
              have c53 : 0 ≤ x15_4 := fl_ fun c53 => by rw [if_neg c53] at H; exact absurd H (by simp)
              rw [if_pos c53] at H
              have c53b0 : decide (0 ≤ x15_4) = true := decide_eq_true c53
              clear c53
              (first | rw [c53b0] | (simp only [i64_w, i32_w]; rw [c53b0]) | skip)
              by_cases c54 : (rd t622 x15_4) < 0
              ·rw [if_pos c54] at H
               have c54b0 : decide ((rd t622 x15_4) < 0) = true := decide_eq_true c54
               clear c54
               have H' := Aside0.mk H
               clear H
               have p653 : 0 ≤ (x15_4 : Int) := od_
               have q653 : x15_4 < (t622.length : Int) := od_
               obtain ⟨ad653, e653, hx653_0⟩ := Kd.at_int (Kd.R_reads' HO_7.out).2.2 x15_4 p653 q653
               cases e653
               replace p653 := eq_true p653
               replace q653 := eq_true q653
               go_wp2
               repeat (go_quiet (fail); try go_wp2)
               (try simp only [← hji28])
               (try simp only [← hji57])
               go_meet
               case rel => exact ⟨_, (true), (by first | rfl | (simp; done) | (simp [*]; done)), H', ⟨by have := HJ3.out; have := HJ10.out; have := HJ22.out; have := HK4.out; first | omega | exact Nat.le_refl _⟩, ⟨kr_ HO_7.out⟩, ⟨kr_ HO_14.out⟩, ⟨bl_⟩⟩
              ·rw [if_neg c54] at H
               have c54b0 : decide ((rd t622 x15_4) < 0) = false := decide_eq_false c54
               clear c54
               by_cases c55 : (rd t622 x15_4) ≥ (l0.length : Int)
               ·rw [if_pos c55] at H
                have c55b0 : decide ((l0.length : Int) ≤ (rd t622 x15_4)) = true := decide_eq_true c55
                clear c55
                have H' := Aside0.mk H
                clear H
                have p653 : 0 ≤ (x15_4 : Int) := od_
                have q653 : x15_4 < (t622.length : Int) := od_
                obtain ⟨ad653, e653, hx653_0⟩ := Kd.at_int (Kd.R_reads' HO_7.out).2.2 x15_4 p653 q653
                cases e653
                replace p653 := eq_true p653
                replace q653 := eq_true q653
                have p654 : 0 ≤ (x15_4 : Int) := od_
                have q654 : x15_4 < (t622.length : Int) := od_
                obtain ⟨ad654, e654, hx654_0⟩ := Kd.at_int (Kd.R_reads' HO_7.out).2.2 x15_4 p654 q654
                obtain rfl : ad653 = ad654 := (by injection e654)
                replace p654 := eq_true p654
                replace q654 := eq_true q654
                go_wp2
                repeat (go_quiet (fail); try go_wp2)
                (try simp only [← hji28])
                (try simp only [← hji57])
                go_meet
                case rel => exact ⟨_, (true), (by first | rfl | (simp; done) | (simp [*]; done)), H', ⟨by have := HJ3.out; have := HJ10.out; have := HJ22.out; have := HK4.out; first | omega | exact Nat.le_refl _⟩, ⟨kr_ HO_7.out⟩, ⟨kr_ HO_14.out⟩, ⟨bl_⟩⟩
               ·rw [if_neg c55] at H
                have c55b0 : decide ((l0.length : Int) ≤ (rd t622 x15_4)) = false := decide_eq_false c55
                clear c55
                by_cases c56 : x15_4 ≥ t619
                ·rw [if_pos c56] at H
                 have c56b0 : decide (t619 ≤ x15_4) = true := decide_eq_true c56
                 clear c56
                 obtain ⟨ji57, hji57⟩ : ∃ j_ : Int, (wrap64 (x15_4 - t619)) = j_ := ⟨_, rfl⟩
                 replace H : (if 0 ≤ (ji57) then (if (ji57) < (t622.length : Int) then (trishawlaw01_TurnAround.j4 k4 l0 t619 t622 x14_4 x15_4 ((rd t622 x15_4) != (rd t622 (ji57)))) else (none)) else (none)) = some r := by first | (rw [hji57] at H; exact H) | (simp only [hji57] at H ⊢; exact H)
                 have hji57w : (IntKind.i64.wrap (x15_4 - t619)) = ji57 := (i64_w _).trans hji57
                 have c58 : 0 ≤ (ji57) := fl_ fun c58 => by rw [if_neg c58] at H; exact absurd H (by simp)
                 rw [if_pos c58] at H
                 have c58b0 : decide (0 ≤ (ji57)) = true := decide_eq_true c58
                 clear c58
                 have c59 : (ji57) < (t622.length : Int) := fl_ fun c59 => by rw [if_neg c59] at H; exact absurd H (by simp)
                 rw [if_pos c59] at H
                 have c59b0 : decide ((ji57) < (t622.length : Int)) = true := decide_eq_true c59
                 clear c59
                 have H' := Aside0.mk H
                 clear H
                 have p653 : 0 ≤ (x15_4 : Int) := od_
                 have q653 : x15_4 < (t622.length : Int) := od_
                 obtain ⟨ad653, e653, hx653_0⟩ := Kd.at_int (Kd.R_reads' HO_7.out).2.2 x15_4 p653 q653
                 cases e653
                 replace p653 := eq_true p653
                 replace q653 := eq_true q653
                 have p654 : 0 ≤ (x15_4 : Int) := od_
                 have q654 : x15_4 < (t622.length : Int) := od_
                 obtain ⟨ad654, e654, hx654_0⟩ := Kd.at_int (Kd.R_reads' HO_7.out).2.2 x15_4 p654 q654
                 obtain rfl : ad653 = ad654 := (by injection e654)
                 replace p654 := eq_true p654
                 replace q654 := eq_true q654
                 have p655 : 0 ≤ (x15_4 : Int) := od_
                 have q655 : x15_4 < (t622.length : Int) := od_
                 obtain ⟨ad655, e655, hx655_0⟩ := Kd.at_int (Kd.R_reads' HO_7.out).2.2 x15_4 p655 q655
                 obtain rfl : ad653 = ad655 := (by injection e655)
                 replace p655 := eq_true p655
                 replace q655 := eq_true q655
                 have p656 : 0 ≤ ((ji57) : Int) := od_
                 have q656 : (ji57) < (t622.length : Int) := od_
                 obtain ⟨ad656, e656, hx656_0⟩ := Kd.at_int (Kd.R_reads' HO_7.out).2.2 (ji57) p656 q656
                 obtain rfl : ad653 = ad656 := (by injection e656)
                 replace p656 := eq_true p656
                 replace q656 := eq_true q656
                 go_wp2
                 repeat (go_quiet (fail); try go_wp2)
                 (try simp only [← hji28])
                 (try simp only [← hji57])
                 go_meet
                 case rel => exact ⟨_, (((rd t622 x15_4) != (rd t622 (ji57)))), (by first | rfl | (simp; done) | (simp only [← hji57] <;> (first | rfl | simp)) | (simp [*]; done)), H', ⟨by have := HJ3.out; have := HJ10.out; have := HJ22.out; have := HK4.out; first | omega | exact Nat.le_refl _⟩, ⟨kr_ HO_7.out⟩, ⟨kr_ HO_14.out⟩, ⟨bl_⟩⟩
                ·rw [if_neg c56] at H
                 have c56b0 : decide (t619 ≤ x15_4) = false := decide_eq_false c56
                 clear c56
                 have H' := Aside0.mk H
                 clear H
                 have p653 : 0 ≤ (x15_4 : Int) := od_
                 have q653 : x15_4 < (t622.length : Int) := od_
                 obtain ⟨ad653, e653, hx653_0⟩ := Kd.at_int (Kd.R_reads' HO_7.out).2.2 x15_4 p653 q653
                 cases e653
                 replace p653 := eq_true p653
                 replace q653 := eq_true q653
                 have p654 : 0 ≤ (x15_4 : Int) := od_
                 have q654 : x15_4 < (t622.length : Int) := od_
                 obtain ⟨ad654, e654, hx654_0⟩ := Kd.at_int (Kd.R_reads' HO_7.out).2.2 x15_4 p654 q654
                 obtain rfl : ad653 = ad654 := (by injection e654)
                 replace p654 := eq_true p654
                 replace q654 := eq_true q654
                 go_wp2
                 repeat (go_quiet (fail); try go_wp2)
                 (try simp only [← hji28])
                 (try simp only [← hji57])
                 go_meet
                 case rel => exact ⟨_, (false), (by first | rfl | (simp; done) | (simp [*]; done)), H', ⟨by have := HJ3.out; have := HJ10.out; have := HJ22.out; have := HK4.out; first | omega | exact Nat.le_refl _⟩, ⟨kr_ HO_7.out⟩, ⟨kr_ HO_14.out⟩, ⟨bl_⟩⟩
             case rest =>
              clear HC51
              try clear c1
              try clear c2
              try clear p2
              try clear c3
              try clear q3
              try clear c4
              try clear q4
              try clear c5
              try clear c5b0
              try clear c5b1
              try clear c6
              try clear p6
              try clear q6
              try clear hx6
              try clear c9
              try clear c14
              try clear c14b0
              try clear c14b1
              try clear c15
              try clear c15b0
              try clear c15b1
              try clear c16
              try clear c16b0
              try clear c16b1
              try clear c20
              try clear c26
              try clear c26b0
              try clear c26b1
              try clear c27
              try clear c27b0
              try clear c27b1
              try clear c29
              try clear c29b0
              try clear c29b1
              try clear c30
              try clear c30b0
              try clear c30b1
              try clear c32
              try clear c33
              try clear c33b0
              try clear c34
              try clear c34b0
              try clear c34b1
              try clear q36
              try clear q39
              try clear q42
              try clear c45
              try clear c46
              try clear c46b0
              try clear c46b1
              try clear c47
              try clear c47b0
              try clear c47b1
              try clear c50
              try clear c50b0
              try clear c53
              try clear c53b0
              try clear c54
              try clear c54b0
              try clear c55
              try clear c55b0
              try clear c56
              try clear c56b0
              try clear c58
              try clear c58b0
              try clear c59
              try clear c59b0
              try clear hx653_0
              try clear hx654_0
              try clear hx655_0
              try clear hx656_0
              try clear p2
              try clear p6
              try clear p653
              try clear p654
              try clear p655
              try clear p656
              try clear q3
              try clear q36
              try clear q39
              try clear q4
              try clear q42
              try clear q653
              try clear q654
              try clear q655
              try clear q656
              obtain ⟨kq, x132_50, rfl, HA, HJ50, HO_7, HO_14, HB⟩ := hcut
              cases kq with
              | zero => exact absurd HA.out (by simp [trishawlaw01_TurnAround.j4])
              | succ kj50 =>
               have H := HA.out
               clear HA
               simp only [trishawlaw01_TurnAround.j4] at H
               by_cases c60 : x132_50 = true
               ·subst c60
                have H1 : (some false) = some r := by rw [if_pos rfl] at H; exact H
                clear H
                have H := H1
                clear H1
                exact absurd (Option.some.inj (H.trans (congrArg some hr.out))) (by decide)
               ·replace c60 := Bool.eq_false_iff.mpr c60
                subst c60
                have H1 : (if x15_4 < t619 then (if 0 ≤ x15_4 then (if x15_4 < (t622.length : Int) then (if 0 ≤ (rd t622 x15_4) then (if (rd t622 x15_4) < (x14_4.length : Int) then (trishawlaw01_TurnAround.l0 kj50 l0 t619 t622 (x14_4.set ((rd t622 x15_4) : Int).toNat (wrap64 ((rd x14_4 (rd t622 x15_4)) + 1))) (wrap64 (x15_4 + 1))) else (none)) else (none)) else (none)) else (none)) else (trishawlaw01_TurnAround.l0 kj50 l0 t619 t622 x14_4 (wrap64 (x15_4 + 1)))) = some r := by rw [if_neg (show ¬ (false = true) by decide)] at H; exact H
                clear H
                have H := H1
                clear H1
                by_cases c61 : x15_4 < t619
                ·rw [if_pos c61] at H
                 have c61b0 : decide (x15_4 < t619) = true := decide_eq_true c61
                 clear c61
                 have c62 : 0 ≤ x15_4 := fl_ fun c62 => by rw [if_neg c62] at H; exact absurd H (by simp)
                 rw [if_pos c62] at H
                 have c62b0 : decide (0 ≤ x15_4) = true := decide_eq_true c62
                 clear c62
                 have c63 : x15_4 < (t622.length : Int) := fl_ fun c63 => by rw [if_neg c63] at H; exact absurd H (by simp)
                 rw [if_pos c63] at H
                 have c63b0 : decide (x15_4 < (t622.length : Int)) = true := decide_eq_true c63
                 clear c63
                 have c64 : 0 ≤ (rd t622 x15_4) := fl_ fun c64 => by rw [if_neg c64] at H; exact absurd H (by simp)
                 rw [if_pos c64] at H
                 have c64b0 : decide (0 ≤ (rd t622 x15_4)) = true := decide_eq_true c64
                 clear c64
                 have c65 : (rd t622 x15_4) < (x14_4.length : Int) := fl_ fun c65 => by rw [if_neg c65] at H; exact absurd H (by simp)
                 rw [if_pos c65] at H
                 have c65b0 : decide ((rd t622 x15_4) < (x14_4.length : Int)) = true := decide_eq_true c65
                 clear c65
                 obtain ⟨y659, hy659⟩ : ∃ y_ : List Int, y_ = (x14_4.set ((rd t622 x15_4) : Int).toNat (wrap64 ((rd x14_4 (rd t622 x15_4)) + 1))) := ⟨_, rfl⟩
                 replace H : (trishawlaw01_TurnAround.l0 kj50 l0 t619 t622 y659 (wrap64 (x15_4 + 1))) = some r := by first | (rw [hy659]; with_reducible exact H) | (have H2_ := (Option.bind_some _ _).symm.trans H; rw [hy659]; with_reducible exact H2_) | (have H2_ := (Option.bind_some _ _).symm.trans H; with_reducible exact H2_) | with_reducible exact H | (rw [hy659]; exact H) | exact H
                 have Ny659 := Aside0.mk hy659
                 clear hy659
                 have H' := Aside0.mk H
                 clear H
                 have p657 : 0 ≤ (x15_4 : Int) := od_
                 have q657 : x15_4 < (t622.length : Int) := od_
                 obtain ⟨ad657, e657, hx657_0⟩ := Kd.at_int (Kd.R_reads' HO_7.out).2.2 x15_4 p657 q657
                 cases e657
                 replace p657 := eq_true p657
                 replace q657 := eq_true q657
                 obtain ⟨Ao67, co67, eo67⟩ := Kd.R_slice HO_14.out
                 subst eo67
                 have p658 : 0 ≤ ((rd t622 x15_4) : Int) := od_
                 have q658 : (rd t622 x15_4) < (x14_4.length : Int) := od_
                 obtain ⟨ad658, e658, hx658_0⟩ := Kd.at_int (Kd.R_reads' HO_14.out).2.2 (rd t622 x15_4) p658 q658
                 cases e658
                 replace p658 := eq_true p658
                 replace q658 := eq_true q658
                 have p66 : 0 ≤ ((rd t622 x15_4) : Int) := od_
                 have q66 : ((rd t622 x15_4) : Int) < ((x14_4.length : Int) : Int) := od_
                 obtain ⟨go66, co66, eo66, gb66, gl66, cl66, HG66⟩ := Kd.R_form HO_14.out (by omega)
                 (first | cases eo66 | (injection eo66 with ea_ en_ ec_; (first | subst ea_ | (injection ea_ with ea_; subst ea_)); subst ec_; clear en_))
                 have GB66 := Aside0.mk gb66
                 have GG66 := Aside0.mk HG66
                 clear gb66 gl66 HG66
                 (first | simp only [add_plain] at hx658_0 | skip)
                 obtain ⟨hx66_0, hf66_0⟩ := Kd.R_celln 0 HO_14.out ((rd t622 x15_4) : Int) p66 q66
                 replace p66 := eq_true p66
                 replace q66 := eq_true q66
                 have HP68 := Kd.R_putg HO_14.out ((rd t622 x15_4) : Int) (wrap64 ((rd x14_4 (rd t622 x15_4)) + 1))
                 go_wp2_with (first | ((with_reducible refine gate_store (t := 3) (p := 144) rfl ?_); (try (rw [drewN_self wc]; generalize hq_ : World.drewN wc _ = wc; have n0_ := Aside0.mk (Kd.R_at hq_ HO_7.out); have n1_ := Aside0.mk (Kd.R_at hq_ HO_14.out); have n2_ := Aside0.mk (below_at hq_ HB.out); clear hq_ HO_7 HO_14 HB; have HO_7 := n0_; have HO_14 := n1_; have HB := n2_; clear n0_ n1_ n2_; (try (have HP68 := Kd.R_putg HO_14.out ((rd t622 x15_4) : Int) (wrap64 ((rd x14_4 (rd t622 x15_4)) + 1)))))); refine store_event (t := 3) (p := 144) (v := ?vo_w69) (w1 := (wc.setCell ⟨go66, ((rd t622 x15_4) : Int).toNat, none⟩ (.int .i64 (wrap64 ((rd x14_4 (rd t622 x15_4)) + 1))))) ?hg ?ho ?hn ?hr ?_; (case ho => rfl); (case hg => rfl); (case hn => rfl); (case hr => first | (go_simp; done) | (go_simp; rfl)); intro w69 hw; have hg : wc.grownBy w69 (some go66) := (by rw [hw]; exact HP68.2); have hp_ : Kd.R (Kd.int .i64) 3 w69 w.heap.size (fun k_ => some k_ ≠ (.slice (some ad657) t622.length co52 : Value).ownBlock) (.slice (some ⟨go66, 0, none⟩) x14_4.length co67) y659 := (by rw [hw, Ny659.out]; exact HP68.1); clear HP68; have n0_ := Aside0.mk (Kd.R_after (v := (.slice (some ⟨go66, 0, none⟩) x14_4.length co67)) (v1 := (.slice (some ⟨go66, 0, none⟩) x14_4.length co67)) (ok := (fun _ => True)) (by (with_reducible repeat (first | apply Kd.R_alloc | apply Kd.R_drewN | apply Kd.R_drew)); exact Kd.R_mono HO_7.out (fun _ hk => ⟨trivial, hk⟩)) hg (.inl rfl)); have n1_ := Aside0.mk (hp_); have n2_ := Aside0.mk ((by rw [hw]; exact below_set (HB.out) GB66.out : Below w.heap.size w w69)); clear HO_7; clear HO_14; clear HB; have HO_7 := n0_; have HO_14 := n1_; have HB := n2_; clear n0_ n1_ n2_; clear hg hw hp_))
                 repeat (go_quiet (first | ((with_reducible refine gate_store (t := 3) (p := 144) rfl ?_); (try (rw [drewN_self wc]; generalize hq_ : World.drewN wc _ = wc; have n0_ := Aside0.mk (Kd.R_at hq_ HO_7.out); have n1_ := Aside0.mk (Kd.R_at hq_ HO_14.out); have n2_ := Aside0.mk (below_at hq_ HB.out); clear hq_ HO_7 HO_14 HB; have HO_7 := n0_; have HO_14 := n1_; have HB := n2_; clear n0_ n1_ n2_; (try (have HP68 := Kd.R_putg HO_14.out ((rd t622 x15_4) : Int) (wrap64 ((rd x14_4 (rd t622 x15_4)) + 1)))))); refine store_event (t := 3) (p := 144) (v := ?vo_w69) (w1 := (wc.setCell ⟨go66, ((rd t622 x15_4) : Int).toNat, none⟩ (.int .i64 (wrap64 ((rd x14_4 (rd t622 x15_4)) + 1))))) ?hg ?ho ?hn ?hr ?_; (case ho => rfl); (case hg => rfl); (case hn => rfl); (case hr => first | (go_simp; done) | (go_simp; rfl)); intro w69 hw; have hg : wc.grownBy w69 (some go66) := (by rw [hw]; exact HP68.2); have hp_ : Kd.R (Kd.int .i64) 3 w69 w.heap.size (fun k_ => some k_ ≠ (.slice (some ad657) t622.length co52 : Value).ownBlock) (.slice (some ⟨go66, 0, none⟩) x14_4.length co67) y659 := (by rw [hw, Ny659.out]; exact HP68.1); clear HP68; have n0_ := Aside0.mk (Kd.R_after (v := (.slice (some ⟨go66, 0, none⟩) x14_4.length co67)) (v1 := (.slice (some ⟨go66, 0, none⟩) x14_4.length co67)) (ok := (fun _ => True)) (by (with_reducible repeat (first | apply Kd.R_alloc | apply Kd.R_drewN | apply Kd.R_drew)); exact Kd.R_mono HO_7.out (fun _ hk => ⟨trivial, hk⟩)) hg (.inl rfl)); have n1_ := Aside0.mk (hp_); have n2_ := Aside0.mk ((by rw [hw]; exact below_set (HB.out) GB66.out : Below w.heap.size w w69)); clear HO_7; clear HO_14; clear HB; have HO_7 := n0_; have HO_14 := n1_; have HB := n2_; clear n0_ n1_ n2_; clear hg hw hp_)); try go_wp2_with (first | ((with_reducible refine gate_store (t := 3) (p := 144) rfl ?_); (try (rw [drewN_self wc]; generalize hq_ : World.drewN wc _ = wc; have n0_ := Aside0.mk (Kd.R_at hq_ HO_7.out); have n1_ := Aside0.mk (Kd.R_at hq_ HO_14.out); have n2_ := Aside0.mk (below_at hq_ HB.out); clear hq_ HO_7 HO_14 HB; have HO_7 := n0_; have HO_14 := n1_; have HB := n2_; clear n0_ n1_ n2_; (try (have HP68 := Kd.R_putg HO_14.out ((rd t622 x15_4) : Int) (wrap64 ((rd x14_4 (rd t622 x15_4)) + 1)))))); refine store_event (t := 3) (p := 144) (v := ?vo_w69) (w1 := (wc.setCell ⟨go66, ((rd t622 x15_4) : Int).toNat, none⟩ (.int .i64 (wrap64 ((rd x14_4 (rd t622 x15_4)) + 1))))) ?hg ?ho ?hn ?hr ?_; (case ho => rfl); (case hg => rfl); (case hn => rfl); (case hr => first | (go_simp; done) | (go_simp; rfl)); intro w69 hw; have hg : wc.grownBy w69 (some go66) := (by rw [hw]; exact HP68.2); have hp_ : Kd.R (Kd.int .i64) 3 w69 w.heap.size (fun k_ => some k_ ≠ (.slice (some ad657) t622.length co52 : Value).ownBlock) (.slice (some ⟨go66, 0, none⟩) x14_4.length co67) y659 := (by rw [hw, Ny659.out]; exact HP68.1); clear HP68; have n0_ := Aside0.mk (Kd.R_after (v := (.slice (some ⟨go66, 0, none⟩) x14_4.length co67)) (v1 := (.slice (some ⟨go66, 0, none⟩) x14_4.length co67)) (ok := (fun _ => True)) (by (with_reducible repeat (first | apply Kd.R_alloc | apply Kd.R_drewN | apply Kd.R_drew)); exact Kd.R_mono HO_7.out (fun _ hk => ⟨trivial, hk⟩)) hg (.inl rfl)); have n1_ := Aside0.mk (hp_); have n2_ := Aside0.mk ((by rw [hw]; exact below_set (HB.out) GB66.out : Below w.heap.size w w69)); clear HO_7; clear HO_14; clear HB; have HO_7 := n0_; have HO_14 := n1_; have HB := n2_; clear n0_ n1_ n2_; clear hg hw hp_)))
                 go_roundg kj50
                 case measure => have := HJ3.out; have := HJ10.out; have := HJ22.out; have := HK4.out; have := HJ50.out; omega
                 case rel => exact ⟨(y659), (wrap64 (x15_4 + 1)), (by first | rfl | (simp; done) | (simp [*]; done)), H', ⟨by have := HJ3.out; have := HJ10.out; have := HJ22.out; have := HK4.out; have := HJ50.out; omega⟩, ⟨by (with_reducible repeat (first | apply Kd.R_alloc | apply Kd.R_drewN | apply Kd.R_drew)); exact Kd.R_mono HO_7.out (fun _ hk => hk.2)⟩, ⟨kr_ HO_14.out⟩, ⟨bl_⟩⟩
                ·rw [if_neg c61] at H
                 have c61b0 : decide (x15_4 < t619) = false := decide_eq_false c61
                 clear c61
                 have H' := Aside0.mk H
                 clear H
                 go_wp2
                 repeat (go_quiet (fail); try go_wp2)
                 go_roundg kj50
                 case measure => have := HJ3.out; have := HJ10.out; have := HJ22.out; have := HK4.out; have := HJ50.out; omega
                 case rel => exact ⟨(x14_4), (wrap64 (x15_4 + 1)), (by first | rfl | (simp; done) | (simp [*]; done)), H', ⟨by have := HJ3.out; have := HJ10.out; have := HJ22.out; have := HK4.out; have := HJ50.out; omega⟩, ⟨kr_ HO_7.out⟩, ⟨kr_ HO_14.out⟩, ⟨bl_⟩⟩
            ·rw [if_neg c50] at H
             have c50b0 : decide (x15_4 < (t622.length : Int)) = false := decide_eq_false c50
             clear c50
             replace H := Option.bind_eq_some_iff.mp H
             obtain ⟨t651, A700, H⟩ := H
             replace H : (if t651 = true then ((trishawlaw01_alive.f k4).bind fun t652 => (some t652)) else (some false)) = some r := H
             have A70 := Aside0.mk A700
             clear A700
             by_cases c71 : t651 = true
             ·subst c71
              have H1 : ((trishawlaw01_alive.f k4).bind fun t652 => (some t652)) = some r := by rw [if_pos rfl] at H; exact H
              clear H
              have H := H1
              clear H1
              replace H := Option.bind_eq_some_iff.mp H
              obtain ⟨t652, A720, H⟩ := H
              replace H : (some t652) = some r := H
              have A72 := Aside0.mk A720
              clear A720
              obtain rfl := Option.some.inj H
              obtain ⟨Ao73, co73, eo73⟩ := Kd.R_slice HO_7.out
              subst eo73
              obtain ⟨Ao74, co74, eo74⟩ := Kd.R_slice HO_14.out
              subst eo74
              go_wp2_with (first | (go_at_call 22; (with_reducible refine (trishawlaw01_same.calls k4 _ _ x14_4 _ _ l0 true _ ?side1 ?side2 ?side3 ?side4 A70.out).mono ?_); (case side1 => repeat (first | exact (Kd.R_reads' HO_14.out).2.2 | (with_reducible refine Kd.C_alloc ?_ _) | (with_reducible refine Kd.C_drewN ?_ _) | (with_reducible refine Kd.C_drew ?_))); (case side2 => exact (Kd.R_reads' HO_14.out).2.1); (case side3 => repeat (first | exact (Kd.C_below HR0.out HB.out) | (with_reducible refine Kd.C_alloc ?_ _) | (with_reducible refine Kd.C_drewN ?_ _) | (with_reducible refine Kd.C_drew ?_))); (case side4 => exact HC0.out); rintro e w' ⟨rfl, ⟨nd, rfl⟩⟩; (try first | exact ⟨rfl, _, World.drewN_drewN _ _ _⟩ | exact ⟨rfl, _, Eq.trans (World.drewN_drewN _ _ _) (congrArg (World.drewN _) (Nat.add_assoc _ _ _))⟩)) | (go_at_call 17; (with_reducible refine (trishawlaw01_alive.calls k4  t652 _ A72.out (HN.out.of (bl_))).mono ?_); rintro e w75 ⟨rfl, hb⟩; have n0_ := Aside0.mk (Kd.R_below (kr_ HO_7.out) hb); have n1_ := Aside0.mk (Kd.R_below (kr_ HO_14.out) hb); have n2_ := Aside0.mk (below_step (bl_) hb); clear HO_7; clear HO_14; clear HB; have HO_7 := n0_; have HO_14 := n1_; have HB := n2_; clear n0_ n1_ n2_; (try clear hb); (try clear hb2); (try clear hk); (try clear hi)))
              repeat (go_quiet (first | (go_at_call 22; (with_reducible refine (trishawlaw01_same.calls k4 _ _ x14_4 _ _ l0 true _ ?side1 ?side2 ?side3 ?side4 A70.out).mono ?_); (case side1 => repeat (first | exact (Kd.R_reads' HO_14.out).2.2 | (with_reducible refine Kd.C_alloc ?_ _) | (with_reducible refine Kd.C_drewN ?_ _) | (with_reducible refine Kd.C_drew ?_))); (case side2 => exact (Kd.R_reads' HO_14.out).2.1); (case side3 => repeat (first | exact (Kd.C_below HR0.out HB.out) | (with_reducible refine Kd.C_alloc ?_ _) | (with_reducible refine Kd.C_drewN ?_ _) | (with_reducible refine Kd.C_drew ?_))); (case side4 => exact HC0.out); rintro e w' ⟨rfl, ⟨nd, rfl⟩⟩; (try first | exact ⟨rfl, _, World.drewN_drewN _ _ _⟩ | exact ⟨rfl, _, Eq.trans (World.drewN_drewN _ _ _) (congrArg (World.drewN _) (Nat.add_assoc _ _ _))⟩)) | (go_at_call 17; (with_reducible refine (trishawlaw01_alive.calls k4  t652 _ A72.out (HN.out.of (bl_))).mono ?_); rintro e w75 ⟨rfl, hb⟩; have n0_ := Aside0.mk (Kd.R_below (kr_ HO_7.out) hb); have n1_ := Aside0.mk (Kd.R_below (kr_ HO_14.out) hb); have n2_ := Aside0.mk (below_step (bl_) hb); clear HO_7; clear HO_14; clear HB; have HO_7 := n0_; have HO_14 := n1_; have HB := n2_; clear n0_ n1_ n2_; (try clear hb); (try clear hb2); (try clear hk); (try clear hi))); try go_wp2_with (first | (go_at_call 22; (with_reducible refine (trishawlaw01_same.calls k4 _ _ x14_4 _ _ l0 true _ ?side1 ?side2 ?side3 ?side4 A70.out).mono ?_); (case side1 => repeat (first | exact (Kd.R_reads' HO_14.out).2.2 | (with_reducible refine Kd.C_alloc ?_ _) | (with_reducible refine Kd.C_drewN ?_ _) | (with_reducible refine Kd.C_drew ?_))); (case side2 => exact (Kd.R_reads' HO_14.out).2.1); (case side3 => repeat (first | exact (Kd.C_below HR0.out HB.out) | (with_reducible refine Kd.C_alloc ?_ _) | (with_reducible refine Kd.C_drewN ?_ _) | (with_reducible refine Kd.C_drew ?_))); (case side4 => exact HC0.out); rintro e w' ⟨rfl, ⟨nd, rfl⟩⟩; (try first | exact ⟨rfl, _, World.drewN_drewN _ _ _⟩ | exact ⟨rfl, _, Eq.trans (World.drewN_drewN _ _ _) (congrArg (World.drewN _) (Nat.add_assoc _ _ _))⟩)) | (go_at_call 17; (with_reducible refine (trishawlaw01_alive.calls k4  t652 _ A72.out (HN.out.of (bl_))).mono ?_); rintro e w75 ⟨rfl, hb⟩; have n0_ := Aside0.mk (Kd.R_below (kr_ HO_7.out) hb); have n1_ := Aside0.mk (Kd.R_below (kr_ HO_14.out) hb); have n2_ := Aside0.mk (below_step (bl_) hb); clear HO_7; clear HO_14; clear HB; have HO_7 := n0_; have HO_14 := n1_; have HB := n2_; clear n0_ n1_ n2_; (try clear hb); (try clear hb2); (try clear hk); (try clear hi))))
              go_ret
              exact ⟨by first | rfl | (simp [errW_none, errW_some] <;> rfl) | (simp [*, errW_none, errW_some] <;> rfl), bl_⟩
             ·replace c71 := Bool.eq_false_iff.mpr c71
              subst c71
              have H1 : (some false) = some r := by rw [if_neg (show ¬ (false = true) by decide)] at H; exact H
              clear H
              have H := H1
              clear H1
              exact absurd (Option.some.inj (H.trans (congrArg some hr.out))) (by decide)

/-- THE ONE PURE STATEMENT of trishawlaw01_TurnAround: yours. -/
def trishawlaw01_TurnAround.Pure : Prop := ∀ (l0 : List Int) (a1 : Int), l0.length ≤ maxLen → l0.length * 8 ≤ 140737488351232 → (∀ x ∈ l0, (Lit.int .i64 x).wf = true) → (Lit.int .u16 a1).wf = true → ∃ k, trishawlaw01_TurnAround.f k l0 a1 = some true
theorem trishawlaw01_TurnAround.walk (P : trishawlaw01_TurnAround.Pure) (a0 : Option Addr) (len0 cap0 : Nat) (z0 : List Int) (a1 : Int) (w : World) (w0 : (a0 = none ∧ len0 = 0 ∧ cap0 = 0 ∧ z0 = []) ∨ ∃ x, a0 = some x ∧ len0 ≤ cap0 ∧ cap0 ≤ maxLen ∧ z0.length = cap0 ∧ (∀ i, i < z0.length → w.cell? (x.add i) = some (.int .i64 (z0.getD i 0))) ∧ ∀ n ∈ z0, (Lit.int .i64 n).wf = true) (y0 : len0 * 8 ≤ 140737488351232) (w1 : (Lit.int .u16 a1).wf = true) (hN0 : NoneLaid w) :
    Calls Tryd.prog 9 #[.slice a0 len0 cap0, .int .u16 a1] w fun e w' => e = .returned (.bool true) ∧ Below w.heap.size w w' := by
 obtain ⟨l0, rfl, hr0, hm0, hw0, hc0⟩ := ReadsInt.ofRowC w0
 obtain ⟨k, h⟩ := P l0 a1 hm0 y0 hw0 w1
 refine (trishawlaw01_TurnAround.calls k _ _ l0 a1 true w (Kd.C_of_reads (d := (0 : Int)) (h1 := fun _ => rfl) hr0) hc0 h hN0 rfl).mono ?_
 rintro e w' ⟨rfl, hd⟩
 exact ⟨rfl, hd⟩

end Go.Proofs.YtgobffgogmnmpaaDoor.P
