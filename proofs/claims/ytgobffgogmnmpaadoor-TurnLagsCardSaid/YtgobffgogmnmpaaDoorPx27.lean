-- Written by wip/tools/myprint.py of this session's repo, over the kit's printer and hand texts.
import Derived.Test.YtgobffgogmnmpaaDoorPx0
import Derived.Test.YtgobffgogmnmpaaDoorPre
import Derived.Test.YtgobffgogmnmpaaDoorPx4
import Derived.Test.YtgobffgogmnmpaaDoorPx10
import Derived.Test.YtgobffgogmnmpaaDoorPx23
namespace Go.Proofs.YtgobffgogmnmpaaDoor.P
open Go.RowKit Go.Proofs.YtgobffgogmnmpaaDoorW.PrintWords Go.Proofs.YtgobffgogmnmpaaDoorW.PrintLast Go.Proofs.YtgobffgogmnmpaaDoorW.PrintMore
attribute [local go_sem] max2_int min2_int max_two min_two max_three min_three max_four min_four   -- for this text's walks alone
set_option linter.unusedVariables false
set_option linter.unusedSimpArgs false

/-! ### trishawlaw01_TurnLags: function 10 -/
mutual
def trishawlaw01_TurnLags.j0 : Nat → List Int → Int → Int → Bool → Option (Bool)
  | 0, _, _, _, _ => none
  | k + 1, x0, x1, x5, x26 => if x26 = true then ((trishawlaw01_alive.f k).bind fun t662 => (some t662)) else ((turn_Greedy.f k x0 (Int.tmod (wrap64 (x1)) 401)).bind fun bt663 => (if bt663.2 = 0 then (trishawlaw01_TurnLags.j1 k x0 x5 bt663.1 ((bt663.1.length : Int) != (Int.tmod (wrap64 (x1)) 401))) else (trishawlaw01_TurnLags.j1 k x0 x5 bt663.1 true)))
def trishawlaw01_TurnLags.j1 : Nat → List Int → Int → List Int → Bool → Option (Bool)
  | 0, _, _, _, _ => none
  | k + 1, x0, x5, x7, x45 => if x45 = true then (some false) else (if 0 ≤ (x0.length : Int) then (if ((x0.length : Int) : Int).toNat ≤ 35184372088832 then (trishawlaw01_TurnLags.l0 k x0 x5 x7 (List.replicate ((x0.length : Int) : Int).toNat 0) 1) else (none)) else (none))
def trishawlaw01_TurnLags.l0 : Nat → List Int → Int → List Int → List Int → Int → Option (Bool)
  | 0, _, _, _, _, _ => none
  | k + 1, x0, x5, x7, x9, x10 => if x10 ≤ (x7.length : Int) then (if 0 ≤ (wrap64 (x10 - 1)) then (if (wrap64 (x10 - 1)) < (x7.length : Int) then (if (rd x7 (wrap64 (x10 - 1))) < 0 then (trishawlaw01_TurnLags.j3 k x0 x5 x7 x9 x10 (rd x7 (wrap64 (x10 - 1))) true) else (trishawlaw01_TurnLags.j3 k x0 x5 x7 x9 x10 (rd x7 (wrap64 (x10 - 1))) (decide ((rd x7 (wrap64 (x10 - 1))) ≥ (x0.length : Int))))) else (none)) else (none)) else ((trishawlaw01_alive.f k).bind fun t670 => (some t670))
def trishawlaw01_TurnLags.j3 : Nat → List Int → Int → List Int → List Int → Int → Int → Bool → Option (Bool)
  | 0, _, _, _, _, _, _, _ => none
  | k + 1, x0, x5, x7, x9, x10, x11, x67 => if x67 = true then (some false) else (trishawlaw01_TurnLags.l1 k x0 x5 x7 x9 x10 x11 0)
def trishawlaw01_TurnLags.l1 : Nat → List Int → Int → List Int → List Int → Int → Int → Int → Option (Bool)
  | 0, _, _, _, _, _, _, _ => none
  | k + 1, x0, x5, x7, x9, x10, x11, x12 => if x12 < (x0.length : Int) then (if 0 ≤ x12 then (if x12 < (x9.length : Int) then (if 0 ≤ x11 then (if x11 < (x0.length : Int) then (if x11 < (x9.length : Int) then (if (wrap64 ((wrap64 (x10 * (rd x0 x12))) - (wrap64 ((rd x9 x12) * x5)))) > (wrap64 ((wrap64 (x10 * (rd x0 x11))) - (wrap64 ((rd x9 x11) * x5)))) then (some false) else (if (wrap64 ((wrap64 (x10 * (rd x0 x12))) - (wrap64 ((rd x9 x12) * x5)))) = (wrap64 ((wrap64 (x10 * (rd x0 x11))) - (wrap64 ((rd x9 x11) * x5)))) then (if x12 < x11 then (some false) else (trishawlaw01_TurnLags.l1 k x0 x5 x7 x9 x10 x11 (wrap64 (x12 + 1)))) else (trishawlaw01_TurnLags.l1 k x0 x5 x7 x9 x10 x11 (wrap64 (x12 + 1))))) else (none)) else (none)) else (none)) else (none)) else (none)) else (if 0 ≤ x11 then (if x11 < (x9.length : Int) then (trishawlaw01_TurnLags.l0 k x0 x5 x7 (x9.set (x11 : Int).toNat (wrap64 ((rd x9 x11) + 1))) (wrap64 (x10 + 1))) else (none)) else (none))
end
def trishawlaw01_TurnLags.f (k : Nat) (l0 : List Int) (a1 : Int) : Option (Bool) := (trishawref01_Shares.f k l0).bind fun bt660 => (if (l0.length : Int) > 30 then (trishawlaw01_TurnLags.j0 k l0 a1 bt660.1 true) else (trishawlaw01_TurnLags.j0 k l0 a1 bt660.1 (bt660.2 != 0)))
theorem trishawlaw01_TurnLags.mono_l : ∀ k, (∀ y0 y1 y2 y3, LeO (trishawlaw01_TurnLags.j0 k y0 y1 y2 y3) (trishawlaw01_TurnLags.j0 (k + 1) y0 y1 y2 y3)) ∧ (∀ y0 y1 y2 y3, LeO (trishawlaw01_TurnLags.j1 k y0 y1 y2 y3) (trishawlaw01_TurnLags.j1 (k + 1) y0 y1 y2 y3)) ∧ (∀ y0 y1 y2 y3 y4, LeO (trishawlaw01_TurnLags.l0 k y0 y1 y2 y3 y4) (trishawlaw01_TurnLags.l0 (k + 1) y0 y1 y2 y3 y4)) ∧ (∀ y0 y1 y2 y3 y4 y5 y6, LeO (trishawlaw01_TurnLags.j3 k y0 y1 y2 y3 y4 y5 y6) (trishawlaw01_TurnLags.j3 (k + 1) y0 y1 y2 y3 y4 y5 y6)) ∧ (∀ y0 y1 y2 y3 y4 y5 y6, LeO (trishawlaw01_TurnLags.l1 k y0 y1 y2 y3 y4 y5 y6) (trishawlaw01_TurnLags.l1 (k + 1) y0 y1 y2 y3 y4 y5 y6))
  | 0 => ⟨fun _ _ _ _ r h => by simp [trishawlaw01_TurnLags.j0] at h, fun _ _ _ _ r h => by simp [trishawlaw01_TurnLags.j1] at h, fun _ _ _ _ _ r h => by simp [trishawlaw01_TurnLags.l0] at h, fun _ _ _ _ _ _ _ r h => by simp [trishawlaw01_TurnLags.j3] at h, fun _ _ _ _ _ _ _ r h => by simp [trishawlaw01_TurnLags.l1] at h⟩
  | k + 1 => by
    obtain ⟨ih0, ih1, ih2, ih3, ih4⟩ := trishawlaw01_TurnLags.mono_l k
    refine ⟨?_, ?_, ?_, ?_, ?_⟩
    · intro y0 y1 y2 y3
      unfold trishawlaw01_TurnLags.j0
      repeat' first
      | (with_reducible exact ih0 _ _ _ _)
      | (with_reducible exact ih1 _ _ _ _)
      | (with_reducible exact ih2 _ _ _ _ _)
      | (with_reducible exact ih3 _ _ _ _ _ _ _)
      | (with_reducible exact ih4 _ _ _ _ _ _ _)
      | (with_reducible exact trishawlaw01_alive.mono _)
      | (with_reducible exact trishawref01_Shares.mono _ _)
      | (with_reducible exact turn_Greedy.mono _ _ _)
      | (with_reducible exact LeO.refl _)
      | (with_reducible exact LeO.none _)
      | (with_reducible refine LeO.ite ?_ ?_)
      | (with_reducible refine LeO.bind ?_ (fun _ => ?_))
      | exact ih0 _ _ _ _
      | exact ih1 _ _ _ _
      | exact ih2 _ _ _ _ _
      | exact ih3 _ _ _ _ _ _ _
      | exact ih4 _ _ _ _ _ _ _
      | exact trishawlaw01_alive.mono _
      | exact trishawref01_Shares.mono _ _
      | exact turn_Greedy.mono _ _ _
      | exact LeO.none _
      | refine LeO.ite ?_ ?_
      | refine LeO.bind ?_ (fun _ => ?_)
    · intro y0 y1 y2 y3
      unfold trishawlaw01_TurnLags.j1
      repeat' first
      | (with_reducible exact ih0 _ _ _ _)
      | (with_reducible exact ih1 _ _ _ _)
      | (with_reducible exact ih2 _ _ _ _ _)
      | (with_reducible exact ih3 _ _ _ _ _ _ _)
      | (with_reducible exact ih4 _ _ _ _ _ _ _)
      | (with_reducible exact trishawlaw01_alive.mono _)
      | (with_reducible exact trishawref01_Shares.mono _ _)
      | (with_reducible exact turn_Greedy.mono _ _ _)
      | (with_reducible exact LeO.refl _)
      | (with_reducible exact LeO.none _)
      | (with_reducible refine LeO.ite ?_ ?_)
      | (with_reducible refine LeO.bind ?_ (fun _ => ?_))
      | exact ih0 _ _ _ _
      | exact ih1 _ _ _ _
      | exact ih2 _ _ _ _ _
      | exact ih3 _ _ _ _ _ _ _
      | exact ih4 _ _ _ _ _ _ _
      | exact trishawlaw01_alive.mono _
      | exact trishawref01_Shares.mono _ _
      | exact turn_Greedy.mono _ _ _
      | exact LeO.none _
      | refine LeO.ite ?_ ?_
      | refine LeO.bind ?_ (fun _ => ?_)
    · intro y0 y1 y2 y3 y4
      unfold trishawlaw01_TurnLags.l0
      repeat' first
      | (with_reducible exact ih0 _ _ _ _)
      | (with_reducible exact ih1 _ _ _ _)
      | (with_reducible exact ih2 _ _ _ _ _)
      | (with_reducible exact ih3 _ _ _ _ _ _ _)
      | (with_reducible exact ih4 _ _ _ _ _ _ _)
      | (with_reducible exact trishawlaw01_alive.mono _)
      | (with_reducible exact trishawref01_Shares.mono _ _)
      | (with_reducible exact turn_Greedy.mono _ _ _)
      | (with_reducible exact LeO.refl _)
      | (with_reducible exact LeO.none _)
      | (with_reducible refine LeO.ite ?_ ?_)
      | (with_reducible refine LeO.bind ?_ (fun _ => ?_))
      | exact ih0 _ _ _ _
      | exact ih1 _ _ _ _
      | exact ih2 _ _ _ _ _
      | exact ih3 _ _ _ _ _ _ _
      | exact ih4 _ _ _ _ _ _ _
      | exact trishawlaw01_alive.mono _
      | exact trishawref01_Shares.mono _ _
      | exact turn_Greedy.mono _ _ _
      | exact LeO.none _
      | refine LeO.ite ?_ ?_
      | refine LeO.bind ?_ (fun _ => ?_)
    · intro y0 y1 y2 y3 y4 y5 y6
      unfold trishawlaw01_TurnLags.j3
      repeat' first
      | (with_reducible exact ih0 _ _ _ _)
      | (with_reducible exact ih1 _ _ _ _)
      | (with_reducible exact ih2 _ _ _ _ _)
      | (with_reducible exact ih3 _ _ _ _ _ _ _)
      | (with_reducible exact ih4 _ _ _ _ _ _ _)
      | (with_reducible exact trishawlaw01_alive.mono _)
      | (with_reducible exact trishawref01_Shares.mono _ _)
      | (with_reducible exact turn_Greedy.mono _ _ _)
      | (with_reducible exact LeO.refl _)
      | (with_reducible exact LeO.none _)
      | (with_reducible refine LeO.ite ?_ ?_)
      | (with_reducible refine LeO.bind ?_ (fun _ => ?_))
      | exact ih0 _ _ _ _
      | exact ih1 _ _ _ _
      | exact ih2 _ _ _ _ _
      | exact ih3 _ _ _ _ _ _ _
      | exact ih4 _ _ _ _ _ _ _
      | exact trishawlaw01_alive.mono _
      | exact trishawref01_Shares.mono _ _
      | exact turn_Greedy.mono _ _ _
      | exact LeO.none _
      | refine LeO.ite ?_ ?_
      | refine LeO.bind ?_ (fun _ => ?_)
    · intro y0 y1 y2 y3 y4 y5 y6
      unfold trishawlaw01_TurnLags.l1
      repeat' first
      | (with_reducible exact ih0 _ _ _ _)
      | (with_reducible exact ih1 _ _ _ _)
      | (with_reducible exact ih2 _ _ _ _ _)
      | (with_reducible exact ih3 _ _ _ _ _ _ _)
      | (with_reducible exact ih4 _ _ _ _ _ _ _)
      | (with_reducible exact trishawlaw01_alive.mono _)
      | (with_reducible exact trishawref01_Shares.mono _ _)
      | (with_reducible exact turn_Greedy.mono _ _ _)
      | (with_reducible exact LeO.refl _)
      | (with_reducible exact LeO.none _)
      | (with_reducible refine LeO.ite ?_ ?_)
      | (with_reducible refine LeO.bind ?_ (fun _ => ?_))
      | exact ih0 _ _ _ _
      | exact ih1 _ _ _ _
      | exact ih2 _ _ _ _ _
      | exact ih3 _ _ _ _ _ _ _
      | exact ih4 _ _ _ _ _ _ _
      | exact trishawlaw01_alive.mono _
      | exact trishawref01_Shares.mono _ _
      | exact turn_Greedy.mono _ _ _
      | exact LeO.none _
      | refine LeO.ite ?_ ?_
      | refine LeO.bind ?_ (fun _ => ?_)
theorem trishawlaw01_TurnLags.mono : ∀ a0 a1 k, LeO (trishawlaw01_TurnLags.f k a0 a1) (trishawlaw01_TurnLags.f (k + 1) a0 a1) := by
  intro a0 a1 k
  obtain ⟨ih0, ih1, ih2, ih3, ih4⟩ := trishawlaw01_TurnLags.mono_l k
  unfold trishawlaw01_TurnLags.f
  repeat' first
      | (with_reducible exact ih0 _ _ _ _)
      | (with_reducible exact ih1 _ _ _ _)
      | (with_reducible exact ih2 _ _ _ _ _)
      | (with_reducible exact ih3 _ _ _ _ _ _ _)
      | (with_reducible exact ih4 _ _ _ _ _ _ _)
      | (with_reducible exact trishawlaw01_alive.mono _)
      | (with_reducible exact trishawref01_Shares.mono _ _)
      | (with_reducible exact turn_Greedy.mono _ _ _)
      | (with_reducible exact LeO.refl _)
      | (with_reducible exact LeO.none _)
      | (with_reducible refine LeO.ite ?_ ?_)
      | (with_reducible refine LeO.bind ?_ (fun _ => ?_))
      | exact ih0 _ _ _ _
      | exact ih1 _ _ _ _
      | exact ih2 _ _ _ _ _
      | exact ih3 _ _ _ _ _ _ _
      | exact ih4 _ _ _ _ _ _ _
      | exact trishawlaw01_alive.mono _
      | exact trishawref01_Shares.mono _ _
      | exact turn_Greedy.mono _ _ _
      | exact LeO.none _
      | refine LeO.ite ?_ ?_
      | refine LeO.bind ?_ (fun _ => ?_)
set_option maxHeartbeats 8000000 in
set_option maxRecDepth 100000 in
theorem trishawlaw01_TurnLags.calls (k : Nat) (A0 : Option Addr) (c0 : Nat) (l0 : List Int) (a1 : Int) (r : Bool) (w : World) (hr0 : Kd.C (Kd.int .i64) w A0 l0.length l0) (hc0 : l0.length ≤ c0) (h : trishawlaw01_TurnLags.f k l0 a1 = some r) (hN0 : NoneLaid w) (hr_ : r = true) :
    Calls Tryd.prog 10 #[.slice A0 l0.length c0, .int .u16 a1] w fun e w' => e = .returned (.bool r) ∧ Below w.heap.size w w' := by
 have HN := Aside0.mk hN0
 clear hN0
 have hr := Aside0.mk hr_
 clear hr_
 have HR0 := Aside0.mk hr0
 have HC0 := Aside0.mk hc0
 clear hr0 hc0
 have HB := Aside0.mk (Below.refl w.heap.size w)
 have H : ((trishawref01_Shares.f k l0).bind fun bt660 => (if (l0.length : Int) > 30 then (trishawlaw01_TurnLags.j0 k l0 a1 bt660.1 true) else (trishawlaw01_TurnLags.j0 k l0 a1 bt660.1 (bt660.2 != 0)))) = some r := h
 clear h
 replace H := Option.bind_eq_some_iff.mp H
 obtain ⟨⟨t660, t661⟩, A30, H⟩ := H
 replace H : (if (l0.length : Int) > 30 then (trishawlaw01_TurnLags.j0 k l0 a1 t660 true) else (trishawlaw01_TurnLags.j0 k l0 a1 t660 (t661 != 0))) = some r := H
 have A3 := Aside0.mk A30
 clear A30
 have HC4 := Aside0.mk H
 clear H
 go_enter Tryd.func10, Tryd.ntmps10
 go_upto_region 2 with (first | (go_at_call 23; (with_reducible refine (trishawref01_Shares.calls k _ _ l0 t660 t661 _ ?side1 ?side2 A3.out).mono ?_); (case side1 => repeat (first | exact HR0.out | (with_reducible refine Kd.C_alloc ?_ _) | (with_reducible refine Kd.C_drewN ?_ _) | (with_reducible refine Kd.C_drew ?_))); (case side2 => exact HC0.out); rintro e w' ⟨rfl, ⟨nd, rfl⟩⟩; (try first | exact ⟨rfl, _, World.drewN_drewN _ _ _⟩ | exact ⟨rfl, _, Eq.trans (World.drewN_drewN _ _ _) (congrArg (World.drewN _) (Nat.add_assoc _ _ _))⟩)))
 repeat (go_quiet (first | (go_at_call 23; (with_reducible refine (trishawref01_Shares.calls k _ _ l0 t660 t661 _ ?side1 ?side2 A3.out).mono ?_); (case side1 => repeat (first | exact HR0.out | (with_reducible refine Kd.C_alloc ?_ _) | (with_reducible refine Kd.C_drewN ?_ _) | (with_reducible refine Kd.C_drew ?_))); (case side2 => exact HC0.out); rintro e w' ⟨rfl, ⟨nd, rfl⟩⟩; (try first | exact ⟨rfl, _, World.drewN_drewN _ _ _⟩ | exact ⟨rfl, _, Eq.trans (World.drewN_drewN _ _ _) (congrArg (World.drewN _) (Nat.add_assoc _ _ _))⟩))); go_upto_region 2 with (first | (go_at_call 23; (with_reducible refine (trishawref01_Shares.calls k _ _ l0 t660 t661 _ ?side1 ?side2 A3.out).mono ?_); (case side1 => repeat (first | exact HR0.out | (with_reducible refine Kd.C_alloc ?_ _) | (with_reducible refine Kd.C_drewN ?_ _) | (with_reducible refine Kd.C_drew ?_))); (case side2 => exact HC0.out); rintro e w' ⟨rfl, ⟨nd, rfl⟩⟩; (try first | exact ⟨rfl, _, World.drewN_drewN _ _ _⟩ | exact ⟨rfl, _, Eq.trans (World.drewN_drewN _ _ _) (congrArg (World.drewN _) (Nat.add_assoc _ _ _))⟩))))
 (try simp only [Act.put, List.setIfInBounds_toArray, List.set_cons_zero, List.set_cons_succ])
 go_cut [26] (fun v26 wc => ∃ (kq : Nat) (x26_3 : Bool), v26 = .bool x26_3 ∧ Aside0 (trishawlaw01_TurnLags.j0 kq l0 a1 t660 x26_3 = some r) ∧ Aside0 (kq ≤ k) ∧ Aside0 (Below w.heap.size w wc))
 case first =>
  have H := HC4.out
  clear HC4
  by_cases c5 : (l0.length : Int) > 30
  ·rw [if_pos c5] at H
   have c5b0 : decide (30 < (l0.length : Int)) = true := decide_eq_true c5
   have c5b1 : decide (30 < l0.length) = true := decide_eq_true (by omega)
   clear c5
   (first | rw [c5b0] | (simp only [i64_w, i32_w]; rw [c5b0]) | skip)
   have H' := Aside0.mk H
   clear H
   go_wp2
   repeat (go_quiet (fail); try go_wp2)
   go_meet
   case rel => exact ⟨_, (true), (by first | rfl | (simp; done) | (simp [*]; done)), H', ⟨by first | omega | exact Nat.le_refl _⟩, ⟨bl_⟩⟩
  ·rw [if_neg c5] at H
   have c5b0 : decide (30 < (l0.length : Int)) = false := decide_eq_false c5
   have c5b1 : decide (30 < l0.length) = false := decide_eq_false (by omega)
   clear c5
   (first | rw [c5b0] | (simp only [i64_w, i32_w]; rw [c5b0]) | skip)
   have H' := Aside0.mk H
   clear H
   go_wp2
   repeat (go_quiet (fail); try go_wp2)
   go_meet
   case rel => exact ⟨_, ((t661 != 0)), (by first | rfl | (simp; done) | (simp [*]; done)), H', ⟨by first | omega | exact Nat.le_refl _⟩, ⟨bl_⟩⟩
 case rest =>
  clear HC4
  try clear c1
  try clear p2
  try clear c5
  try clear c5b0
  try clear c5b1
  obtain ⟨kq, x26_3, rfl, HA, HJ3, HB⟩ := hcut
  cases kq with
  | zero => exact absurd HA.out (by simp [trishawlaw01_TurnLags.j0])
  | succ kj3 =>
   have H := HA.out
   clear HA
   simp only [trishawlaw01_TurnLags.j0] at H
   by_cases c6 : x26_3 = true
   ·subst c6
    have H1 : ((trishawlaw01_alive.f kj3).bind fun t662 => (some t662)) = some r := by rw [if_pos rfl] at H; exact H
    clear H
    have H := H1
    clear H1
    replace H := Option.bind_eq_some_iff.mp H
    obtain ⟨t662, A70, H⟩ := H
    replace H : (some t662) = some r := H
    have A7 := Aside0.mk A70
    clear A70
    obtain rfl := Option.some.inj H
    go_wp2_with (first | (go_at_call 17; (with_reducible refine (trishawlaw01_alive.calls kj3  t662 _ A7.out (HN.out.of (bl_))).mono ?_); rintro e w8 ⟨rfl, hb⟩; have n0_ := Aside0.mk (below_step (bl_) hb); clear HB; have HB := n0_; clear n0_; (try clear hb); (try clear hb2); (try clear hk); (try clear hi)))
    repeat (go_quiet (first | (go_at_call 17; (with_reducible refine (trishawlaw01_alive.calls kj3  t662 _ A7.out (HN.out.of (bl_))).mono ?_); rintro e w8 ⟨rfl, hb⟩; have n0_ := Aside0.mk (below_step (bl_) hb); clear HB; have HB := n0_; clear n0_; (try clear hb); (try clear hb2); (try clear hk); (try clear hi))); try go_wp2_with (first | (go_at_call 17; (with_reducible refine (trishawlaw01_alive.calls kj3  t662 _ A7.out (HN.out.of (bl_))).mono ?_); rintro e w8 ⟨rfl, hb⟩; have n0_ := Aside0.mk (below_step (bl_) hb); clear HB; have HB := n0_; clear n0_; (try clear hb); (try clear hb2); (try clear hk); (try clear hi))))
    go_ret
    exact ⟨by first | rfl | (simp [errW_none, errW_some] <;> rfl) | (simp [*, errW_none, errW_some] <;> rfl), bl_⟩
   ·replace c6 := Bool.eq_false_iff.mpr c6
    subst c6
    have H1 : ((turn_Greedy.f kj3 l0 (Int.tmod (wrap64 (a1)) 401)).bind fun bt663 => (if bt663.2 = 0 then (trishawlaw01_TurnLags.j1 kj3 l0 t660 bt663.1 ((bt663.1.length : Int) != (Int.tmod (wrap64 (a1)) 401))) else (trishawlaw01_TurnLags.j1 kj3 l0 t660 bt663.1 true))) = some r := by rw [if_neg (show ¬ (false = true) by decide)] at H; exact H
    clear H
    have H := H1
    clear H1
    replace H := Option.bind_eq_some_iff.mp H
    obtain ⟨⟨t663, t664⟩, A90, H⟩ := H
    replace H : (if t664 = 0 then (trishawlaw01_TurnLags.j1 kj3 l0 t660 t663 ((t663.length : Int) != (Int.tmod (wrap64 (a1)) 401))) else (trishawlaw01_TurnLags.j1 kj3 l0 t660 t663 true)) = some r := H
    have A9 := Aside0.mk A90
    clear A90
    have HC10 := Aside0.mk H
    clear H
    go_upto_region 5 with (first | (go_at_call 32; (with_reducible refine (turn_Greedy.calls kj3 _ _ l0 (Int.tmod (wrap64 (a1)) 401) t663 t664 _ ?side1 ?side2 A9.out).mono ?_); (case side1 => repeat (first | exact (Kd.C_below HR0.out HB.out) | (with_reducible refine Kd.C_alloc ?_ _) | (with_reducible refine Kd.C_drewN ?_ _) | (with_reducible refine Kd.C_drew ?_))); (case side2 => exact HC0.out); rintro e w11 ⟨v665, rfl, ho0, hb⟩; have n0_ := Aside0.mk (Kd.R_lower ho0 (below_size (bl_))); have n1_ := Aside0.mk (below_step (bl_) hb); clear HB; have HO666 := n0_; have HB := n1_; clear n0_ n1_; (try clear hb); (try clear hb2); (try clear hk); (try clear hi); (try clear ho0)))
    repeat (go_quiet (first | (go_at_call 32; (with_reducible refine (turn_Greedy.calls kj3 _ _ l0 (Int.tmod (wrap64 (a1)) 401) t663 t664 _ ?side1 ?side2 A9.out).mono ?_); (case side1 => repeat (first | exact (Kd.C_below HR0.out HB.out) | (with_reducible refine Kd.C_alloc ?_ _) | (with_reducible refine Kd.C_drewN ?_ _) | (with_reducible refine Kd.C_drew ?_))); (case side2 => exact HC0.out); rintro e w11 ⟨v665, rfl, ho0, hb⟩; have n0_ := Aside0.mk (Kd.R_lower ho0 (below_size (bl_))); have n1_ := Aside0.mk (below_step (bl_) hb); clear HB; have HO666 := n0_; have HB := n1_; clear n0_ n1_; (try clear hb); (try clear hb2); (try clear hk); (try clear hi); (try clear ho0))); go_upto_region 5 with (first | (go_at_call 32; (with_reducible refine (turn_Greedy.calls kj3 _ _ l0 (Int.tmod (wrap64 (a1)) 401) t663 t664 _ ?side1 ?side2 A9.out).mono ?_); (case side1 => repeat (first | exact (Kd.C_below HR0.out HB.out) | (with_reducible refine Kd.C_alloc ?_ _) | (with_reducible refine Kd.C_drewN ?_ _) | (with_reducible refine Kd.C_drew ?_))); (case side2 => exact HC0.out); rintro e w11 ⟨v665, rfl, ho0, hb⟩; have n0_ := Aside0.mk (Kd.R_lower ho0 (below_size (bl_))); have n1_ := Aside0.mk (below_step (bl_) hb); clear HB; have HO666 := n0_; have HB := n1_; clear n0_ n1_; (try clear hb); (try clear hb2); (try clear hk); (try clear hi); (try clear ho0))))
    (try simp only [Act.put, List.setIfInBounds_toArray, List.set_cons_zero, List.set_cons_succ])
    go_cut [45] (fun v45 wc => ∃ (kq : Nat) (x45_9 : Bool), v45 = .bool x45_9 ∧ Aside0 (trishawlaw01_TurnLags.j1 kq l0 t660 t663 x45_9 = some r) ∧ Aside0 (kq ≤ kj3) ∧ Aside0 (Kd.R (Kd.int .i64) 3 wc w.heap.size (fun _ => True) v665 t663) ∧ Aside0 (Below w.heap.size w wc))
    case first =>
     have H := HC10.out
     clear HC10
     by_cases c12 : t664 = 0
     ·rw [if_pos c12] at H
      have c12b0 : (t664 == 0) = true := beq_iff_eq.mpr c12
      have c12b1 : (t664 != 0) = false := bne_eq_false_iff_eq.mpr c12
      clear c12
      (first | rw [c12b0] | (simp only [i64_w, i32_w]; rw [c12b0]) | skip)
      have H' := Aside0.mk H
      clear H
      obtain ⟨Ao13, co13, eo13⟩ := Kd.R_slice HO666.out
      subst eo13
      go_wp2
      repeat (go_quiet (fail); try go_wp2)
      go_meet
      case rel => exact ⟨_, (((t663.length : Int) != (Int.tmod (wrap64 (a1)) 401))), (by first | rfl | (simp; done) | (simp [*]; done)), H', ⟨by have := HJ3.out; first | omega | exact Nat.le_refl _⟩, ⟨kr_ HO666.out⟩, ⟨bl_⟩⟩
     ·rw [if_neg c12] at H
      have c12b0 : (t664 == 0) = false := beq_eq_false_iff_ne.mpr c12
      have c12b1 : (t664 != 0) = true := bne_iff_ne.mpr c12
      (first | rw [c12b0] | (simp only [i64_w, i32_w]; rw [c12b0]) | skip)
      have H' := Aside0.mk H
      clear H
      go_wp2
      repeat (go_quiet (fail); try go_wp2)
      go_meet
      case rel => exact ⟨_, (true), (by first | rfl | (simp; done) | (simp [*]; done)), H', ⟨by have := HJ3.out; first | omega | exact Nat.le_refl _⟩, ⟨kr_ HO666.out⟩, ⟨bl_⟩⟩
    case rest =>
     clear HC10
     try clear c1
     try clear p2
     try clear c5
     try clear c5b0
     try clear c5b1
     try clear c6
     try clear p6
     try clear c10
     try clear c12
     try clear c12b0
     try clear c12b1
     try clear p2
     obtain ⟨kq, x45_9, rfl, HA, HJ9, HO_7, HB⟩ := hcut
     cases kq with
     | zero => exact absurd HA.out (by simp [trishawlaw01_TurnLags.j1])
     | succ kj9 =>
      have H := HA.out
      clear HA
      simp only [trishawlaw01_TurnLags.j1] at H
      by_cases c14 : x45_9 = true
      ·subst c14
       have H1 : (some false) = some r := by rw [if_pos rfl] at H; exact H
       clear H
       have H := H1
       clear H1
       exact absurd (Option.some.inj (H.trans (congrArg some hr.out))) (by decide)
      ·replace c14 := Bool.eq_false_iff.mpr c14
       subst c14
       have H1 : (if 0 ≤ (l0.length : Int) then (if ((l0.length : Int) : Int).toNat ≤ 35184372088832 then (trishawlaw01_TurnLags.l0 kj9 l0 t660 t663 (List.replicate ((l0.length : Int) : Int).toNat 0) 1) else (none)) else (none)) = some r := by rw [if_neg (show ¬ (false = true) by decide)] at H; exact H
       clear H
       have H := H1
       clear H1
       have c15 : 0 ≤ (l0.length : Int) := fl_ fun c15 => by rw [if_neg c15] at H; exact absurd H (by simp)
       rw [if_pos c15] at H
       have c15b0 := eq_true c15
       have c15b1 : decide (0 ≤ (l0.length : Int)) = true := decide_eq_true c15
       clear c15
       have c16 : ((l0.length : Int) : Int).toNat ≤ 35184372088832 := fl_ fun c16 => by rw [if_neg c16] at H; exact absurd H (by simp)
       rw [if_pos c16] at H
       have c16b0 := eq_true c16
       have c16b1 : decide (((l0.length : Int) : Int).toNat ≤ 35184372088832) = true := decide_eq_true c16
       clear c16
       obtain ⟨y667, hy667⟩ : ∃ y_ : List Int, y_ = (List.replicate ((l0.length : Int) : Int).toNat 0) := ⟨_, rfl⟩
       replace H : (trishawlaw01_TurnLags.l0 kj9 l0 t660 t663 y667 1) = some r := by first | (rw [hy667]; with_reducible exact H) | (have H2_ := (Option.bind_some _ _).symm.trans H; rw [hy667]; with_reducible exact H2_) | (have H2_ := (Option.bind_some _ _).symm.trans H; with_reducible exact H2_) | with_reducible exact H | (rw [hy667]; exact H) | exact H
       have Ny667 := Aside0.mk hy667
       clear hy667
       have H' := Aside0.mk H
       clear H
       go_wp2_with (first | ((with_reducible refine gate_dst (N := 48) rfl ?_); (try (refine gate_guard (by rfl) ?_; dsimp only)); refine Kd.R_make (Kd.int .i64) _ 3 rfl (N := 48) rfl 22 _ _ rfl (l0.length : Int) rfl rfl Tryd.underlying22 (.int .i64 0) 8 info3 rfl (by decide) (by omega) 0 (ok := fun _ => True) (okp := fun _ => True) rfl (fun _ hk => hk) trivial (od_) (Nat.le_trans (Nat.mul_le_mul_right _ (od_ : (l0.length : Int).toNat ≤ 35184372088832)) (by omega)) (Below.refl _ _) (Nat.le_refl _) ?_; intro v668 w17 ho18 hb hg_ hnew_; clear hg_ hnew_; (first | rw [← Ny667.out] at ho18 | (simp only [Int.reduceToNat] at ho18; rw [← Ny667.out] at ho18)); have n0_ := Aside0.mk (Kd.R_elder' (kr_ HO_7.out) (Kd.R_base ho18) hb); have n1_ := Aside0.mk (Kd.R_lower (Kd.R_new' ho18 (Kd.R_lt (kr_ HO_7.out))) (below_size (bl_))); have n2_ := Aside0.mk (below_step (bl_) hb); clear HO_7; clear HB; have HO_7 := n0_; have HO669 := n1_; have HB := n2_; clear n0_ n1_ n2_; clear hb ho18))
       repeat (go_quiet (first | ((with_reducible refine gate_dst (N := 48) rfl ?_); (try (refine gate_guard (by rfl) ?_; dsimp only)); refine Kd.R_make (Kd.int .i64) _ 3 rfl (N := 48) rfl 22 _ _ rfl (l0.length : Int) rfl rfl Tryd.underlying22 (.int .i64 0) 8 info3 rfl (by decide) (by omega) 0 (ok := fun _ => True) (okp := fun _ => True) rfl (fun _ hk => hk) trivial (od_) (Nat.le_trans (Nat.mul_le_mul_right _ (od_ : (l0.length : Int).toNat ≤ 35184372088832)) (by omega)) (Below.refl _ _) (Nat.le_refl _) ?_; intro v668 w17 ho18 hb hg_ hnew_; clear hg_ hnew_; (first | rw [← Ny667.out] at ho18 | (simp only [Int.reduceToNat] at ho18; rw [← Ny667.out] at ho18)); have n0_ := Aside0.mk (Kd.R_elder' (kr_ HO_7.out) (Kd.R_base ho18) hb); have n1_ := Aside0.mk (Kd.R_lower (Kd.R_new' ho18 (Kd.R_lt (kr_ HO_7.out))) (below_size (bl_))); have n2_ := Aside0.mk (below_step (bl_) hb); clear HO_7; clear HB; have HO_7 := n0_; have HO669 := n1_; have HB := n2_; clear n0_ n1_ n2_; clear hb ho18)); try go_wp2_with (first | ((with_reducible refine gate_dst (N := 48) rfl ?_); (try (refine gate_guard (by rfl) ?_; dsimp only)); refine Kd.R_make (Kd.int .i64) _ 3 rfl (N := 48) rfl 22 _ _ rfl (l0.length : Int) rfl rfl Tryd.underlying22 (.int .i64 0) 8 info3 rfl (by decide) (by omega) 0 (ok := fun _ => True) (okp := fun _ => True) rfl (fun _ hk => hk) trivial (od_) (Nat.le_trans (Nat.mul_le_mul_right _ (od_ : (l0.length : Int).toNat ≤ 35184372088832)) (by omega)) (Below.refl _ _) (Nat.le_refl _) ?_; intro v668 w17 ho18 hb hg_ hnew_; clear hg_ hnew_; (first | rw [← Ny667.out] at ho18 | (simp only [Int.reduceToNat] at ho18; rw [← Ny667.out] at ho18)); have n0_ := Aside0.mk (Kd.R_elder' (kr_ HO_7.out) (Kd.R_base ho18) hb); have n1_ := Aside0.mk (Kd.R_lower (Kd.R_new' ho18 (Kd.R_lt (kr_ HO_7.out))) (below_size (bl_))); have n2_ := Aside0.mk (below_step (bl_) hb); clear HO_7; clear HB; have HO_7 := n0_; have HO669 := n1_; have HB := n2_; clear n0_ n1_ n2_; clear hb ho18)))
       go_loopg [10] kj9 (fun kq v10 w' => ∃ (x9_3 : List Int) (x10_3 : Int), v10 = .int .i64 x10_3 ∧ Aside0 (trishawlaw01_TurnLags.l0 kq l0 t660 t663 x9_3 x10_3 = some r) ∧ Aside0 (kq ≤ kj9) ∧ Aside0 (Kd.R (Kd.int .i64) 3 w' w.heap.size (fun k_ => some k_ ≠ (v668 : Value).ownBlock) v665 t663) ∧ Aside0 (Kd.R (Kd.int .i64) 3 w' w.heap.size (fun k_ => some k_ ≠ (v665 : Value).ownBlock) v668 x9_3) ∧ Aside0 (Below w.heap.size w w'))
       case atStart => exact ⟨(y667), (1), (by first | rfl | (simp; done) | (simp [*]; done)), H', ⟨Nat.le_refl _⟩, ⟨by (with_reducible repeat (first | apply Kd.R_alloc | apply Kd.R_drewN | apply Kd.R_drew)); exact Kd.R_mono HO_7.out (fun _ hk => hk.2)⟩, ⟨by (with_reducible repeat (first | apply Kd.R_alloc | apply Kd.R_drewN | apply Kd.R_drew)); exact Kd.R_mono HO669.out (fun _ hk => hk.2)⟩, ⟨bl_⟩⟩
       case round =>
        clear H'
        try clear c1
        try clear p2
        try clear c5
        try clear c5b0
        try clear c5b1
        try clear c6
        try clear p6
        try clear c10
        try clear c12
        try clear c12b0
        try clear c12b1
        try clear c14
        try clear c15
        try clear c15b0
        try clear c15b1
        try clear c16
        try clear c16b0
        try clear c16b1
        try clear p2
        try clear p6
        obtain ⟨x9_3, x10_3, rfl, HA, HK3, HO_7, HO_9, HB⟩ := hrel
        cases gk with
        | zero => exact absurd HA.out (by simp [trishawlaw01_TurnLags.l0])
        | succ k3 =>
         have H := HA.out
         clear HA
         simp only [trishawlaw01_TurnLags.l0] at H
         by_cases c19 : x10_3 ≤ (t663.length : Int)
         ·rw [if_pos c19] at H
          have c19b0 : decide (x10_3 ≤ (t663.length : Int)) = true := decide_eq_true c19
          clear c19
          obtain ⟨ji20, hji20⟩ : ∃ j_ : Int, (wrap64 (x10_3 - 1)) = j_ := ⟨_, rfl⟩
          replace H : (if 0 ≤ (ji20) then (if (ji20) < (t663.length : Int) then (if (rd t663 (ji20)) < 0 then (trishawlaw01_TurnLags.j3 k3 l0 t660 t663 x9_3 x10_3 (rd t663 (ji20)) true) else (trishawlaw01_TurnLags.j3 k3 l0 t660 t663 x9_3 x10_3 (rd t663 (ji20)) (decide ((rd t663 (ji20)) ≥ (l0.length : Int))))) else (none)) else (none)) = some r := by first | (rw [hji20] at H; exact H) | (simp only [hji20] at H ⊢; exact H)
          have hji20w : (IntKind.i64.wrap (x10_3 - 1)) = ji20 := (i64_w _).trans hji20
          have c21 : 0 ≤ (ji20) := fl_ fun c21 => by rw [if_neg c21] at H; exact absurd H (by simp)
          rw [if_pos c21] at H
          have c21b0 : decide (0 ≤ (ji20)) = true := decide_eq_true c21
          clear c21
          have c22 : (ji20) < (t663.length : Int) := fl_ fun c22 => by rw [if_neg c22] at H; exact absurd H (by simp)
          rw [if_pos c22] at H
          have c22b0 : decide ((ji20) < (t663.length : Int)) = true := decide_eq_true c22
          clear c22
          have HC23 := Aside0.mk H
          clear H
          obtain ⟨Ao24, co24, eo24⟩ := Kd.R_slice HO_7.out
          subst eo24
          have p671 : 0 ≤ ((ji20) : Int) := od_
          have q671 : (ji20) < (t663.length : Int) := od_
          obtain ⟨ad671, e671, hx671_0⟩ := Kd.at_int (Kd.R_reads' HO_7.out).2.2 (ji20) p671 q671
          cases e671
          replace p671 := eq_true p671
          replace q671 := eq_true q671
          go_upto_region 12 with (fail)
          repeat (go_quiet (fail); go_upto_region 12 with (fail))
          go_cut [67] (fun v67 wc => ∃ (kq : Nat) (x67_22 : Bool), v67 = .bool x67_22 ∧ Aside0 (trishawlaw01_TurnLags.j3 kq l0 t660 t663 x9_3 x10_3 (rd t663 (ji20)) x67_22 = some r) ∧ Aside0 (kq ≤ k3) ∧ Aside0 (Kd.R (Kd.int .i64) 3 wc w.heap.size (fun k_ => some k_ ≠ (v668 : Value).ownBlock) (.slice (some ad671) t663.length co24) t663) ∧ Aside0 (Kd.R (Kd.int .i64) 3 wc w.heap.size (fun k_ => some k_ ≠ ((.slice (some ad671) t663.length co24) : Value).ownBlock) v668 x9_3) ∧ Aside0 (Below w.heap.size w wc))
          case first =>
           have H := HC23.out
           clear HC23
           by_cases c25 : (rd t663 (ji20)) < 0
           ·rw [if_pos c25] at H
            have c25b0 : decide ((rd t663 (ji20)) < 0) = true := decide_eq_true c25
            clear c25
            (first | rw [c25b0] | (simp only [i64_w, i32_w]; rw [c25b0]) | skip)
            have H' := Aside0.mk H
            clear H
            go_wp2
            repeat (go_quiet (fail); try go_wp2)
            go_meet
            case rel => exact ⟨_, (true), (by first | rfl | (simp; done) | (simp [*]; done)), H', ⟨by have := HJ3.out; have := HJ9.out; have := HK3.out; first | omega | exact Nat.le_refl _⟩, ⟨kr_ HO_7.out⟩, ⟨kr_ HO_9.out⟩, ⟨bl_⟩⟩
           ·rw [if_neg c25] at H
            have c25b0 : decide ((rd t663 (ji20)) < 0) = false := decide_eq_false c25
            clear c25
            (first | rw [c25b0] | (simp only [i64_w, i32_w]; rw [c25b0]) | skip)
            have H' := Aside0.mk H
            clear H
            go_wp2
            repeat (go_quiet (fail); try go_wp2)
            go_meet
            case rel => exact ⟨_, (decide ((rd t663 (ji20)) ≥ (l0.length : Int))), (by first | rfl | (simp; done) | (simp only [← hji20] <;> (first | rfl | simp)) | (simp [*]; done)), H', ⟨by have := HJ3.out; have := HJ9.out; have := HK3.out; first | omega | exact Nat.le_refl _⟩, ⟨kr_ HO_7.out⟩, ⟨kr_ HO_9.out⟩, ⟨bl_⟩⟩
          case rest =>
           clear HC23
           try clear c1
           try clear c2
           try clear p2
           try clear c5
           try clear c5b0
           try clear c5b1
           try clear c6
           try clear p6
           try clear q6
           try clear hx6
           try clear c10
           try clear c12
           try clear c12b0
           try clear c12b1
           try clear c14
           try clear c15
           try clear c15b0
           try clear c15b1
           try clear c16
           try clear c16b0
           try clear c16b1
           try clear c19
           try clear c19b0
           try clear c21
           try clear c21b0
           try clear c22
           try clear c22b0
           try clear c25
           try clear c25b0
           try clear hx671_0
           try clear p2
           try clear p6
           try clear p671
           try clear q671
           obtain ⟨kq, x67_22, rfl, HA, HJ22, HO_7, HO_9, HB⟩ := hcut
           cases kq with
           | zero => exact absurd HA.out (by simp [trishawlaw01_TurnLags.j3])
           | succ kj22 =>
            have H := HA.out
            clear HA
            simp only [trishawlaw01_TurnLags.j3] at H
            by_cases c26 : x67_22 = true
            ·subst c26
             have H1 : (some false) = some r := by rw [if_pos rfl] at H; exact H
             clear H
             have H := H1
             clear H1
             exact absurd (Option.some.inj (H.trans (congrArg some hr.out))) (by decide)
            ·replace c26 := Bool.eq_false_iff.mpr c26
             subst c26
             have H1 : (trishawlaw01_TurnLags.l1 kj22 l0 t660 t663 x9_3 x10_3 (rd t663 (ji20)) 0) = some r := by rw [if_neg (show ¬ (false = true) by decide)] at H; exact H
             clear H
             have H := H1
             clear H1
             have H' := Aside0.mk H
             clear H
             go_wp2
             repeat (go_quiet (fail); try go_wp2)
             go_loopg [12] kj22 (fun kq v12 w' => ∃ (x12_5 : Int), v12 = .int .i64 x12_5 ∧ Aside0 (trishawlaw01_TurnLags.l1 kq l0 t660 t663 x9_3 x10_3 (rd t663 (ji20)) x12_5 = some r) ∧ Aside0 (kq ≤ kj22) ∧ Aside0 (Kd.R (Kd.int .i64) 3 w' w.heap.size (fun k_ => some k_ ≠ (v668 : Value).ownBlock) (.slice (some ad671) t663.length co24) t663) ∧ Aside0 (Kd.R (Kd.int .i64) 3 w' w.heap.size (fun k_ => some k_ ≠ ((.slice (some ad671) t663.length co24) : Value).ownBlock) v668 x9_3) ∧ Aside0 (Below w.heap.size w w'))
             case atStart => exact ⟨(0), (by first | rfl | (simp; done) | (simp [*]; done)), H', ⟨Nat.le_refl _⟩, ⟨kr_ HO_7.out⟩, ⟨kr_ HO_9.out⟩, ⟨bl_⟩⟩
             case round =>
              clear H'
              try clear c1
              try clear c2
              try clear p2
              try clear c5
              try clear c5b0
              try clear c5b1
              try clear c6
              try clear p6
              try clear q6
              try clear hx6
              try clear c10
              try clear c12
              try clear c12b0
              try clear c12b1
              try clear c14
              try clear c15
              try clear c15b0
              try clear c15b1
              try clear c16
              try clear c16b0
              try clear c16b1
              try clear c19
              try clear c19b0
              try clear c21
              try clear c21b0
              try clear c22
              try clear c22b0
              try clear c25
              try clear c25b0
              try clear c26
              try clear hx671_0
              try clear p2
              try clear p6
              try clear p671
              try clear q6
              try clear q671
              obtain ⟨x12_5, rfl, HA, HK5, HO_7, HO_9, HB⟩ := hrel
              cases gk with
              | zero => exact absurd HA.out (by simp [trishawlaw01_TurnLags.l1])
              | succ k5 =>
               have H := HA.out
               clear HA
               simp only [trishawlaw01_TurnLags.l1] at H
               by_cases c27 : x12_5 < (l0.length : Int)
               ·rw [if_pos c27] at H
                have c27b0 : decide (x12_5 < (l0.length : Int)) = true := decide_eq_true c27
                clear c27
                have c28 : 0 ≤ x12_5 := fl_ fun c28 => by rw [if_neg c28] at H; exact absurd H (by simp)
                rw [if_pos c28] at H
                have c28b0 : decide (0 ≤ x12_5) = true := decide_eq_true c28
                clear c28
                have c29 : x12_5 < (x9_3.length : Int) := fl_ fun c29 => by rw [if_neg c29] at H; exact absurd H (by simp)
                rw [if_pos c29] at H
                have c29b0 : decide (x12_5 < (x9_3.length : Int)) = true := decide_eq_true c29
                clear c29
                have c30 : 0 ≤ (rd t663 (ji20)) := fl_ fun c30 => by rw [if_neg c30] at H; exact absurd H (by simp)
                rw [if_pos c30] at H
                have c30b0 : decide (0 ≤ (rd t663 (ji20))) = true := decide_eq_true c30
                clear c30
                have c31 : (rd t663 (ji20)) < (l0.length : Int) := fl_ fun c31 => by rw [if_neg c31] at H; exact absurd H (by simp)
                rw [if_pos c31] at H
                have c31b0 : decide ((rd t663 (ji20)) < (l0.length : Int)) = true := decide_eq_true c31
                clear c31
                have c32 : (rd t663 (ji20)) < (x9_3.length : Int) := fl_ fun c32 => by rw [if_neg c32] at H; exact absurd H (by simp)
                rw [if_pos c32] at H
                have c32b0 : decide ((rd t663 (ji20)) < (x9_3.length : Int)) = true := decide_eq_true c32
                clear c32
                by_cases c33 : (wrap64 ((wrap64 (x10_3 * (rd l0 x12_5))) - (wrap64 ((rd x9_3 x12_5) * t660)))) > (wrap64 ((wrap64 (x10_3 * (rd l0 (rd t663 (ji20))))) - (wrap64 ((rd x9_3 (rd t663 (ji20))) * t660))))
                ·rw [if_pos c33] at H
                 have c33b0 : decide ((wrap64 ((wrap64 (x10_3 * (rd l0 (rd t663 (ji20))))) - (wrap64 ((rd x9_3 (rd t663 (ji20))) * t660)))) < (wrap64 ((wrap64 (x10_3 * (rd l0 x12_5))) - (wrap64 ((rd x9_3 x12_5) * t660))))) = true := decide_eq_true c33
                 clear c33
                 exact absurd (Option.some.inj (H.trans (congrArg some hr.out))) (by decide)
                ·rw [if_neg c33] at H
                 have c33b0 : decide ((wrap64 ((wrap64 (x10_3 * (rd l0 (rd t663 (ji20))))) - (wrap64 ((rd x9_3 (rd t663 (ji20))) * t660)))) < (wrap64 ((wrap64 (x10_3 * (rd l0 x12_5))) - (wrap64 ((rd x9_3 x12_5) * t660))))) = false := decide_eq_false c33
                 clear c33
                 by_cases c35 : (wrap64 ((wrap64 (x10_3 * (rd l0 x12_5))) - (wrap64 ((rd x9_3 x12_5) * t660)))) = (wrap64 ((wrap64 (x10_3 * (rd l0 (rd t663 (ji20))))) - (wrap64 ((rd x9_3 (rd t663 (ji20))) * t660))))
                 ·rw [if_pos c35] at H
                  have c35b0 : ((wrap64 ((wrap64 (x10_3 * (rd l0 x12_5))) - (wrap64 ((rd x9_3 x12_5) * t660)))) == (wrap64 ((wrap64 (x10_3 * (rd l0 (rd t663 (ji20))))) - (wrap64 ((rd x9_3 (rd t663 (ji20))) * t660))))) = true := beq_iff_eq.mpr c35
                  have c35b1 : ((wrap64 ((wrap64 (x10_3 * (rd l0 x12_5))) - (wrap64 ((rd x9_3 x12_5) * t660)))) != (wrap64 ((wrap64 (x10_3 * (rd l0 (rd t663 (ji20))))) - (wrap64 ((rd x9_3 (rd t663 (ji20))) * t660))))) = false := bne_eq_false_iff_eq.mpr c35
                  clear c35
                  by_cases c36 : x12_5 < (rd t663 (ji20))
                  ·rw [if_pos c36] at H
                   have c36b0 : decide (x12_5 < (rd t663 (ji20))) = true := decide_eq_true c36
                   clear c36
                   exact absurd (Option.some.inj (H.trans (congrArg some hr.out))) (by decide)
                  ·rw [if_neg c36] at H
                   have c36b0 : decide (x12_5 < (rd t663 (ji20))) = false := decide_eq_false c36
                   clear c36
                   have H' := Aside0.mk H
                   clear H
                   have p672 : 0 ≤ (x12_5 : Int) := od_
                   have q672 : x12_5 < (l0.length : Int) := od_
                   obtain ⟨ad672, e672, hx672_0⟩ := Kd.at_int HR0.out x12_5 p672 q672
                   cases e672
                   replace hx672_0 := (HB.out.cell (World.block_lt_of_cell? w _ hx672_0)).trans hx672_0
                   replace p672 := eq_true p672
                   replace q672 := eq_true q672
                   obtain ⟨Ao38, co38, eo38⟩ := Kd.R_slice HO_9.out
                   subst eo38
                   have p673 : 0 ≤ (x12_5 : Int) := od_
                   have q673 : x12_5 < (x9_3.length : Int) := od_
                   obtain ⟨ad673, e673, hx673_0⟩ := Kd.at_int (Kd.R_reads' HO_9.out).2.2 x12_5 p673 q673
                   cases e673
                   replace p673 := eq_true p673
                   replace q673 := eq_true q673
                   have p674 : 0 ≤ ((rd t663 (ji20)) : Int) := od_
                   have q674 : (rd t663 (ji20)) < (l0.length : Int) := od_
                   obtain ⟨ad674, e674, hx674_0⟩ := Kd.at_int HR0.out (rd t663 (ji20)) p674 q674
                   obtain rfl : ad672 = ad674 := (by injection e674)
                   replace hx674_0 := (HB.out.cell (World.block_lt_of_cell? w _ hx674_0)).trans hx674_0
                   replace p674 := eq_true p674
                   replace q674 := eq_true q674
                   have p675 : 0 ≤ ((rd t663 (ji20)) : Int) := od_
                   have q675 : (rd t663 (ji20)) < (x9_3.length : Int) := od_
                   obtain ⟨ad675, e675, hx675_0⟩ := Kd.at_int (Kd.R_reads' HO_9.out).2.2 (rd t663 (ji20)) p675 q675
                   obtain rfl : ad673 = ad675 := (by injection e675)
                   replace p675 := eq_true p675
                   replace q675 := eq_true q675
                   go_wp2
                   repeat (go_quiet (fail); try go_wp2)
                   go_roundg k5
                   case measure => have := HJ3.out; have := HJ9.out; have := HK3.out; have := HJ22.out; have := HK5.out; omega
                   case rel => exact ⟨(wrap64 (x12_5 + 1)), (by first | rfl | (simp; done) | (simp [*]; done)), H', ⟨by have := HJ3.out; have := HJ9.out; have := HK3.out; have := HJ22.out; have := HK5.out; omega⟩, ⟨kr_ HO_7.out⟩, ⟨kr_ HO_9.out⟩, ⟨bl_⟩⟩
                 ·rw [if_neg c35] at H
                  have c35b0 : ((wrap64 ((wrap64 (x10_3 * (rd l0 x12_5))) - (wrap64 ((rd x9_3 x12_5) * t660)))) == (wrap64 ((wrap64 (x10_3 * (rd l0 (rd t663 (ji20))))) - (wrap64 ((rd x9_3 (rd t663 (ji20))) * t660))))) = false := beq_eq_false_iff_ne.mpr c35
                  have c35b1 : ((wrap64 ((wrap64 (x10_3 * (rd l0 x12_5))) - (wrap64 ((rd x9_3 x12_5) * t660)))) != (wrap64 ((wrap64 (x10_3 * (rd l0 (rd t663 (ji20))))) - (wrap64 ((rd x9_3 (rd t663 (ji20))) * t660))))) = true := bne_iff_ne.mpr c35
                  have H' := Aside0.mk H
                  clear H
                  have p672 : 0 ≤ (x12_5 : Int) := od_
                  have q672 : x12_5 < (l0.length : Int) := od_
                  obtain ⟨ad672, e672, hx672_0⟩ := Kd.at_int HR0.out x12_5 p672 q672
                  cases e672
                  replace hx672_0 := (HB.out.cell (World.block_lt_of_cell? w _ hx672_0)).trans hx672_0
                  replace p672 := eq_true p672
                  replace q672 := eq_true q672
                  obtain ⟨Ao39, co39, eo39⟩ := Kd.R_slice HO_9.out
                  subst eo39
                  have p673 : 0 ≤ (x12_5 : Int) := od_
                  have q673 : x12_5 < (x9_3.length : Int) := od_
                  obtain ⟨ad673, e673, hx673_0⟩ := Kd.at_int (Kd.R_reads' HO_9.out).2.2 x12_5 p673 q673
                  cases e673
                  replace p673 := eq_true p673
                  replace q673 := eq_true q673
                  have p674 : 0 ≤ ((rd t663 (ji20)) : Int) := od_
                  have q674 : (rd t663 (ji20)) < (l0.length : Int) := od_
                  obtain ⟨ad674, e674, hx674_0⟩ := Kd.at_int HR0.out (rd t663 (ji20)) p674 q674
                  obtain rfl : ad672 = ad674 := (by injection e674)
                  replace hx674_0 := (HB.out.cell (World.block_lt_of_cell? w _ hx674_0)).trans hx674_0
                  replace p674 := eq_true p674
                  replace q674 := eq_true q674
                  have p675 : 0 ≤ ((rd t663 (ji20)) : Int) := od_
                  have q675 : (rd t663 (ji20)) < (x9_3.length : Int) := od_
                  obtain ⟨ad675, e675, hx675_0⟩ := Kd.at_int (Kd.R_reads' HO_9.out).2.2 (rd t663 (ji20)) p675 q675
                  obtain rfl : ad673 = ad675 := (by injection e675)
                  replace p675 := eq_true p675
                  replace q675 := eq_true q675
                  go_wp2
                  repeat (go_quiet (fail); try go_wp2)
                  go_roundg k5
                  case measure => have := HJ3.out; have := HJ9.out; have := HK3.out; have := HJ22.out; have := HK5.out; omega
                  case rel => exact ⟨(wrap64 (x12_5 + 1)), (by first | rfl | (simp; done) | (simp [*]; done)), H', ⟨by have := HJ3.out; have := HJ9.out; have := HK3.out; have := HJ22.out; have := HK5.out; omega⟩, ⟨kr_ HO_7.out⟩, ⟨kr_ HO_9.out⟩, ⟨bl_⟩⟩
               ·rw [if_neg c27] at H
                have c27b0 : decide (x12_5 < (l0.length : Int)) = false := decide_eq_false c27
                clear c27
                have c40 : 0 ≤ (rd t663 (ji20)) := fl_ fun c40 => by rw [if_neg c40] at H; exact absurd H (by simp)
                rw [if_pos c40] at H
                have c40b0 : decide (0 ≤ (rd t663 (ji20))) = true := decide_eq_true c40
                clear c40
                have c41 : (rd t663 (ji20)) < (x9_3.length : Int) := fl_ fun c41 => by rw [if_neg c41] at H; exact absurd H (by simp)
                rw [if_pos c41] at H
                have c41b0 : decide ((rd t663 (ji20)) < (x9_3.length : Int)) = true := decide_eq_true c41
                clear c41
                obtain ⟨y677, hy677⟩ : ∃ y_ : List Int, y_ = (x9_3.set ((rd t663 (ji20)) : Int).toNat (wrap64 ((rd x9_3 (rd t663 (ji20))) + 1))) := ⟨_, rfl⟩
                replace H : (trishawlaw01_TurnLags.l0 k5 l0 t660 t663 y677 (wrap64 (x10_3 + 1))) = some r := by first | (rw [hy677]; with_reducible exact H) | (have H2_ := (Option.bind_some _ _).symm.trans H; rw [hy677]; with_reducible exact H2_) | (have H2_ := (Option.bind_some _ _).symm.trans H; with_reducible exact H2_) | with_reducible exact H | (rw [hy677]; exact H) | exact H
                have Ny677 := Aside0.mk hy677
                clear hy677
                have H' := Aside0.mk H
                clear H
                obtain ⟨Ao43, co43, eo43⟩ := Kd.R_slice HO_9.out
                subst eo43
                have p676 : 0 ≤ ((rd t663 (ji20)) : Int) := od_
                have q676 : (rd t663 (ji20)) < (x9_3.length : Int) := od_
                obtain ⟨ad676, e676, hx676_0⟩ := Kd.at_int (Kd.R_reads' HO_9.out).2.2 (rd t663 (ji20)) p676 q676
                cases e676
                replace p676 := eq_true p676
                replace q676 := eq_true q676
                have p42 : 0 ≤ ((rd t663 (ji20)) : Int) := od_
                have q42 : ((rd t663 (ji20)) : Int) < ((x9_3.length : Int) : Int) := od_
                obtain ⟨go42, co42, eo42, gb42, gl42, cl42, HG42⟩ := Kd.R_form HO_9.out (by omega)
                (first | cases eo42 | (injection eo42 with ea_ en_ ec_; (first | subst ea_ | (injection ea_ with ea_; subst ea_)); subst ec_; clear en_))
                have GB42 := Aside0.mk gb42
                have GG42 := Aside0.mk HG42
                clear gb42 gl42 HG42
                (first | simp only [add_plain] at hx676_0 | skip)
                obtain ⟨hx42_0, hf42_0⟩ := Kd.R_celln 0 HO_9.out ((rd t663 (ji20)) : Int) p42 q42
                replace p42 := eq_true p42
                replace q42 := eq_true q42
                have HP44 := Kd.R_putg HO_9.out ((rd t663 (ji20)) : Int) (wrap64 ((rd x9_3 (rd t663 (ji20))) + 1))
                go_wp2_with (first | ((with_reducible refine gate_store (t := 3) (p := 118) rfl ?_); (try (rw [drewN_self wr]; generalize hq_ : World.drewN wr _ = wr; have n0_ := Aside0.mk (Kd.R_at hq_ HO_7.out); have n1_ := Aside0.mk (Kd.R_at hq_ HO_9.out); have n2_ := Aside0.mk (below_at hq_ HB.out); clear hq_ HO_7 HO_9 HB; have HO_7 := n0_; have HO_9 := n1_; have HB := n2_; clear n0_ n1_ n2_; (try (have HP44 := Kd.R_putg HO_9.out ((rd t663 (ji20)) : Int) (wrap64 ((rd x9_3 (rd t663 (ji20))) + 1)))))); refine store_event (t := 3) (p := 118) (v := ?vo_w45) (w1 := (wr.setCell ⟨go42, ((rd t663 (ji20)) : Int).toNat, none⟩ (.int .i64 (wrap64 ((rd x9_3 (rd t663 (ji20))) + 1))))) ?hg ?ho ?hn ?hr ?_; (case ho => rfl); (case hg => rfl); (case hn => rfl); (case hr => first | (go_simp; done) | (go_simp; rfl)); intro w45 hw; have hg : wr.grownBy w45 (some go42) := (by rw [hw]; exact HP44.2); have hp_ : Kd.R (Kd.int .i64) 3 w45 w.heap.size (fun k_ => some k_ ≠ (.slice (some ad671) t663.length co24 : Value).ownBlock) (.slice (some ⟨go42, 0, none⟩) x9_3.length co43) y677 := (by rw [hw, Ny677.out]; exact HP44.1); clear HP44; have n0_ := Aside0.mk (Kd.R_after (v := (.slice (some ⟨go42, 0, none⟩) x9_3.length co43)) (v1 := (.slice (some ⟨go42, 0, none⟩) x9_3.length co43)) (ok := (fun _ => True)) (by (with_reducible repeat (first | apply Kd.R_alloc | apply Kd.R_drewN | apply Kd.R_drew)); exact Kd.R_mono HO_7.out (fun _ hk => ⟨trivial, hk⟩)) hg (.inl rfl)); have n1_ := Aside0.mk (hp_); have n2_ := Aside0.mk ((by rw [hw]; exact below_set (HB.out) GB42.out : Below w.heap.size w w45)); clear HO_7; clear HO_9; clear HB; have HO_7 := n0_; have HO_9 := n1_; have HB := n2_; clear n0_ n1_ n2_; clear hg hw hp_))
                repeat (go_quiet (first | ((with_reducible refine gate_store (t := 3) (p := 118) rfl ?_); (try (rw [drewN_self wr]; generalize hq_ : World.drewN wr _ = wr; have n0_ := Aside0.mk (Kd.R_at hq_ HO_7.out); have n1_ := Aside0.mk (Kd.R_at hq_ HO_9.out); have n2_ := Aside0.mk (below_at hq_ HB.out); clear hq_ HO_7 HO_9 HB; have HO_7 := n0_; have HO_9 := n1_; have HB := n2_; clear n0_ n1_ n2_; (try (have HP44 := Kd.R_putg HO_9.out ((rd t663 (ji20)) : Int) (wrap64 ((rd x9_3 (rd t663 (ji20))) + 1)))))); refine store_event (t := 3) (p := 118) (v := ?vo_w45) (w1 := (wr.setCell ⟨go42, ((rd t663 (ji20)) : Int).toNat, none⟩ (.int .i64 (wrap64 ((rd x9_3 (rd t663 (ji20))) + 1))))) ?hg ?ho ?hn ?hr ?_; (case ho => rfl); (case hg => rfl); (case hn => rfl); (case hr => first | (go_simp; done) | (go_simp; rfl)); intro w45 hw; have hg : wr.grownBy w45 (some go42) := (by rw [hw]; exact HP44.2); have hp_ : Kd.R (Kd.int .i64) 3 w45 w.heap.size (fun k_ => some k_ ≠ (.slice (some ad671) t663.length co24 : Value).ownBlock) (.slice (some ⟨go42, 0, none⟩) x9_3.length co43) y677 := (by rw [hw, Ny677.out]; exact HP44.1); clear HP44; have n0_ := Aside0.mk (Kd.R_after (v := (.slice (some ⟨go42, 0, none⟩) x9_3.length co43)) (v1 := (.slice (some ⟨go42, 0, none⟩) x9_3.length co43)) (ok := (fun _ => True)) (by (with_reducible repeat (first | apply Kd.R_alloc | apply Kd.R_drewN | apply Kd.R_drew)); exact Kd.R_mono HO_7.out (fun _ hk => ⟨trivial, hk⟩)) hg (.inl rfl)); have n1_ := Aside0.mk (hp_); have n2_ := Aside0.mk ((by rw [hw]; exact below_set (HB.out) GB42.out : Below w.heap.size w w45)); clear HO_7; clear HO_9; clear HB; have HO_7 := n0_; have HO_9 := n1_; have HB := n2_; clear n0_ n1_ n2_; clear hg hw hp_)); try go_wp2_with (first | ((with_reducible refine gate_store (t := 3) (p := 118) rfl ?_); (try (rw [drewN_self wr]; generalize hq_ : World.drewN wr _ = wr; have n0_ := Aside0.mk (Kd.R_at hq_ HO_7.out); have n1_ := Aside0.mk (Kd.R_at hq_ HO_9.out); have n2_ := Aside0.mk (below_at hq_ HB.out); clear hq_ HO_7 HO_9 HB; have HO_7 := n0_; have HO_9 := n1_; have HB := n2_; clear n0_ n1_ n2_; (try (have HP44 := Kd.R_putg HO_9.out ((rd t663 (ji20)) : Int) (wrap64 ((rd x9_3 (rd t663 (ji20))) + 1)))))); refine store_event (t := 3) (p := 118) (v := ?vo_w45) (w1 := (wr.setCell ⟨go42, ((rd t663 (ji20)) : Int).toNat, none⟩ (.int .i64 (wrap64 ((rd x9_3 (rd t663 (ji20))) + 1))))) ?hg ?ho ?hn ?hr ?_; (case ho => rfl); (case hg => rfl); (case hn => rfl); (case hr => first | (go_simp; done) | (go_simp; rfl)); intro w45 hw; have hg : wr.grownBy w45 (some go42) := (by rw [hw]; exact HP44.2); have hp_ : Kd.R (Kd.int .i64) 3 w45 w.heap.size (fun k_ => some k_ ≠ (.slice (some ad671) t663.length co24 : Value).ownBlock) (.slice (some ⟨go42, 0, none⟩) x9_3.length co43) y677 := (by rw [hw, Ny677.out]; exact HP44.1); clear HP44; have n0_ := Aside0.mk (Kd.R_after (v := (.slice (some ⟨go42, 0, none⟩) x9_3.length co43)) (v1 := (.slice (some ⟨go42, 0, none⟩) x9_3.length co43)) (ok := (fun _ => True)) (by (with_reducible repeat (first | apply Kd.R_alloc | apply Kd.R_drewN | apply Kd.R_drew)); exact Kd.R_mono HO_7.out (fun _ hk => ⟨trivial, hk⟩)) hg (.inl rfl)); have n1_ := Aside0.mk (hp_); have n2_ := Aside0.mk ((by rw [hw]; exact below_set (HB.out) GB42.out : Below w.heap.size w w45)); clear HO_7; clear HO_9; clear HB; have HO_7 := n0_; have HO_9 := n1_; have HB := n2_; clear n0_ n1_ n2_; clear hg hw hp_)))
                go_roundg k5
                case measure => have := HJ3.out; have := HJ9.out; have := HK3.out; have := HJ22.out; have := HK5.out; omega
                case rel => exact ⟨(y677), (wrap64 (x10_3 + 1)), (by first | rfl | (simp; done) | (simp [*]; done)), H', ⟨by have := HJ3.out; have := HJ9.out; have := HK3.out; have := HJ22.out; have := HK5.out; omega⟩, ⟨by (with_reducible repeat (first | apply Kd.R_alloc | apply Kd.R_drewN | apply Kd.R_drew)); exact Kd.R_mono HO_7.out (fun _ hk => hk.2)⟩, ⟨kr_ HO_9.out⟩, ⟨bl_⟩⟩
         ·rw [if_neg c19] at H
          have c19b0 : decide (x10_3 ≤ (t663.length : Int)) = false := decide_eq_false c19
          clear c19
          replace H := Option.bind_eq_some_iff.mp H
          obtain ⟨t670, A460, H⟩ := H
          replace H : (some t670) = some r := H
          have A46 := Aside0.mk A460
          clear A460
          obtain rfl := Option.some.inj H
          obtain ⟨Ao47, co47, eo47⟩ := Kd.R_slice HO_7.out
          subst eo47
          go_wp2_with (first | (go_at_call 17; (with_reducible refine (trishawlaw01_alive.calls k3  t670 _ A46.out (HN.out.of (bl_))).mono ?_); rintro e w48 ⟨rfl, hb⟩; have n0_ := Aside0.mk (Kd.R_below (kr_ HO_7.out) hb); have n1_ := Aside0.mk (Kd.R_below (kr_ HO_9.out) hb); have n2_ := Aside0.mk (below_step (bl_) hb); clear HO_7; clear HO_9; clear HB; have HO_7 := n0_; have HO_9 := n1_; have HB := n2_; clear n0_ n1_ n2_; (try clear hb); (try clear hb2); (try clear hk); (try clear hi)))
          repeat (go_quiet (first | (go_at_call 17; (with_reducible refine (trishawlaw01_alive.calls k3  t670 _ A46.out (HN.out.of (bl_))).mono ?_); rintro e w48 ⟨rfl, hb⟩; have n0_ := Aside0.mk (Kd.R_below (kr_ HO_7.out) hb); have n1_ := Aside0.mk (Kd.R_below (kr_ HO_9.out) hb); have n2_ := Aside0.mk (below_step (bl_) hb); clear HO_7; clear HO_9; clear HB; have HO_7 := n0_; have HO_9 := n1_; have HB := n2_; clear n0_ n1_ n2_; (try clear hb); (try clear hb2); (try clear hk); (try clear hi))); try go_wp2_with (first | (go_at_call 17; (with_reducible refine (trishawlaw01_alive.calls k3  t670 _ A46.out (HN.out.of (bl_))).mono ?_); rintro e w48 ⟨rfl, hb⟩; have n0_ := Aside0.mk (Kd.R_below (kr_ HO_7.out) hb); have n1_ := Aside0.mk (Kd.R_below (kr_ HO_9.out) hb); have n2_ := Aside0.mk (below_step (bl_) hb); clear HO_7; clear HO_9; clear HB; have HO_7 := n0_; have HO_9 := n1_; have HB := n2_; clear n0_ n1_ n2_; (try clear hb); (try clear hb2); (try clear hk); (try clear hi))))
          go_ret
          exact ⟨by first | rfl | (simp [errW_none, errW_some] <;> rfl) | (simp [*, errW_none, errW_some] <;> rfl), bl_⟩

/-- THE ONE PURE STATEMENT of trishawlaw01_TurnLags: yours. -/
def trishawlaw01_TurnLags.Pure : Prop := ∀ (l0 : List Int) (a1 : Int), l0.length ≤ maxLen → l0.length * 8 ≤ 140737488351232 → (∀ x ∈ l0, (Lit.int .i64 x).wf = true) → (Lit.int .u16 a1).wf = true → ∃ k, trishawlaw01_TurnLags.f k l0 a1 = some true
theorem trishawlaw01_TurnLags.walk (P : trishawlaw01_TurnLags.Pure) (a0 : Option Addr) (len0 cap0 : Nat) (z0 : List Int) (a1 : Int) (w : World) (w0 : (a0 = none ∧ len0 = 0 ∧ cap0 = 0 ∧ z0 = []) ∨ ∃ x, a0 = some x ∧ len0 ≤ cap0 ∧ cap0 ≤ maxLen ∧ z0.length = cap0 ∧ (∀ i, i < z0.length → w.cell? (x.add i) = some (.int .i64 (z0.getD i 0))) ∧ ∀ n ∈ z0, (Lit.int .i64 n).wf = true) (y0 : len0 * 8 ≤ 140737488351232) (w1 : (Lit.int .u16 a1).wf = true) (hN0 : NoneLaid w) :
    Calls Tryd.prog 10 #[.slice a0 len0 cap0, .int .u16 a1] w fun e w' => e = .returned (.bool true) ∧ Below w.heap.size w w' := by
 obtain ⟨l0, rfl, hr0, hm0, hw0, hc0⟩ := ReadsInt.ofRowC w0
 obtain ⟨k, h⟩ := P l0 a1 hm0 y0 hw0 w1
 refine (trishawlaw01_TurnLags.calls k _ _ l0 a1 true w (Kd.C_of_reads (d := (0 : Int)) (h1 := fun _ => rfl) hr0) hc0 h hN0 rfl).mono ?_
 rintro e w' ⟨rfl, hd⟩
 exact ⟨rfl, hd⟩

end Go.Proofs.YtgobffgogmnmpaaDoor.P
