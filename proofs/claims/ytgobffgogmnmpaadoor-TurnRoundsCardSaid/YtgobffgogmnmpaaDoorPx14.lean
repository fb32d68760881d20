-- Written by wip/tools/myprint.py of this session's repo, over the kit's printer and hand texts.
import Derived.Test.YtgobffgogmnmpaaDoorPx0
import Derived.Test.YtgobffgogmnmpaaDoorPre
import Derived.Test.YtgobffgogmnmpaaDoorPx10
import Derived.Test.YtgobffgogmnmpaaDoorPx11
import Derived.Test.YtgobffgogmnmpaaDoorPx12
import Derived.Test.YtgobffgogmnmpaaDoorPx13
namespace Go.Proofs.YtgobffgogmnmpaaDoor.P
open Go.RowKit Go.Proofs.YtgobffgogmnmpaaDoorW.PrintWords Go.Proofs.YtgobffgogmnmpaaDoorW.PrintLast Go.Proofs.YtgobffgogmnmpaaDoorW.PrintMore
attribute [local go_sem] max2_int min2_int max_two min_two max_three min_three max_four min_four   -- for this text's walks alone
set_option linter.unusedVariables false
set_option linter.unusedSimpArgs false

/-! ### trishawref01_Round: function 21 -/
mutual
def trishawref01_Round.l0 : Nat → List Int → Int → List (List (S51)) → List Int → List Int → Int → Option (List Int × Int)
  | 0, _, _, _, _, _, _ => none
  | k + 1, x0, x4, x6, x7, x8, x9 => if x9 < x4 then (trishawref01_Round.l1 k x0 x4 x6 x7 x8 x9 0) else (some (x8, 0))
def trishawref01_Round.l1 : Nat → List Int → Int → List (List (S51)) → List Int → List Int → Int → Int → Option (List Int × Int)
  | 0, _, _, _, _, _, _, _ => none
  | k + 1, x0, x4, x6, x7, x8, x9, x10 => if x10 < (x0.length : Int) then (if 0 ≤ x10 then (if x10 < (x7.length : Int) then (if (rd x7 x10) = (rd x0 x10) then (trishawref01_Round.j2 k x0 x4 x6 x7 x8 x9 x10 true) else (if x10 < (x6.length : Int) then (if 0 ≤ (rd x7 x10) then (if (rd x7 x10) < ((rd_L2 x6 x10).length : Int) then (if ((rd_T51 (rd_L2 x6 x10) (rd x7 x10)).f0) > x9 then (trishawref01_Round.j2 k x0 x4 x6 x7 x8 x9 x10 true) else (trishawref01_Round.j2 k x0 x4 x6 x7 x8 x9 x10 (decide (((rd_T51 (rd_L2 x6 x10) (rd x7 x10)).f1) < x9)))) else (none)) else (none)) else (none))) else (none)) else (none)) else (trishawref01_Round.l0 k x0 x4 x6 x7 x8 (wrap64 (x9 + 1)))
def trishawref01_Round.j2 : Nat → List Int → Int → List (List (S51)) → List Int → List Int → Int → Int → Bool → Option (List Int × Int)
  | 0, _, _, _, _, _, _, _, _ => none
  | k + 1, x0, x4, x6, x7, x8, x9, x10, x77 => if x77 = true then (trishawref01_Round.l1 k x0 x4 x6 x7 x8 x9 (wrap64 (x10 + 1))) else (if 0 ≤ x10 then (if x10 < (x7.length : Int) then ((some (x7.set (x10 : Int).toNat (wrap64 ((rd x7 x10) + 1)) : List Int)).bind fun y361 => ((trishawref01_goes.f k x6 y361 (wrap64 (x9 + 1)) x4).bind fun t362 => (if t362 = true then (if x8.length < 17592186044416 then (trishawref01_Round.l0 k x0 x4 x6 y361 (x8 ++ [x10]) (wrap64 (x9 + 1))) else (none)) else (trishawref01_Round.l1 k x0 x4 x6 (y361.set (x10 : Int).toNat (wrap64 ((rd y361 x10) - 1))) x8 x9 (wrap64 (x10 + 1)))))) else (none)) else (none))
end
def trishawref01_Round.f (k : Nat) (l0 : List Int) : Option (List Int × Int) := (trishawref01_Shares.f k l0).bind fun bt343 => (if bt343.2 = 0 then ((trishawref01_least.f k l0 bt343.1).bind fun t345 => ((trishawref01_windows.f k l0 bt343.1 t345).bind fun t346 => (if 0 ≤ (l0.length : Int) then (if ((l0.length : Int) : Int).toNat ≤ 35184372088832 then (trishawref01_Round.l0 k l0 bt343.1 t346 (List.replicate ((l0.length : Int) : Int).toNat 0) ([] : List Int) 0) else (none)) else (none)))) else (some (([] : List Int), bt343.2)))
theorem trishawref01_Round.mono_l : ∀ k, (∀ y0 y1 y2 y3 y4 y5, LeO (trishawref01_Round.l0 k y0 y1 y2 y3 y4 y5) (trishawref01_Round.l0 (k + 1) y0 y1 y2 y3 y4 y5)) ∧ (∀ y0 y1 y2 y3 y4 y5 y6, LeO (trishawref01_Round.l1 k y0 y1 y2 y3 y4 y5 y6) (trishawref01_Round.l1 (k + 1) y0 y1 y2 y3 y4 y5 y6)) ∧ (∀ y0 y1 y2 y3 y4 y5 y6 y7, LeO (trishawref01_Round.j2 k y0 y1 y2 y3 y4 y5 y6 y7) (trishawref01_Round.j2 (k + 1) y0 y1 y2 y3 y4 y5 y6 y7))
  | 0 => ⟨fun _ _ _ _ _ _ r h => by simp [trishawref01_Round.l0] at h, fun _ _ _ _ _ _ _ r h => by simp [trishawref01_Round.l1] at h, fun _ _ _ _ _ _ _ _ r h => by simp [trishawref01_Round.j2] at h⟩
  | k + 1 => by
    obtain ⟨ih0, ih1, ih2⟩ := trishawref01_Round.mono_l k
    refine ⟨?_, ?_, ?_⟩
    · intro y0 y1 y2 y3 y4 y5
      unfold trishawref01_Round.l0
      repeat' first
      | (with_reducible exact ih0 _ _ _ _ _ _)
      | (with_reducible exact ih1 _ _ _ _ _ _ _)
      | (with_reducible exact ih2 _ _ _ _ _ _ _ _)
      | (with_reducible exact trishawref01_Shares.mono _ _)
      | (with_reducible exact trishawref01_goes.mono _ _ _ _ _)
      | (with_reducible exact trishawref01_least.mono _ _ _)
      | (with_reducible exact trishawref01_windows.mono _ _ _ _)
      | (with_reducible exact LeO.refl _)
      | (with_reducible exact LeO.none _)
      | (with_reducible refine LeO.ite ?_ ?_)
      | (with_reducible refine LeO.bind ?_ (fun _ => ?_))
      | exact ih0 _ _ _ _ _ _
      | exact ih1 _ _ _ _ _ _ _
      | exact ih2 _ _ _ _ _ _ _ _
      | exact trishawref01_Shares.mono _ _
      | exact trishawref01_goes.mono _ _ _ _ _
      | exact trishawref01_least.mono _ _ _
      | exact trishawref01_windows.mono _ _ _ _
      | exact LeO.none _
      | refine LeO.ite ?_ ?_
      | refine LeO.bind ?_ (fun _ => ?_)
    · intro y0 y1 y2 y3 y4 y5 y6
      unfold trishawref01_Round.l1
      repeat' first
      | (with_reducible exact ih0 _ _ _ _ _ _)
      | (with_reducible exact ih1 _ _ _ _ _ _ _)
      | (with_reducible exact ih2 _ _ _ _ _ _ _ _)
      | (with_reducible exact trishawref01_Shares.mono _ _)
      | (with_reducible exact trishawref01_goes.mono _ _ _ _ _)
      | (with_reducible exact trishawref01_least.mono _ _ _)
      | (with_reducible exact trishawref01_windows.mono _ _ _ _)
      | (with_reducible exact LeO.refl _)
      | (with_reducible exact LeO.none _)
      | (with_reducible refine LeO.ite ?_ ?_)
      | (with_reducible refine LeO.bind ?_ (fun _ => ?_))
      | exact ih0 _ _ _ _ _ _
      | exact ih1 _ _ _ _ _ _ _
      | exact ih2 _ _ _ _ _ _ _ _
      | exact trishawref01_Shares.mono _ _
      | exact trishawref01_goes.mono _ _ _ _ _
      | exact trishawref01_least.mono _ _ _
      | exact trishawref01_windows.mono _ _ _ _
      | exact LeO.none _
      | refine LeO.ite ?_ ?_
      | refine LeO.bind ?_ (fun _ => ?_)
    · intro y0 y1 y2 y3 y4 y5 y6 y7
      unfold trishawref01_Round.j2
      repeat' first
      | (with_reducible exact ih0 _ _ _ _ _ _)
      | (with_reducible exact ih1 _ _ _ _ _ _ _)
      | (with_reducible exact ih2 _ _ _ _ _ _ _ _)
      | (with_reducible exact trishawref01_Shares.mono _ _)
      | (with_reducible exact trishawref01_goes.mono _ _ _ _ _)
      | (with_reducible exact trishawref01_least.mono _ _ _)
      | (with_reducible exact trishawref01_windows.mono _ _ _ _)
      | (with_reducible exact LeO.refl _)
      | (with_reducible exact LeO.none _)
      | (with_reducible refine LeO.ite ?_ ?_)
      | (with_reducible refine LeO.bind ?_ (fun _ => ?_))
      | exact ih0 _ _ _ _ _ _
      | exact ih1 _ _ _ _ _ _ _
      | exact ih2 _ _ _ _ _ _ _ _
      | exact trishawref01_Shares.mono _ _
      | exact trishawref01_goes.mono _ _ _ _ _
      | exact trishawref01_least.mono _ _ _
      | exact trishawref01_windows.mono _ _ _ _
      | exact LeO.none _
      | refine LeO.ite ?_ ?_
      | refine LeO.bind ?_ (fun _ => ?_)
theorem trishawref01_Round.mono : ∀ a0 k, LeO (trishawref01_Round.f k a0) (trishawref01_Round.f (k + 1) a0) := by
  intro a0 k
  obtain ⟨ih0, ih1, ih2⟩ := trishawref01_Round.mono_l k
  unfold trishawref01_Round.f
  repeat' first
      | (with_reducible exact ih0 _ _ _ _ _ _)
      | (with_reducible exact ih1 _ _ _ _ _ _ _)
      | (with_reducible exact ih2 _ _ _ _ _ _ _ _)
      | (with_reducible exact trishawref01_Shares.mono _ _)
      | (with_reducible exact trishawref01_goes.mono _ _ _ _ _)
      | (with_reducible exact trishawref01_least.mono _ _ _)
      | (with_reducible exact trishawref01_windows.mono _ _ _ _)
      | (with_reducible exact LeO.refl _)
      | (with_reducible exact LeO.none _)
      | (with_reducible refine LeO.ite ?_ ?_)
      | (with_reducible refine LeO.bind ?_ (fun _ => ?_))
      | exact ih0 _ _ _ _ _ _
      | exact ih1 _ _ _ _ _ _ _
      | exact ih2 _ _ _ _ _ _ _ _
      | exact trishawref01_Shares.mono _ _
      | exact trishawref01_goes.mono _ _ _ _ _
      | exact trishawref01_least.mono _ _ _
      | exact trishawref01_windows.mono _ _ _ _
      | exact LeO.none _
      | refine LeO.ite ?_ ?_
      | refine LeO.bind ?_ (fun _ => ?_)
set_option maxHeartbeats 8000000 in
set_option maxRecDepth 100000 in
theorem trishawref01_Round.calls (k : Nat) (A0 : Option Addr) (c0 : Nat) (l0 : List Int) (r1 : List Int) (r2 : Int) (w : World) (hr0 : Kd.C (Kd.int .i64) w A0 l0.length l0) (hc0 : l0.length ≤ c0) (h : trishawref01_Round.f k l0 = some (r1, r2)) :
    Calls Tryd.prog 21 #[.slice A0 l0.length c0] w fun e w' => ∃ v0_ : Value, e = .returned (.tuple #[v0_, .int .i64 r2]) ∧ Kd.R (Kd.int .i64) 3 w' w.heap.size (fun _ => True) v0_ r1 ∧ Below w.heap.size w w' := by
 have HR0 := Aside0.mk hr0
 have HC0 := Aside0.mk hc0
 clear hr0 hc0
 have HB := Aside0.mk (Below.refl w.heap.size w)
 have H : ((trishawref01_Shares.f k l0).bind fun bt343 => (if bt343.2 = 0 then ((trishawref01_least.f k l0 bt343.1).bind fun t345 => ((trishawref01_windows.f k l0 bt343.1 t345).bind fun t346 => (if 0 ≤ (l0.length : Int) then (if ((l0.length : Int) : Int).toNat ≤ 35184372088832 then (trishawref01_Round.l0 k l0 bt343.1 t346 (List.replicate ((l0.length : Int) : Int).toNat 0) ([] : List Int) 0) else (none)) else (none)))) else (some (([] : List Int), bt343.2)))) = some (r1, r2) := h
 clear h
 replace H := Option.bind_eq_some_iff.mp H
 obtain ⟨⟨t343, t344⟩, A20, H⟩ := H
 replace H : (if t344 = 0 then ((trishawref01_least.f k l0 t343).bind fun t345 => ((trishawref01_windows.f k l0 t343 t345).bind fun t346 => (if 0 ≤ (l0.length : Int) then (if ((l0.length : Int) : Int).toNat ≤ 35184372088832 then (trishawref01_Round.l0 k l0 t343 t346 (List.replicate ((l0.length : Int) : Int).toNat 0) ([] : List Int) 0) else (none)) else (none)))) else (some (([] : List Int), t344))) = some (r1, r2) := H
 have A2 := Aside0.mk A20
 clear A20
 by_cases c3 : t344 = 0
 ·rw [if_pos c3] at H
  have c3b0 : (t344 == 0) = true := beq_iff_eq.mpr c3
  have c3b1 : (t344 != 0) = false := bne_eq_false_iff_eq.mpr c3
  clear c3
  replace H := Option.bind_eq_some_iff.mp H
  obtain ⟨t345, A40, H⟩ := H
  replace H : ((trishawref01_windows.f k l0 t343 t345).bind fun t346 => (if 0 ≤ (l0.length : Int) then (if ((l0.length : Int) : Int).toNat ≤ 35184372088832 then (trishawref01_Round.l0 k l0 t343 t346 (List.replicate ((l0.length : Int) : Int).toNat 0) ([] : List Int) 0) else (none)) else (none))) = some (r1, r2) := H
  have A4 := Aside0.mk A40
  clear A40
  replace H := Option.bind_eq_some_iff.mp H
  obtain ⟨t346, A50, H⟩ := H
  replace H : (if 0 ≤ (l0.length : Int) then (if ((l0.length : Int) : Int).toNat ≤ 35184372088832 then (trishawref01_Round.l0 k l0 t343 t346 (List.replicate ((l0.length : Int) : Int).toNat 0) ([] : List Int) 0) else (none)) else (none)) = some (r1, r2) := H
  have A5 := Aside0.mk A50
  clear A50
  have c6 : 0 ≤ (l0.length : Int) := fl_ fun c6 => by rw [if_neg c6] at H; exact absurd H (by simp)
  rw [if_pos c6] at H
  have c6b0 := eq_true c6
  have c6b1 : decide (0 ≤ (l0.length : Int)) = true := decide_eq_true c6
  clear c6
  have c7 : ((l0.length : Int) : Int).toNat ≤ 35184372088832 := fl_ fun c7 => by rw [if_neg c7] at H; exact absurd H (by simp)
  rw [if_pos c7] at H
  have c7b0 := eq_true c7
  have c7b1 : decide (((l0.length : Int) : Int).toNat ≤ 35184372088832) = true := decide_eq_true c7
  clear c7
  obtain ⟨y349, hy349⟩ : ∃ y_ : List Int, y_ = (List.replicate ((l0.length : Int) : Int).toNat 0) := ⟨_, rfl⟩
  replace H : (trishawref01_Round.l0 k l0 t343 t346 y349 ([] : List Int) 0) = some (r1, r2) := by first | (rw [hy349]; with_reducible exact H) | (have H2_ := (Option.bind_some _ _).symm.trans H; rw [hy349]; with_reducible exact H2_) | (have H2_ := (Option.bind_some _ _).symm.trans H; with_reducible exact H2_) | with_reducible exact H | (rw [hy349]; exact H) | exact H
  have Ny349 := Aside0.mk hy349
  clear hy349
  have H' := Aside0.mk H
  clear H
  go_enter Tryd.func21, Tryd.ntmps21
  go_wp2_with (first | (go_at_call 23; (with_reducible refine (trishawref01_Shares.calls k _ _ l0 t343 t344 _ ?side1 ?side2 A2.out).mono ?_); (case side1 => repeat (first | exact HR0.out | (with_reducible refine Kd.C_alloc ?_ _) | (with_reducible refine Kd.C_drewN ?_ _) | (with_reducible refine Kd.C_drew ?_))); (case side2 => exact HC0.out); rintro e w' ⟨rfl, ⟨nd, rfl⟩⟩; (try first | exact ⟨rfl, _, World.drewN_drewN _ _ _⟩ | exact ⟨rfl, _, Eq.trans (World.drewN_drewN _ _ _) (congrArg (World.drewN _) (Nat.add_assoc _ _ _))⟩)) | (go_at_call 45; (with_reducible refine (trishawref01_least.calls k _ _ l0 t343 t345 _ ?side1 ?side2 A4.out).mono ?_); (case side1 => repeat (first | exact HR0.out | (with_reducible refine Kd.C_alloc ?_ _) | (with_reducible refine Kd.C_drewN ?_ _) | (with_reducible refine Kd.C_drew ?_))); (case side2 => exact HC0.out); rintro e w8 ⟨rfl, hb⟩; have n0_ := Aside0.mk (below_step (bl_) hb); clear HB; have HB := n0_; clear n0_; (try clear hb); (try clear hb2); (try clear hk); (try clear hi)) | (go_at_call 48; (with_reducible refine (trishawref01_windows.calls k _ _ l0 t343 t345 t346 _ ?side1 ?side2 A5.out).mono ?_); (case side1 => repeat (first | exact (Kd.C_below HR0.out HB.out) | (with_reducible refine Kd.C_alloc ?_ _) | (with_reducible refine Kd.C_drewN ?_ _) | (with_reducible refine Kd.C_drew ?_))); (case side2 => exact HC0.out); rintro e w9 ⟨v347, rfl, ho0, hb⟩; have n0_ := Aside0.mk (Kd.S_lower ho0 (below_size (bl_))); have n1_ := Aside0.mk (below_step (bl_) hb); clear HB; have HO348 := n0_; have HB := n1_; clear n0_ n1_; (try clear hb); (try clear hb2); (try clear hk); (try clear hi); (try clear ho0)) | ((with_reducible refine gate_dst (N := 27) rfl ?_); refine Kd.R_make (Kd.int .i64) _ 3 rfl (N := 27) rfl 22 _ _ rfl (l0.length : Int) rfl rfl Tryd.underlying22 (.int .i64 0) 8 info3 rfl (by decide) (by omega) 0 (ok := fun _ => True) (okp := fun _ => True) rfl (fun _ hk => hk) trivial (od_) (Nat.le_trans (Nat.mul_le_mul_right _ (od_ : (l0.length : Int).toNat ≤ 35184372088832)) (by omega)) (Below.refl _ _) (Nat.le_refl _) ?_; intro v350 w10 ho11 hb hg_ hnew_; clear hg_ hnew_; (first | rw [← Ny349.out] at ho11 | (simp only [Int.reduceToNat] at ho11; rw [← Ny349.out] at ho11)); have n0_ := Aside0.mk (Kd.S_below (ks_ HO348.out) hb); have n1_ := Aside0.mk (Kd.R_lower ho11 (below_size (bl_))); have n2_ := Aside0.mk (below_step (bl_) hb); clear HO348; clear HB; have HO348 := n0_; have HO351 := n1_; have HB := n2_; clear n0_ n1_ n2_; clear hb ho11))
  repeat (go_quiet (first | (go_at_call 23; (with_reducible refine (trishawref01_Shares.calls k _ _ l0 t343 t344 _ ?side1 ?side2 A2.out).mono ?_); (case side1 => repeat (first | exact HR0.out | (with_reducible refine Kd.C_alloc ?_ _) | (with_reducible refine Kd.C_drewN ?_ _) | (with_reducible refine Kd.C_drew ?_))); (case side2 => exact HC0.out); rintro e w' ⟨rfl, ⟨nd, rfl⟩⟩; (try first | exact ⟨rfl, _, World.drewN_drewN _ _ _⟩ | exact ⟨rfl, _, Eq.trans (World.drewN_drewN _ _ _) (congrArg (World.drewN _) (Nat.add_assoc _ _ _))⟩)) | (go_at_call 45; (with_reducible refine (trishawref01_least.calls k _ _ l0 t343 t345 _ ?side1 ?side2 A4.out).mono ?_); (case side1 => repeat (first | exact HR0.out | (with_reducible refine Kd.C_alloc ?_ _) | (with_reducible refine Kd.C_drewN ?_ _) | (with_reducible refine Kd.C_drew ?_))); (case side2 => exact HC0.out); rintro e w8 ⟨rfl, hb⟩; have n0_ := Aside0.mk (below_step (bl_) hb); clear HB; have HB := n0_; clear n0_; (try clear hb); (try clear hb2); (try clear hk); (try clear hi)) | (go_at_call 48; (with_reducible refine (trishawref01_windows.calls k _ _ l0 t343 t345 t346 _ ?side1 ?side2 A5.out).mono ?_); (case side1 => repeat (first | exact (Kd.C_below HR0.out HB.out) | (with_reducible refine Kd.C_alloc ?_ _) | (with_reducible refine Kd.C_drewN ?_ _) | (with_reducible refine Kd.C_drew ?_))); (case side2 => exact HC0.out); rintro e w9 ⟨v347, rfl, ho0, hb⟩; have n0_ := Aside0.mk (Kd.S_lower ho0 (below_size (bl_))); have n1_ := Aside0.mk (below_step (bl_) hb); clear HB; have HO348 := n0_; have HB := n1_; clear n0_ n1_; (try clear hb); (try clear hb2); (try clear hk); (try clear hi); (try clear ho0)) | ((with_reducible refine gate_dst (N := 27) rfl ?_); refine Kd.R_make (Kd.int .i64) _ 3 rfl (N := 27) rfl 22 _ _ rfl (l0.length : Int) rfl rfl Tryd.underlying22 (.int .i64 0) 8 info3 rfl (by decide) (by omega) 0 (ok := fun _ => True) (okp := fun _ => True) rfl (fun _ hk => hk) trivial (od_) (Nat.le_trans (Nat.mul_le_mul_right _ (od_ : (l0.length : Int).toNat ≤ 35184372088832)) (by omega)) (Below.refl _ _) (Nat.le_refl _) ?_; intro v350 w10 ho11 hb hg_ hnew_; clear hg_ hnew_; (first | rw [← Ny349.out] at ho11 | (simp only [Int.reduceToNat] at ho11; rw [← Ny349.out] at ho11)); have n0_ := Aside0.mk (Kd.S_below (ks_ HO348.out) hb); have n1_ := Aside0.mk (Kd.R_lower ho11 (below_size (bl_))); have n2_ := Aside0.mk (below_step (bl_) hb); clear HO348; clear HB; have HO348 := n0_; have HO351 := n1_; have HB := n2_; clear n0_ n1_ n2_; clear hb ho11)); try go_wp2_with (first | (go_at_call 23; (with_reducible refine (trishawref01_Shares.calls k _ _ l0 t343 t344 _ ?side1 ?side2 A2.out).mono ?_); (case side1 => repeat (first | exact HR0.out | (with_reducible refine Kd.C_alloc ?_ _) | (with_reducible refine Kd.C_drewN ?_ _) | (with_reducible refine Kd.C_drew ?_))); (case side2 => exact HC0.out); rintro e w' ⟨rfl, ⟨nd, rfl⟩⟩; (try first | exact ⟨rfl, _, World.drewN_drewN _ _ _⟩ | exact ⟨rfl, _, Eq.trans (World.drewN_drewN _ _ _) (congrArg (World.drewN _) (Nat.add_assoc _ _ _))⟩)) | (go_at_call 45; (with_reducible refine (trishawref01_least.calls k _ _ l0 t343 t345 _ ?side1 ?side2 A4.out).mono ?_); (case side1 => repeat (first | exact HR0.out | (with_reducible refine Kd.C_alloc ?_ _) | (with_reducible refine Kd.C_drewN ?_ _) | (with_reducible refine Kd.C_drew ?_))); (case side2 => exact HC0.out); rintro e w8 ⟨rfl, hb⟩; have n0_ := Aside0.mk (below_step (bl_) hb); clear HB; have HB := n0_; clear n0_; (try clear hb); (try clear hb2); (try clear hk); (try clear hi)) | (go_at_call 48; (with_reducible refine (trishawref01_windows.calls k _ _ l0 t343 t345 t346 _ ?side1 ?side2 A5.out).mono ?_); (case side1 => repeat (first | exact (Kd.C_below HR0.out HB.out) | (with_reducible refine Kd.C_alloc ?_ _) | (with_reducible refine Kd.C_drewN ?_ _) | (with_reducible refine Kd.C_drew ?_))); (case side2 => exact HC0.out); rintro e w9 ⟨v347, rfl, ho0, hb⟩; have n0_ := Aside0.mk (Kd.S_lower ho0 (below_size (bl_))); have n1_ := Aside0.mk (below_step (bl_) hb); clear HB; have HO348 := n0_; have HB := n1_; clear n0_ n1_; (try clear hb); (try clear hb2); (try clear hk); (try clear hi); (try clear ho0)) | ((with_reducible refine gate_dst (N := 27) rfl ?_); refine Kd.R_make (Kd.int .i64) _ 3 rfl (N := 27) rfl 22 _ _ rfl (l0.length : Int) rfl rfl Tryd.underlying22 (.int .i64 0) 8 info3 rfl (by decide) (by omega) 0 (ok := fun _ => True) (okp := fun _ => True) rfl (fun _ hk => hk) trivial (od_) (Nat.le_trans (Nat.mul_le_mul_right _ (od_ : (l0.length : Int).toNat ≤ 35184372088832)) (by omega)) (Below.refl _ _) (Nat.le_refl _) ?_; intro v350 w10 ho11 hb hg_ hnew_; clear hg_ hnew_; (first | rw [← Ny349.out] at ho11 | (simp only [Int.reduceToNat] at ho11; rw [← Ny349.out] at ho11)); have n0_ := Aside0.mk (Kd.S_below (ks_ HO348.out) hb); have n1_ := Aside0.mk (Kd.R_lower ho11 (below_size (bl_))); have n2_ := Aside0.mk (below_step (bl_) hb); clear HO348; clear HB; have HO348 := n0_; have HO351 := n1_; have HB := n2_; clear n0_ n1_ n2_; clear hb ho11)))
  go_loopg [8, 9] k (fun kq v8 v9 w' => ∃ (x7_1 : List Int) (x8_1 : List Int) (x9_1 : Int), v9 = .int .i64 x9_1 ∧ Aside0 (trishawref01_Round.l0 kq l0 t343 t346 x7_1 x8_1 x9_1 = some (r1, r2)) ∧ Aside0 (kq ≤ k) ∧ Aside0 (Kd.S (Kd.slice 51 k51) 49 w' w.heap.size (fun _ => True) v347 t346) ∧ Aside0 (Kd.R (Kd.int .i64) 3 w' w.heap.size (fun k_ => some k_ ≠ (v8 : Value).ownBlock) v350 x7_1) ∧ Aside0 (Kd.R (Kd.int .i64) 3 w' w.heap.size (fun k_ => some k_ ≠ (v350 : Value).ownBlock) v8 x8_1) ∧ Aside0 (Below w.heap.size w w'))
  case atStart => exact ⟨(y349), (([] : List Int)), (0), (by first | rfl | (simp; done) | (simp [*]; done)), H', ⟨Nat.le_refl _⟩, ⟨ks_ HO348.out⟩, ⟨by (with_reducible repeat (first | apply Kd.R_alloc | apply Kd.R_drewN | apply Kd.R_drew)); exact Kd.R_mono HO351.out (fun _ hk => (by simp [Value.ownBlock]))⟩, ⟨by first | exact Kd.R_nil _ _ _ _ _ | exact Kd.N_nil _ _ _ _ _ | exact Kd.V_nil _ _ _ _ _ | exact Kd.Q_nil _ _ _ _ _ | exact Kd.S_nil _ _ _ _ _⟩, ⟨bl_⟩⟩
  case round =>
   clear H'
   try clear c2
   try clear p2
   try clear c3
   try clear c3b0
   try clear c3b1
   try clear c6
   try clear c6b0
   try clear c6b1
   try clear c7
   try clear c7b0
   try clear c7b1
   obtain ⟨x7_1, x8_1, x9_1, rfl, HA, HK1, HO_6, HO_7, HO_8, HB⟩ := hrel
   cases gk with
   | zero => exact absurd HA.out (by simp [trishawref01_Round.l0])
   | succ k1 =>
    have H := HA.out
    clear HA
    simp only [trishawref01_Round.l0] at H
    by_cases c12 : x9_1 < t343
    ·rw [if_pos c12] at H
     have c12b0 : decide (x9_1 < t343) = true := decide_eq_true c12
     clear c12
     have H' := Aside0.mk H
     clear H
     go_wp2
     repeat (go_quiet (fail); try go_wp2)
     go_loopg [8, 10] k1 (fun kq v8 v10 w' => ∃ (x7_2 : List Int) (x8_2 : List Int) (x10_2 : Int), v10 = .int .i64 x10_2 ∧ Aside0 (trishawref01_Round.l1 kq l0 t343 t346 x7_2 x8_2 x9_1 x10_2 = some (r1, r2)) ∧ Aside0 (kq ≤ k1) ∧ Aside0 (Kd.S (Kd.slice 51 k51) 49 w' w.heap.size (fun _ => True) v347 t346) ∧ Aside0 (Kd.R (Kd.int .i64) 3 w' w.heap.size (fun k_ => some k_ ≠ (v8 : Value).ownBlock) v350 x7_2) ∧ Aside0 (Kd.R (Kd.int .i64) 3 w' w.heap.size (fun k_ => some k_ ≠ (v350 : Value).ownBlock) v8 x8_2) ∧ Aside0 (Below w.heap.size w w'))
     case atStart => exact ⟨(x7_1), (x8_1), (0), (by first | rfl | (simp; done) | (simp [*]; done)), H', ⟨Nat.le_refl _⟩, ⟨ks_ HO_6.out⟩, ⟨kr_ HO_7.out⟩, ⟨kr_ HO_8.out⟩, ⟨bl_⟩⟩
     case round =>
      clear H'
      try clear c1
      try clear c2
      try clear p2
      try clear c3
      try clear c3b0
      try clear c3b1
      try clear c6
      try clear c6b0
      try clear c6b1
      try clear c7
      try clear c7b0
      try clear c7b1
      try clear c12
      try clear c12b0
      try clear p2
      obtain ⟨x7_2, x8_2, x10_2, rfl, HA, HK2, HO_6, HO_7, HO_8, HB⟩ := hrel
      cases gk with
      | zero => exact absurd HA.out (by simp [trishawref01_Round.l1])
      | succ k2 =>
       have H := HA.out
       clear HA
       simp only [trishawref01_Round.l1] at H
       by_cases c13 : x10_2 < (l0.length : Int)
       ·rw [if_pos c13] at H
        have c13b0 : decide (x10_2 < (l0.length : Int)) = true := decide_eq_true c13
        clear c13
        have HC14 := Aside0.mk H
        clear H
        go_upto_region 13 with (fail)
        repeat (go_quiet (fail); go_upto_region 13 with (fail))
        go_cut [77] (fun v77 wc => ∃ (kq : Nat) (x77_13 : Bool), v77 = .bool x77_13 ∧ Aside0 (trishawref01_Round.j2 kq l0 t343 t346 x7_2 x8_2 x9_1 x10_2 x77_13 = some (r1, r2)) ∧ Aside0 (kq ≤ k2) ∧ Aside0 (Kd.S (Kd.slice 51 k51) 49 wc w.heap.size (fun _ => True) v347 t346) ∧ Aside0 (Kd.R (Kd.int .i64) 3 wc w.heap.size (fun k_ => some k_ ≠ (u8 : Value).ownBlock) v350 x7_2) ∧ Aside0 (Kd.R (Kd.int .i64) 3 wc w.heap.size (fun k_ => some k_ ≠ (v350 : Value).ownBlock) u8 x8_2) ∧ Aside0 (Below w.heap.size w wc))
        case first =>
         have H := HC14.out
         clear HC14
         have c15 : 0 ≤ x10_2 := fl_ fun c15 => by rw [if_neg c15] at H; exact absurd H (by simp)
         rw [if_pos c15] at H
         have c15b0 : decide (0 ≤ x10_2) = true := decide_eq_true c15
         clear c15
         (first | rw [c15b0] | (simp only [i64_w, i32_w]; rw [c15b0]) | skip)
         have c16 : x10_2 < (x7_2.length : Int) := fl_ fun c16 => by rw [if_neg c16] at H; exact absurd H (by simp)
         rw [if_pos c16] at H
         have c16b0 : decide (x10_2 < (x7_2.length : Int)) = true := decide_eq_true c16
         clear c16
         by_cases c17 : (rd x7_2 x10_2) = (rd l0 x10_2)
         ·rw [if_pos c17] at H
          have c17b0 : ((rd x7_2 x10_2) == (rd l0 x10_2)) = true := beq_iff_eq.mpr c17
          have c17b1 : ((rd x7_2 x10_2) != (rd l0 x10_2)) = false := bne_eq_false_iff_eq.mpr c17
          clear c17
          have H' := Aside0.mk H
          clear H
          obtain ⟨Ao18, co18, eo18⟩ := Kd.R_slice HO_7.out
          subst eo18
          have p352 : 0 ≤ (x10_2 : Int) := od_
          have q352 : x10_2 < (x7_2.length : Int) := od_
          obtain ⟨ad352, e352, hx352_0⟩ := Kd.at_int (Kd.R_reads' HO_7.out).2.2 x10_2 p352 q352
          cases e352
          replace p352 := eq_true p352
          replace q352 := eq_true q352
          have p353 : 0 ≤ (x10_2 : Int) := od_
          have q353 : x10_2 < (l0.length : Int) := od_
          obtain ⟨ad353, e353, hx353_0⟩ := Kd.at_int HR0.out x10_2 p353 q353
          cases e353
          replace hx353_0 := (HB.out.cell (World.block_lt_of_cell? w _ hx353_0)).trans hx353_0
          replace p353 := eq_true p353
          replace q353 := eq_true q353
          go_wp2
          repeat (go_quiet (fail); try go_wp2)
          go_meet
          case rel => exact ⟨_, (true), (by first | rfl | (simp; done) | (simp [*]; done)), H', ⟨by have := HK1.out; have := HK2.out; first | omega | exact Nat.le_refl _⟩, ⟨ks_ HO_6.out⟩, ⟨kr_ HO_7.out⟩, ⟨kr_ HO_8.out⟩, ⟨bl_⟩⟩
         ·rw [if_neg c17] at H
          have c17b0 : ((rd x7_2 x10_2) == (rd l0 x10_2)) = false := beq_eq_false_iff_ne.mpr c17
          have c17b1 : ((rd x7_2 x10_2) != (rd l0 x10_2)) = true := bne_iff_ne.mpr c17
          have c19 : x10_2 < (t346.length : Int) := fl_ fun c19 => by rw [if_neg c19] at H; exact absurd H (by simp)
          rw [if_pos c19] at H
          have c19b0 : decide (x10_2 < (t346.length : Int)) = true := decide_eq_true c19
          clear c19
          have c20 : 0 ≤ (rd x7_2 x10_2) := fl_ fun c20 => by rw [if_neg c20] at H; exact absurd H (by simp)
          rw [if_pos c20] at H
          have c20b0 : decide (0 ≤ (rd x7_2 x10_2)) = true := decide_eq_true c20
          clear c20
          have c21 : (rd x7_2 x10_2) < ((rd_L2 t346 x10_2).length : Int) := fl_ fun c21 => by rw [if_neg c21] at H; exact absurd H (by simp)
          rw [if_pos c21] at H
          have c21b0 : decide ((rd x7_2 x10_2) < ((rd_L2 t346 x10_2).length : Int)) = true := decide_eq_true c21
          clear c21
          by_cases c22 : ((rd_T51 (rd_L2 t346 x10_2) (rd x7_2 x10_2)).f0) > x9_1
          ·rw [if_pos c22] at H
           have c22b0 : decide (x9_1 < ((rd_T51 (rd_L2 t346 x10_2) (rd x7_2 x10_2)).f0)) = true := decide_eq_true c22
           clear c22
           have H' := Aside0.mk H
           clear H
           obtain ⟨Ao23, co23, eo23⟩ := Kd.R_slice HO_7.out
           subst eo23
           have p352 : 0 ≤ (x10_2 : Int) := od_
           have q352 : x10_2 < (x7_2.length : Int) := od_
           obtain ⟨ad352, e352, hx352_0⟩ := Kd.at_int (Kd.R_reads' HO_7.out).2.2 x10_2 p352 q352
           cases e352
           replace p352 := eq_true p352
           replace q352 := eq_true q352
           have p353 : 0 ≤ (x10_2 : Int) := od_
           have q353 : x10_2 < (l0.length : Int) := od_
           obtain ⟨ad353, e353, hx353_0⟩ := Kd.at_int HR0.out x10_2 p353 q353
           cases e353
           replace hx353_0 := (HB.out.cell (World.block_lt_of_cell? w _ hx353_0)).trans hx353_0
           replace p353 := eq_true p353
           replace q353 := eq_true q353
           obtain ⟨Ao24, co24, eo24⟩ := Kd.S_slice HO_6.out
           subst eo24
           have p354 : 0 ≤ (x10_2 : Int) := od_
           have q354 : x10_2 < (t346.length : Int) := od_
           obtain ⟨ad354, A354_0, c354_0, e354, hx354_0, hl354_0, hi354_0⟩ := at_L2 (Kd.S_reads' HO_6.out).2.2 x10_2 p354 q354
           cases e354
           obtain ⟨ce354, hce354, hMe354, hcc354⟩ := Kd.S_get HO_6.out [] x10_2 p354 (by first | exact q354 | exact od_ | (have e_ := (Kd.S_reads' HO_6.out).1; omega))
           obtain ⟨ve354_0, rfl, ge354_0⟩ := hMe354
           have hv354_0 := hcc354 0 _ rfl
           rw [Nat.add_zero, show ((Kd.slice 51 k51)).sz = 1 from rfl, Nat.mul_one] at hv354_0
           replace hv354_0 := Option.some.inj (hv354_0.symm.trans hx354_0)
           rw [hv354_0] at ge354_0
           have HL354_0 := Aside0.mk (show Kd.R k51 51 _ _ _ _ (rd_L2 t346 x10_2) from ge354_0)
           clear hv354_0 ge354_0
           clear hcc354 hce354
           have HR354_0 := Aside0.mk hi354_0
           have HC354_0 := Aside0.mk hl354_0
           clear hi354_0 hl354_0
           replace p354 := eq_true p354
           replace q354 := eq_true q354
           have p355 : 0 ≤ (x10_2 : Int) := od_
           have q355 : x10_2 < (x7_2.length : Int) := od_
           obtain ⟨ad355, e355, hx355_0⟩ := Kd.at_int (Kd.R_reads' HO_7.out).2.2 x10_2 p355 q355
           obtain rfl : ad352 = ad355 := (by injection e355)
           replace p355 := eq_true p355
           replace q355 := eq_true q355
           have p356 : 0 ≤ ((rd x7_2 x10_2) : Int) := od_
           have q356 : (rd x7_2 x10_2) < ((rd_L2 t346 x10_2).length : Int) := od_
           obtain ⟨ad356, e356, hx356_0, hx356_1⟩ := at_T51 (by repeat (first | (with_reducible exact HR354_0.out) | (with_reducible refine Kd.C_alloc ?_ _) | (with_reducible refine Kd.C_drewN ?_ _) | (with_reducible refine Kd.C_drew ?_) | exact HR354_0.out)) (rd x7_2 x10_2) p356 q356
           cases e356
           replace p356 := eq_true p356
           replace q356 := eq_true q356
           go_wp2
           repeat (go_quiet (fail); try go_wp2)
           go_meet
           case rel => exact ⟨_, (true), (by first | rfl | (simp; done) | (simp [*]; done)), H', ⟨by have := HK1.out; have := HK2.out; first | omega | exact Nat.le_refl _⟩, ⟨ks_ HO_6.out⟩, ⟨kr_ HO_7.out⟩, ⟨kr_ HO_8.out⟩, ⟨bl_⟩⟩
          ·rw [if_neg c22] at H
           have c22b0 : decide (x9_1 < ((rd_T51 (rd_L2 t346 x10_2) (rd x7_2 x10_2)).f0)) = false := decide_eq_false c22
           clear c22
           have H' := Aside0.mk H
           clear H
           obtain ⟨Ao25, co25, eo25⟩ := Kd.R_slice HO_7.out
           subst eo25
           have p352 : 0 ≤ (x10_2 : Int) := od_
           have q352 : x10_2 < (x7_2.length : Int) := od_
           obtain ⟨ad352, e352, hx352_0⟩ := Kd.at_int (Kd.R_reads' HO_7.out).2.2 x10_2 p352 q352
           cases e352
           replace p352 := eq_true p352
           replace q352 := eq_true q352
           have p353 : 0 ≤ (x10_2 : Int) := od_
           have q353 : x10_2 < (l0.length : Int) := od_
           obtain ⟨ad353, e353, hx353_0⟩ := Kd.at_int HR0.out x10_2 p353 q353
           cases e353
           replace hx353_0 := (HB.out.cell (World.block_lt_of_cell? w _ hx353_0)).trans hx353_0
           replace p353 := eq_true p353
           replace q353 := eq_true q353
           obtain ⟨Ao26, co26, eo26⟩ := Kd.S_slice HO_6.out
           subst eo26
           have p354 : 0 ≤ (x10_2 : Int) := od_
           have q354 : x10_2 < (t346.length : Int) := od_
           obtain ⟨ad354, A354_0, c354_0, e354, hx354_0, hl354_0, hi354_0⟩ := at_L2 (Kd.S_reads' HO_6.out).2.2 x10_2 p354 q354
           cases e354
           obtain ⟨ce354, hce354, hMe354, hcc354⟩ := Kd.S_get HO_6.out [] x10_2 p354 (by first | exact q354 | exact od_ | (have e_ := (Kd.S_reads' HO_6.out).1; omega))
           obtain ⟨ve354_0, rfl, ge354_0⟩ := hMe354
           have hv354_0 := hcc354 0 _ rfl
           rw [Nat.add_zero, show ((Kd.slice 51 k51)).sz = 1 from rfl, Nat.mul_one] at hv354_0
           replace hv354_0 := Option.some.inj (hv354_0.symm.trans hx354_0)
           rw [hv354_0] at ge354_0
           have HL354_0 := Aside0.mk (show Kd.R k51 51 _ _ _ _ (rd_L2 t346 x10_2) from ge354_0)
           clear hv354_0 ge354_0
           clear hcc354 hce354
           have HR354_0 := Aside0.mk hi354_0
           have HC354_0 := Aside0.mk hl354_0
           clear hi354_0 hl354_0
           replace p354 := eq_true p354
           replace q354 := eq_true q354
           have p355 : 0 ≤ (x10_2 : Int) := od_
           have q355 : x10_2 < (x7_2.length : Int) := od_
           obtain ⟨ad355, e355, hx355_0⟩ := Kd.at_int (Kd.R_reads' HO_7.out).2.2 x10_2 p355 q355
           obtain rfl : ad352 = ad355 := (by injection e355)
           replace p355 := eq_true p355
           replace q355 := eq_true q355
           have p356 : 0 ≤ ((rd x7_2 x10_2) : Int) := od_
           have q356 : (rd x7_2 x10_2) < ((rd_L2 t346 x10_2).length : Int) := od_
           obtain ⟨ad356, e356, hx356_0, hx356_1⟩ := at_T51 (by repeat (first | (with_reducible exact HR354_0.out) | (with_reducible refine Kd.C_alloc ?_ _) | (with_reducible refine Kd.C_drewN ?_ _) | (with_reducible refine Kd.C_drew ?_) | exact HR354_0.out)) (rd x7_2 x10_2) p356 q356
           cases e356
           replace p356 := eq_true p356
           replace q356 := eq_true q356
           have p357 : 0 ≤ (x10_2 : Int) := od_
           have q357 : x10_2 < (t346.length : Int) := od_
           obtain ⟨ad357, A357_0, c357_0, e357, hx357_0, hl357_0, hi357_0⟩ := at_L2 (Kd.S_reads' HO_6.out).2.2 x10_2 p357 q357
           obtain rfl : ad354 = ad357 := (by injection e357)
           obtain ⟨ce357, hce357, hMe357, hcc357⟩ := Kd.S_get HO_6.out [] x10_2 p357 (by first | exact q357 | exact od_ | (have e_ := (Kd.S_reads' HO_6.out).1; omega))
           obtain ⟨ve357_0, rfl, ge357_0⟩ := hMe357
           have hv357_0 := hcc357 0 _ rfl
           rw [Nat.add_zero, show ((Kd.slice 51 k51)).sz = 1 from rfl, Nat.mul_one] at hv357_0
           replace hv357_0 := Option.some.inj (hv357_0.symm.trans hx357_0)
           rw [hv357_0] at ge357_0
           have HL357_0 := Aside0.mk (show Kd.R k51 51 _ _ _ _ (rd_L2 t346 x10_2) from ge357_0)
           clear hv357_0 ge357_0
           clear hcc357 hce357
           have HR357_0 := Aside0.mk hi357_0
           have HC357_0 := Aside0.mk hl357_0
           clear hi357_0 hl357_0
           replace p357 := eq_true p357
           replace q357 := eq_true q357
           have ea_ := Option.some.inj (hx354_0.symm.trans hx357_0)
           injection ea_ with ea_ en_ ec_
           subst ea_
           subst ec_
           clear en_
           have p358 : 0 ≤ (x10_2 : Int) := od_
           have q358 : x10_2 < (x7_2.length : Int) := od_
           obtain ⟨ad358, e358, hx358_0⟩ := Kd.at_int (Kd.R_reads' HO_7.out).2.2 x10_2 p358 q358
           obtain rfl : ad352 = ad358 := (by injection e358)
           replace p358 := eq_true p358
           replace q358 := eq_true q358
           have p359 : 0 ≤ ((rd x7_2 x10_2) : Int) := od_
           have q359 : (rd x7_2 x10_2) < ((rd_L2 t346 x10_2).length : Int) := od_
           obtain ⟨ad359, e359, hx359_0, hx359_1⟩ := at_T51 (by repeat (first | (with_reducible exact HR357_0.out) | (with_reducible refine Kd.C_alloc ?_ _) | (with_reducible refine Kd.C_drewN ?_ _) | (with_reducible refine Kd.C_drew ?_) | exact HR357_0.out)) (rd x7_2 x10_2) p359 q359
           cases e359
           replace p359 := eq_true p359
           replace q359 := eq_true q359
           go_wp2
           repeat (go_quiet (fail); try go_wp2)
           go_meet
           case rel => exact ⟨_, (decide (((rd_T51 (rd_L2 t346 x10_2) (rd x7_2 x10_2)).f1) < x9_1)), (by first | rfl | (simp; done) | (simp [*]; done)), H', ⟨by have := HK1.out; have := HK2.out; first | omega | exact Nat.le_refl _⟩, ⟨ks_ HO_6.out⟩, ⟨kr_ HO_7.out⟩, ⟨kr_ HO_8.out⟩, ⟨bl_⟩⟩
        case rest =>
         clear HC14
         try clear c1
         try clear c2
         try clear p2
         try clear c3
         try clear c3b0
         try clear c3b1
         try clear p3
         try clear q3
         try clear hx3
         try clear c6
         try clear c6b0
         try clear c6b1
         try clear c7
         try clear c7b0
         try clear c7b1
         try clear c12
         try clear c12b0
         try clear c13
         try clear c13b0
         try clear c15
         try clear c15b0
         try clear c16
         try clear c16b0
         try clear c17
         try clear c17b0
         try clear c17b1
         try clear c19
         try clear c19b0
         try clear c20
         try clear c20b0
         try clear c21
         try clear c21b0
         try clear c22
         try clear c22b0
         try clear hx352_0
         try clear hx353_0
         try clear hx354_0
         try clear hx355_0
         try clear hx356_0
         try clear hx356_1
         try clear hx357_0
         try clear hx358_0
         try clear hx359_0
         try clear hx359_1
         try clear p2
         try clear p352
         try clear p353
         try clear p354
         try clear p355
         try clear p356
         try clear p357
         try clear p358
         try clear p359
         try clear q352
         try clear q353
         try clear q354
         try clear q355
         try clear q356
         try clear q357
         try clear q358
         try clear q359
         obtain ⟨kq, x77_13, rfl, HA, HJ13, HO_6, HO_7, HO_8, HB⟩ := hcut
         cases kq with
         | zero => exact absurd HA.out (by simp [trishawref01_Round.j2])
         | succ kj13 =>
          have H := HA.out
          clear HA
          simp only [trishawref01_Round.j2] at H
          by_cases c27 : x77_13 = true
          ·subst c27
           have H1 : (trishawref01_Round.l1 kj13 l0 t343 t346 x7_2 x8_2 x9_1 (wrap64 (x10_2 + 1))) = some (r1, r2) := by rw [if_pos rfl] at H; exact H
           clear H
           have H := H1
           clear H1
           have H' := Aside0.mk H
           clear H
           go_wp2
           repeat (go_quiet (fail); try go_wp2)
           go_roundg kj13
           case measure => have := HK1.out; have := HK2.out; have := HJ13.out; omega
           case rel => exact ⟨(x7_2), (x8_2), (wrap64 (x10_2 + 1)), (by first | rfl | (simp; done) | (simp [*]; done)), H', ⟨by have := HK1.out; have := HK2.out; have := HJ13.out; omega⟩, ⟨ks_ HO_6.out⟩, ⟨kr_ HO_7.out⟩, ⟨kr_ HO_8.out⟩, ⟨bl_⟩⟩
          ·replace c27 := Bool.eq_false_iff.mpr c27
           subst c27
           have H1 : (if 0 ≤ x10_2 then (if x10_2 < (x7_2.length : Int) then ((some (x7_2.set (x10_2 : Int).toNat (wrap64 ((rd x7_2 x10_2) + 1)) : List Int)).bind fun y361 => ((trishawref01_goes.f kj13 t346 y361 (wrap64 (x9_1 + 1)) t343).bind fun t362 => (if t362 = true then (if x8_2.length < 17592186044416 then (trishawref01_Round.l0 kj13 l0 t343 t346 y361 (x8_2 ++ [x10_2]) (wrap64 (x9_1 + 1))) else (none)) else (trishawref01_Round.l1 kj13 l0 t343 t346 (y361.set (x10_2 : Int).toNat (wrap64 ((rd y361 x10_2) - 1))) x8_2 x9_1 (wrap64 (x10_2 + 1)))))) else (none)) else (none)) = some (r1, r2) := by rw [if_neg (show ¬ (false = true) by decide)] at H; exact H
           clear H
           have H := H1
           clear H1
           have c28 : 0 ≤ x10_2 := fl_ fun c28 => by rw [if_neg c28] at H; exact absurd H (by simp)
           rw [if_pos c28] at H
           have c28b0 : decide (0 ≤ x10_2) = true := decide_eq_true c28
           clear c28
           have c29 : x10_2 < (x7_2.length : Int) := fl_ fun c29 => by rw [if_neg c29] at H; exact absurd H (by simp)
           rw [if_pos c29] at H
           have c29b0 : decide (x10_2 < (x7_2.length : Int)) = true := decide_eq_true c29
           clear c29
           obtain ⟨y361, hy361⟩ : ∃ y_ : List Int, y_ = (x7_2.set (x10_2 : Int).toNat (wrap64 ((rd x7_2 x10_2) + 1))) := ⟨_, rfl⟩
           replace H : ((trishawref01_goes.f kj13 t346 y361 (wrap64 (x9_1 + 1)) t343).bind fun t362 => (if t362 = true then (if x8_2.length < 17592186044416 then (trishawref01_Round.l0 kj13 l0 t343 t346 y361 (x8_2 ++ [x10_2]) (wrap64 (x9_1 + 1))) else (none)) else (trishawref01_Round.l1 kj13 l0 t343 t346 (y361.set (x10_2 : Int).toNat (wrap64 ((rd y361 x10_2) - 1))) x8_2 x9_1 (wrap64 (x10_2 + 1))))) = some (r1, r2) := by first | (rw [hy361]; with_reducible exact H) | (have H2_ := (Option.bind_some _ _).symm.trans H; rw [hy361]; with_reducible exact H2_) | (have H2_ := (Option.bind_some _ _).symm.trans H; with_reducible exact H2_) | with_reducible exact H | (rw [hy361]; exact H) | exact H
           have Ny361 := Aside0.mk hy361
           clear hy361
           replace H := Option.bind_eq_some_iff.mp H
           obtain ⟨t362, A310, H⟩ := H
           replace H : (if t362 = true then (if x8_2.length < 17592186044416 then (trishawref01_Round.l0 kj13 l0 t343 t346 y361 (x8_2 ++ [x10_2]) (wrap64 (x9_1 + 1))) else (none)) else (trishawref01_Round.l1 kj13 l0 t343 t346 (y361.set (x10_2 : Int).toNat (wrap64 ((rd y361 x10_2) - 1))) x8_2 x9_1 (wrap64 (x10_2 + 1)))) = some (r1, r2) := H
           have A31 := Aside0.mk A310
           clear A310
           by_cases c32 : t362 = true
           ·subst c32
            have H1 : (if x8_2.length < 17592186044416 then (trishawref01_Round.l0 kj13 l0 t343 t346 y361 (x8_2 ++ [x10_2]) (wrap64 (x9_1 + 1))) else (none)) = some (r1, r2) := by rw [if_pos rfl] at H; exact H
            clear H
            have H := H1
            clear H1
            have c33 : x8_2.length < 17592186044416 := fl_ fun c33 => by rw [if_neg c33] at H; exact absurd H (by simp)
            rw [if_pos c33] at H
            have LMc33 := Aside0.mk c33
            clear c33
            obtain ⟨y363, hy363⟩ : ∃ y_ : List Int, y_ = (x8_2 ++ [x10_2]) := ⟨_, rfl⟩
            replace H : (trishawref01_Round.l0 kj13 l0 t343 t346 y361 y363 (wrap64 (x9_1 + 1))) = some (r1, r2) := by first | (rw [hy363]; with_reducible exact H) | (have H2_ := (Option.bind_some _ _).symm.trans H; rw [hy363]; with_reducible exact H2_) | (have H2_ := (Option.bind_some _ _).symm.trans H; with_reducible exact H2_) | with_reducible exact H | (rw [hy363]; exact H) | exact H
            have Ny363 := Aside0.mk hy363
            clear hy363
            have H' := Aside0.mk H
            clear H
            obtain ⟨Ao34, co34, eo34⟩ := Kd.R_slice HO_7.out
            subst eo34
            have p360 : 0 ≤ (x10_2 : Int) := od_
            have q360 : x10_2 < (x7_2.length : Int) := od_
            obtain ⟨ad360, e360, hx360_0⟩ := Kd.at_int (Kd.R_reads' HO_7.out).2.2 x10_2 p360 q360
            cases e360
            replace p360 := eq_true p360
            replace q360 := eq_true q360
            have p30 : 0 ≤ (x10_2 : Int) := od_
            have q30 : (x10_2 : Int) < ((x7_2.length : Int) : Int) := od_
            obtain ⟨go30, co30, eo30, gb30, gl30, cl30, HG30⟩ := Kd.R_form HO_7.out (by omega)
            (first | cases eo30 | (injection eo30 with ea_ en_ ec_; (first | subst ea_ | (injection ea_ with ea_; subst ea_)); subst ec_; clear en_))
            have GB30 := Aside0.mk gb30
            have GG30 := Aside0.mk HG30
            clear gb30 gl30 HG30
            (first | simp only [add_plain] at hx360_0 | skip)
            obtain ⟨hx30_0, hf30_0⟩ := Kd.R_celln 0 HO_7.out (x10_2 : Int) p30 q30
            replace p30 := eq_true p30
            replace q30 := eq_true q30
            have HP35 := Kd.R_putg HO_7.out (x10_2 : Int) (wrap64 ((rd x7_2 x10_2) + 1))
            go_wp2_with (first | ((with_reducible refine gate_store (t := 3) (p := 83) rfl ?_); (try (rw [drewN_self wc]; generalize hq_ : World.drewN wc _ = wc; have n0_ := Aside0.mk (Kd.S_at hq_ HO_6.out); have n1_ := Aside0.mk (Kd.R_at hq_ HO_7.out); have n2_ := Aside0.mk (Kd.R_at hq_ HO_8.out); have n3_ := Aside0.mk (below_at hq_ HB.out); clear hq_ HO_6 HO_7 HO_8 HB; have HO_6 := n0_; have HO_7 := n1_; have HO_8 := n2_; have HB := n3_; clear n0_ n1_ n2_ n3_; (try (have HP35 := Kd.R_putg HO_7.out (x10_2 : Int) (wrap64 ((rd x7_2 x10_2) + 1)))))); refine store_event (t := 3) (p := 83) (v := ?vo_w36) (w1 := (wc.setCell ⟨go30, (x10_2 : Int).toNat, none⟩ (.int .i64 (wrap64 ((rd x7_2 x10_2) + 1))))) ?hg ?ho ?hn ?hr ?_; (case ho => rfl); (case hg => rfl); (case hn => rfl); (case hr => first | (go_simp; done) | (go_simp; rfl)); intro w36 hw; have hg : wc.grownBy w36 (some go30) := (by rw [hw]; exact HP35.2); have hp_ : Kd.R (Kd.int .i64) 3 w36 w.heap.size (fun k_ => some k_ ≠ (u8 : Value).ownBlock) (.slice (some ⟨go30, 0, none⟩) x7_2.length co34) y361 := (by rw [hw, Ny361.out]; exact HP35.1); clear HP35; have n0_ := Aside0.mk (Kd.S_over' (v := (.slice (some ⟨go30, 0, none⟩) x7_2.length co34)) (ks_ HO_6.out) (Kd.R_typed HO_7.out) (by decide) hg); have n1_ := Aside0.mk (hp_); have n2_ := Aside0.mk (Kd.R_after (v := (.slice (some ⟨go30, 0, none⟩) x7_2.length co34)) (v1 := (.slice (some ⟨go30, 0, none⟩) x7_2.length co34)) (ok := (fun _ => True)) (by (with_reducible repeat (first | apply Kd.R_alloc | apply Kd.R_drewN | apply Kd.R_drew)); exact Kd.R_mono HO_8.out (fun _ hk => ⟨trivial, hk⟩)) hg (.inl rfl)); have n3_ := Aside0.mk ((by rw [hw]; exact below_set (HB.out) GB30.out : Below w.heap.size w w36)); clear HO_6; clear HO_7; clear HO_8; clear HB; have HO_6 := n0_; have HO_7 := n1_; have HO_8 := n2_; have HB := n3_; clear n0_ n1_ n2_ n3_; clear hg hw hp_; obtain ⟨Ao37, co37, eo37⟩ := Kd.S_slice HO_6.out; subst eo37) | (go_at_call 49; refine calls_of_args (args' := #[.slice Ao37 t346.length co37, .slice (some ⟨go30, 0, none⟩) y361.length co34, .int .i64 (wrap64 (x9_1 + 1)), .int .i64 t343]) (by first | (rw [show y361.length = x7_2.length from (Kd.R_reads' HO_7.out).1.symm] <;> rfl) | rfl) ?_; (with_reducible refine (trishawref01_goes.calls kj13 _ _ t346 _ _ y361 (wrap64 (x9_1 + 1)) t343 true _ ?side1 ?side2 ?side3 ?side4 A31.out).mono ?_); (case side1 => repeat (first | exact (Kd.S_reads' HO_6.out).2.2 | (with_reducible refine Kd.C_alloc ?_ _) | (with_reducible refine Kd.C_drewN ?_ _) | (with_reducible refine Kd.C_drew ?_))); (case side2 => exact (Kd.S_reads' HO_6.out).2.1); (case side3 => repeat (first | exact (Kd.R_reads' HO_7.out).2.2 | (with_reducible refine Kd.C_alloc ?_ _) | (with_reducible refine Kd.C_drewN ?_ _) | (with_reducible refine Kd.C_drew ?_))); (case side4 => rw [show y361.length = x7_2.length from (Kd.R_reads' HO_7.out).1.symm]; exact (Kd.R_reads' HO_7.out).2.1); rintro e w38 ⟨rfl, hb⟩; have n0_ := Aside0.mk (Kd.S_below (ks_ HO_6.out) hb); have n1_ := Aside0.mk (Kd.R_below (kr_ HO_7.out) hb); have n2_ := Aside0.mk (Kd.R_below (kr_ HO_8.out) hb); have n3_ := Aside0.mk (below_step (bl_) hb); clear HO_6; clear HO_7; clear HO_8; clear HB; have HO_6 := n0_; have HO_7 := n1_; have HO_8 := n2_; have HB := n3_; clear n0_ n1_ n2_ n3_; (try clear hb); (try clear hb2); (try clear hk); (try clear hi)) | ((with_reducible refine gate_builtin (b := .append) (xs := #[.tmp 90, .tmp 92]) rfl ?_); at_builtin; refine Kd.R_append (Kd.int .i64) (w0 := w) w.heap.size rfl (.tmp 90) (.tmp 92) 22 3 (.int .i64 0) 8 rfl Tryd.underlying22 info3 rfl (by decide) (by omega) u8 x8_2 x10_2 [.int .i64 x10_2] (fun k_ => some k_ ≠ (.slice (some ⟨go30, 0, none⟩) x7_2.length co34 : Value).ownBlock) (fun _ => False) rfl rfl ?aP (fun _ hk => hk.elim) ?aF ?aO ?aB ?aS ?aL ?_; (case aP => exact rfl); (case aB => exact (bl_)); (case aF => exact (fun k_ hk => Kd.fresh' (Kd.R_lt (kr_ HO_7.out)) k_ hk)); (case aO => exact (by (with_reducible repeat (first | apply Kd.R_alloc | apply Kd.R_drewN | apply Kd.R_drew)); exact Kd.R_mono HO_8.out (fun _ hk => hk.2))); (case aS => exact (below_size (bl_))); (case aL => have := LMc33.out; omega); intro v364 w39 ho hb hg hat; rw [← Ny363.out] at ho; have n0_ := Aside0.mk (Kd.S_over' (ks_ HO_6.out) (Kd.R_typed (kr_ HO_8.out)) (by decide) hg); have n1_ := Aside0.mk (Kd.R_after (ok := (fun _ => True)) (by (with_reducible repeat (first | apply Kd.R_alloc | apply Kd.R_drewN | apply Kd.R_drew)); exact Kd.R_mono HO_7.out (fun _ hk => ⟨trivial, hk⟩)) hg hat); have n2_ := Aside0.mk (hb); have n3_ := Aside0.mk (ho); clear HO_6; clear HO_7; clear HB; clear HO_8; have HO_6 := n0_; have HO_7 := n1_; have HB := n2_; have HO365 := n3_; clear n0_ n1_ n2_ n3_; clear ho hb hg hat))
            repeat (go_quiet (first | ((with_reducible refine gate_store (t := 3) (p := 83) rfl ?_); (try (rw [drewN_self wc]; generalize hq_ : World.drewN wc _ = wc; have n0_ := Aside0.mk (Kd.S_at hq_ HO_6.out); have n1_ := Aside0.mk (Kd.R_at hq_ HO_7.out); have n2_ := Aside0.mk (Kd.R_at hq_ HO_8.out); have n3_ := Aside0.mk (below_at hq_ HB.out); clear hq_ HO_6 HO_7 HO_8 HB; have HO_6 := n0_; have HO_7 := n1_; have HO_8 := n2_; have HB := n3_; clear n0_ n1_ n2_ n3_; (try (have HP35 := Kd.R_putg HO_7.out (x10_2 : Int) (wrap64 ((rd x7_2 x10_2) + 1)))))); refine store_event (t := 3) (p := 83) (v := ?vo_w36) (w1 := (wc.setCell ⟨go30, (x10_2 : Int).toNat, none⟩ (.int .i64 (wrap64 ((rd x7_2 x10_2) + 1))))) ?hg ?ho ?hn ?hr ?_; (case ho => rfl); (case hg => rfl); (case hn => rfl); (case hr => first | (go_simp; done) | (go_simp; rfl)); intro w36 hw; have hg : wc.grownBy w36 (some go30) := (by rw [hw]; exact HP35.2); have hp_ : Kd.R (Kd.int .i64) 3 w36 w.heap.size (fun k_ => some k_ ≠ (u8 : Value).ownBlock) (.slice (some ⟨go30, 0, none⟩) x7_2.length co34) y361 := (by rw [hw, Ny361.out]; exact HP35.1); clear HP35; have n0_ := Aside0.mk (Kd.S_over' (v := (.slice (some ⟨go30, 0, none⟩) x7_2.length co34)) (ks_ HO_6.out) (Kd.R_typed HO_7.out) (by decide) hg); have n1_ := Aside0.mk (hp_); have n2_ := Aside0.mk (Kd.R_after (v := (.slice (some ⟨go30, 0, none⟩) x7_2.length co34)) (v1 := (.slice (some ⟨go30, 0, none⟩) x7_2.length co34)) (ok := (fun _ => True)) (by (with_reducible repeat (first | apply Kd.R_alloc | apply Kd.R_drewN | apply Kd.R_drew)); exact Kd.R_mono HO_8.out (fun _ hk => ⟨trivial, hk⟩)) hg (.inl rfl)); have n3_ := Aside0.mk ((by rw [hw]; exact below_set (HB.out) GB30.out : Below w.heap.size w w36)); clear HO_6; clear HO_7; clear HO_8; clear HB; have HO_6 := n0_; have HO_7 := n1_; have HO_8 := n2_; have HB := n3_; clear n0_ n1_ n2_ n3_; clear hg hw hp_; obtain ⟨Ao37, co37, eo37⟩ := Kd.S_slice HO_6.out; subst eo37) | (go_at_call 49; refine calls_of_args (args' := #[.slice Ao37 t346.length co37, .slice (some ⟨go30, 0, none⟩) y361.length co34, .int .i64 (wrap64 (x9_1 + 1)), .int .i64 t343]) (by first | (rw [show y361.length = x7_2.length from (Kd.R_reads' HO_7.out).1.symm] <;> rfl) | rfl) ?_; (with_reducible refine (trishawref01_goes.calls kj13 _ _ t346 _ _ y361 (wrap64 (x9_1 + 1)) t343 true _ ?side1 ?side2 ?side3 ?side4 A31.out).mono ?_); (case side1 => repeat (first | exact (Kd.S_reads' HO_6.out).2.2 | (with_reducible refine Kd.C_alloc ?_ _) | (with_reducible refine Kd.C_drewN ?_ _) | (with_reducible refine Kd.C_drew ?_))); (case side2 => exact (Kd.S_reads' HO_6.out).2.1); (case side3 => repeat (first | exact (Kd.R_reads' HO_7.out).2.2 | (with_reducible refine Kd.C_alloc ?_ _) | (with_reducible refine Kd.C_drewN ?_ _) | (with_reducible refine Kd.C_drew ?_))); (case side4 => rw [show y361.length = x7_2.length from (Kd.R_reads' HO_7.out).1.symm]; exact (Kd.R_reads' HO_7.out).2.1); rintro e w38 ⟨rfl, hb⟩; have n0_ := Aside0.mk (Kd.S_below (ks_ HO_6.out) hb); have n1_ := Aside0.mk (Kd.R_below (kr_ HO_7.out) hb); have n2_ := Aside0.mk (Kd.R_below (kr_ HO_8.out) hb); have n3_ := Aside0.mk (below_step (bl_) hb); clear HO_6; clear HO_7; clear HO_8; clear HB; have HO_6 := n0_; have HO_7 := n1_; have HO_8 := n2_; have HB := n3_; clear n0_ n1_ n2_ n3_; (try clear hb); (try clear hb2); (try clear hk); (try clear hi)) | ((with_reducible refine gate_builtin (b := .append) (xs := #[.tmp 90, .tmp 92]) rfl ?_); at_builtin; refine Kd.R_append (Kd.int .i64) (w0 := w) w.heap.size rfl (.tmp 90) (.tmp 92) 22 3 (.int .i64 0) 8 rfl Tryd.underlying22 info3 rfl (by decide) (by omega) u8 x8_2 x10_2 [.int .i64 x10_2] (fun k_ => some k_ ≠ (.slice (some ⟨go30, 0, none⟩) x7_2.length co34 : Value).ownBlock) (fun _ => False) rfl rfl ?aP (fun _ hk => hk.elim) ?aF ?aO ?aB ?aS ?aL ?_; (case aP => exact rfl); (case aB => exact (bl_)); (case aF => exact (fun k_ hk => Kd.fresh' (Kd.R_lt (kr_ HO_7.out)) k_ hk)); (case aO => exact (by (with_reducible repeat (first | apply Kd.R_alloc | apply Kd.R_drewN | apply Kd.R_drew)); exact Kd.R_mono HO_8.out (fun _ hk => hk.2))); (case aS => exact (below_size (bl_))); (case aL => have := LMc33.out; omega); intro v364 w39 ho hb hg hat; rw [← Ny363.out] at ho; have n0_ := Aside0.mk (Kd.S_over' (ks_ HO_6.out) (Kd.R_typed (kr_ HO_8.out)) (by decide) hg); have n1_ := Aside0.mk (Kd.R_after (ok := (fun _ => True)) (by (with_reducible repeat (first | apply Kd.R_alloc | apply Kd.R_drewN | apply Kd.R_drew)); exact Kd.R_mono HO_7.out (fun _ hk => ⟨trivial, hk⟩)) hg hat); have n2_ := Aside0.mk (hb); have n3_ := Aside0.mk (ho); clear HO_6; clear HO_7; clear HB; clear HO_8; have HO_6 := n0_; have HO_7 := n1_; have HB := n2_; have HO365 := n3_; clear n0_ n1_ n2_ n3_; clear ho hb hg hat)); try go_wp2_with (first | ((with_reducible refine gate_store (t := 3) (p := 83) rfl ?_); (try (rw [drewN_self wc]; generalize hq_ : World.drewN wc _ = wc; have n0_ := Aside0.mk (Kd.S_at hq_ HO_6.out); have n1_ := Aside0.mk (Kd.R_at hq_ HO_7.out); have n2_ := Aside0.mk (Kd.R_at hq_ HO_8.out); have n3_ := Aside0.mk (below_at hq_ HB.out); clear hq_ HO_6 HO_7 HO_8 HB; have HO_6 := n0_; have HO_7 := n1_; have HO_8 := n2_; have HB := n3_; clear n0_ n1_ n2_ n3_; (try (have HP35 := Kd.R_putg HO_7.out (x10_2 : Int) (wrap64 ((rd x7_2 x10_2) + 1)))))); refine store_event (t := 3) (p := 83) (v := ?vo_w36) (w1 := (wc.setCell ⟨go30, (x10_2 : Int).toNat, none⟩ (.int .i64 (wrap64 ((rd x7_2 x10_2) + 1))))) ?hg ?ho ?hn ?hr ?_; (case ho => rfl); (case hg => rfl); (case hn => rfl); (case hr => first | (go_simp; done) | (go_simp; rfl)); intro w36 hw; have hg : wc.grownBy w36 (some go30) := (by rw [hw]; exact HP35.2); have hp_ : Kd.R (Kd.int .i64) 3 w36 w.heap.size (fun k_ => some k_ ≠ (u8 : Value).ownBlock) (.slice (some ⟨go30, 0, none⟩) x7_2.length co34) y361 := (by rw [hw, Ny361.out]; exact HP35.1); clear HP35; have n0_ := Aside0.mk (Kd.S_over' (v := (.slice (some ⟨go30, 0, none⟩) x7_2.length co34)) (ks_ HO_6.out) (Kd.R_typed HO_7.out) (by decide) hg); have n1_ := Aside0.mk (hp_); have n2_ := Aside0.mk (Kd.R_after (v := (.slice (some ⟨go30, 0, none⟩) x7_2.length co34)) (v1 := (.slice (some ⟨go30, 0, none⟩) x7_2.length co34)) (ok := (fun _ => True)) (by (with_reducible repeat (first | apply Kd.R_alloc | apply Kd.R_drewN | apply Kd.R_drew)); exact Kd.R_mono HO_8.out (fun _ hk => ⟨trivial, hk⟩)) hg (.inl rfl)); have n3_ := Aside0.mk ((by rw [hw]; exact below_set (HB.out) GB30.out : Below w.heap.size w w36)); clear HO_6; clear HO_7; clear HO_8; clear HB; have HO_6 := n0_; have HO_7 := n1_; have HO_8 := n2_; have HB := n3_; clear n0_ n1_ n2_ n3_; clear hg hw hp_; obtain ⟨Ao37, co37, eo37⟩ := Kd.S_slice HO_6.out; subst eo37) | (go_at_call 49; refine calls_of_args (args' := #[.slice Ao37 t346.length co37, .slice (some ⟨go30, 0, none⟩) y361.length co34, .int .i64 (wrap64 (x9_1 + 1)), .int .i64 t343]) (by first | (rw [show y361.length = x7_2.length from (Kd.R_reads' HO_7.out).1.symm] <;> rfl) | rfl) ?_; (with_reducible refine (trishawref01_goes.calls kj13 _ _ t346 _ _ y361 (wrap64 (x9_1 + 1)) t343 true _ ?side1 ?side2 ?side3 ?side4 A31.out).mono ?_); (case side1 => repeat (first | exact (Kd.S_reads' HO_6.out).2.2 | (with_reducible refine Kd.C_alloc ?_ _) | (with_reducible refine Kd.C_drewN ?_ _) | (with_reducible refine Kd.C_drew ?_))); (case side2 => exact (Kd.S_reads' HO_6.out).2.1); (case side3 => repeat (first | exact (Kd.R_reads' HO_7.out).2.2 | (with_reducible refine Kd.C_alloc ?_ _) | (with_reducible refine Kd.C_drewN ?_ _) | (with_reducible refine Kd.C_drew ?_))); (case side4 => rw [show y361.length = x7_2.length from (Kd.R_reads' HO_7.out).1.symm]; exact (Kd.R_reads' HO_7.out).2.1); rintro e w38 ⟨rfl, hb⟩; have n0_ := Aside0.mk (Kd.S_below (ks_ HO_6.out) hb); have n1_ := Aside0.mk (Kd.R_below (kr_ HO_7.out) hb); have n2_ := Aside0.mk (Kd.R_below (kr_ HO_8.out) hb); have n3_ := Aside0.mk (below_step (bl_) hb); clear HO_6; clear HO_7; clear HO_8; clear HB; have HO_6 := n0_; have HO_7 := n1_; have HO_8 := n2_; have HB := n3_; clear n0_ n1_ n2_ n3_; (try clear hb); (try clear hb2); (try clear hk); (try clear hi)) | ((with_reducible refine gate_builtin (b := .append) (xs := #[.tmp 90, .tmp 92]) rfl ?_); at_builtin; refine Kd.R_append (Kd.int .i64) (w0 := w) w.heap.size rfl (.tmp 90) (.tmp 92) 22 3 (.int .i64 0) 8 rfl Tryd.underlying22 info3 rfl (by decide) (by omega) u8 x8_2 x10_2 [.int .i64 x10_2] (fun k_ => some k_ ≠ (.slice (some ⟨go30, 0, none⟩) x7_2.length co34 : Value).ownBlock) (fun _ => False) rfl rfl ?aP (fun _ hk => hk.elim) ?aF ?aO ?aB ?aS ?aL ?_; (case aP => exact rfl); (case aB => exact (bl_)); (case aF => exact (fun k_ hk => Kd.fresh' (Kd.R_lt (kr_ HO_7.out)) k_ hk)); (case aO => exact (by (with_reducible repeat (first | apply Kd.R_alloc | apply Kd.R_drewN | apply Kd.R_drew)); exact Kd.R_mono HO_8.out (fun _ hk => hk.2))); (case aS => exact (below_size (bl_))); (case aL => have := LMc33.out; omega); intro v364 w39 ho hb hg hat; rw [← Ny363.out] at ho; have n0_ := Aside0.mk (Kd.S_over' (ks_ HO_6.out) (Kd.R_typed (kr_ HO_8.out)) (by decide) hg); have n1_ := Aside0.mk (Kd.R_after (ok := (fun _ => True)) (by (with_reducible repeat (first | apply Kd.R_alloc | apply Kd.R_drewN | apply Kd.R_drew)); exact Kd.R_mono HO_7.out (fun _ hk => ⟨trivial, hk⟩)) hg hat); have n2_ := Aside0.mk (hb); have n3_ := Aside0.mk (ho); clear HO_6; clear HO_7; clear HB; clear HO_8; have HO_6 := n0_; have HO_7 := n1_; have HB := n2_; have HO365 := n3_; clear n0_ n1_ n2_ n3_; clear ho hb hg hat)))
            go_roundg kj13
            case measure => have := HK1.out; have := HK2.out; have := HJ13.out; omega
            case rel => exact ⟨(y361), (y363), (wrap64 (x9_1 + 1)), (by first | rfl | (simp; done) | (simp [*]; done)), H', ⟨by have := HK1.out; have := HK2.out; have := HJ13.out; omega⟩, ⟨ks_ HO_6.out⟩, ⟨by (with_reducible repeat (first | apply Kd.R_alloc | apply Kd.R_drewN | apply Kd.R_drew)); exact Kd.R_mono HO_7.out (fun _ hk => hk.2)⟩, ⟨kr_ HO365.out⟩, ⟨bl_⟩⟩
           ·replace c32 := Bool.eq_false_iff.mpr c32
            subst c32
            have H1 : (trishawref01_Round.l1 kj13 l0 t343 t346 (y361.set (x10_2 : Int).toNat (wrap64 ((rd y361 x10_2) - 1))) x8_2 x9_1 (wrap64 (x10_2 + 1))) = some (r1, r2) := by rw [if_neg (show ¬ (false = true) by decide)] at H; exact H
            clear H
            have H := H1
            clear H1
            obtain ⟨y367, hy367⟩ : ∃ y_ : List Int, y_ = (y361.set (x10_2 : Int).toNat (wrap64 ((rd y361 x10_2) - 1))) := ⟨_, rfl⟩
            replace H : (trishawref01_Round.l1 kj13 l0 t343 t346 y367 x8_2 x9_1 (wrap64 (x10_2 + 1))) = some (r1, r2) := by first | (rw [hy367]; with_reducible exact H) | (have H2_ := (Option.bind_some _ _).symm.trans H; rw [hy367]; with_reducible exact H2_) | (have H2_ := (Option.bind_some _ _).symm.trans H; with_reducible exact H2_) | with_reducible exact H | (rw [hy367]; exact H) | exact H
            have Ny367 := Aside0.mk hy367
            clear hy367
            have H' := Aside0.mk H
            clear H
            obtain ⟨Ao41, co41, eo41⟩ := Kd.R_slice HO_7.out
            subst eo41
            have p360 : 0 ≤ (x10_2 : Int) := od_
            have q360 : x10_2 < (x7_2.length : Int) := od_
            obtain ⟨ad360, e360, hx360_0⟩ := Kd.at_int (Kd.R_reads' HO_7.out).2.2 x10_2 p360 q360
            cases e360
            replace p360 := eq_true p360
            replace q360 := eq_true q360
            have p30 : 0 ≤ (x10_2 : Int) := od_
            have q30 : (x10_2 : Int) < ((x7_2.length : Int) : Int) := od_
            obtain ⟨go30, co30, eo30, gb30, gl30, cl30, HG30⟩ := Kd.R_form HO_7.out (by omega)
            (first | cases eo30 | (injection eo30 with ea_ en_ ec_; (first | subst ea_ | (injection ea_ with ea_; subst ea_)); subst ec_; clear en_))
            have GB30 := Aside0.mk gb30
            have GG30 := Aside0.mk HG30
            clear gb30 gl30 HG30
            (first | simp only [add_plain] at hx360_0 | skip)
            obtain ⟨hx30_0, hf30_0⟩ := Kd.R_celln 0 HO_7.out (x10_2 : Int) p30 q30
            replace p30 := eq_true p30
            replace q30 := eq_true q30
            have HP42 := Kd.R_putg HO_7.out (x10_2 : Int) (wrap64 ((rd x7_2 x10_2) + 1))
            go_wp2_with (first | ((with_reducible refine gate_store (t := 3) (p := 83) rfl ?_); (try (rw [drewN_self wc]; generalize hq_ : World.drewN wc _ = wc; have n0_ := Aside0.mk (Kd.S_at hq_ HO_6.out); have n1_ := Aside0.mk (Kd.R_at hq_ HO_7.out); have n2_ := Aside0.mk (Kd.R_at hq_ HO_8.out); have n3_ := Aside0.mk (below_at hq_ HB.out); clear hq_ HO_6 HO_7 HO_8 HB; have HO_6 := n0_; have HO_7 := n1_; have HO_8 := n2_; have HB := n3_; clear n0_ n1_ n2_ n3_; (try (have HP42 := Kd.R_putg HO_7.out (x10_2 : Int) (wrap64 ((rd x7_2 x10_2) + 1)))))); refine store_event (t := 3) (p := 83) (v := ?vo_w43) (w1 := (wc.setCell ⟨go30, (x10_2 : Int).toNat, none⟩ (.int .i64 (wrap64 ((rd x7_2 x10_2) + 1))))) ?hg ?ho ?hn ?hr ?_; (case ho => rfl); (case hg => rfl); (case hn => rfl); (case hr => first | (go_simp; done) | (go_simp; rfl)); intro w43 hw; have hg : wc.grownBy w43 (some go30) := (by rw [hw]; exact HP42.2); have hp_ : Kd.R (Kd.int .i64) 3 w43 w.heap.size (fun k_ => some k_ ≠ (u8 : Value).ownBlock) (.slice (some ⟨go30, 0, none⟩) x7_2.length co41) y361 := (by rw [hw, Ny361.out]; exact HP42.1); clear HP42; have n0_ := Aside0.mk (Kd.S_over' (v := (.slice (some ⟨go30, 0, none⟩) x7_2.length co41)) (ks_ HO_6.out) (Kd.R_typed HO_7.out) (by decide) hg); have n1_ := Aside0.mk (hp_); have n2_ := Aside0.mk (Kd.R_after (v := (.slice (some ⟨go30, 0, none⟩) x7_2.length co41)) (v1 := (.slice (some ⟨go30, 0, none⟩) x7_2.length co41)) (ok := (fun _ => True)) (by (with_reducible repeat (first | apply Kd.R_alloc | apply Kd.R_drewN | apply Kd.R_drew)); exact Kd.R_mono HO_8.out (fun _ hk => ⟨trivial, hk⟩)) hg (.inl rfl)); have n3_ := Aside0.mk ((by rw [hw]; exact below_set (HB.out) GB30.out : Below w.heap.size w w43)); clear HO_6; clear HO_7; clear HO_8; clear HB; have HO_6 := n0_; have HO_7 := n1_; have HO_8 := n2_; have HB := n3_; clear n0_ n1_ n2_ n3_; clear hg hw hp_; obtain ⟨Ao44, co44, eo44⟩ := Kd.S_slice HO_6.out; subst eo44) | (go_at_call 49; refine calls_of_args (args' := #[.slice Ao44 t346.length co44, .slice (some ⟨go30, 0, none⟩) y361.length co41, .int .i64 (wrap64 (x9_1 + 1)), .int .i64 t343]) (by first | (rw [show y361.length = x7_2.length from (Kd.R_reads' HO_7.out).1.symm] <;> rfl) | rfl) ?_; (with_reducible refine (trishawref01_goes.calls kj13 _ _ t346 _ _ y361 (wrap64 (x9_1 + 1)) t343 false _ ?side1 ?side2 ?side3 ?side4 A31.out).mono ?_); (case side1 => repeat (first | exact (Kd.S_reads' HO_6.out).2.2 | (with_reducible refine Kd.C_alloc ?_ _) | (with_reducible refine Kd.C_drewN ?_ _) | (with_reducible refine Kd.C_drew ?_))); (case side2 => exact (Kd.S_reads' HO_6.out).2.1); (case side3 => repeat (first | exact (Kd.R_reads' HO_7.out).2.2 | (with_reducible refine Kd.C_alloc ?_ _) | (with_reducible refine Kd.C_drewN ?_ _) | (with_reducible refine Kd.C_drew ?_))); (case side4 => rw [show y361.length = x7_2.length from (Kd.R_reads' HO_7.out).1.symm]; exact (Kd.R_reads' HO_7.out).2.1); rintro e w45 ⟨rfl, hb⟩; have n0_ := Aside0.mk (Kd.S_below (ks_ HO_6.out) hb); have n1_ := Aside0.mk (Kd.R_below (kr_ HO_7.out) hb); have n2_ := Aside0.mk (Kd.R_below (kr_ HO_8.out) hb); have n3_ := Aside0.mk (below_step (bl_) hb); clear HO_6; clear HO_7; clear HO_8; clear HB; have HO_6 := n0_; have HO_7 := n1_; have HO_8 := n2_; have HB := n3_; clear n0_ n1_ n2_ n3_; (try clear hb); (try clear hb2); (try clear hk); (try clear hi); have p366 : 0 ≤ (x10_2 : Int) := od_; have q366 : x10_2 < (y361.length : Int) := (by have h_ : (x10_2 : Int) < ((x7_2.length : Int) : Int) := od_; first | (have e_ := (Kd.R_reads' HO_7.out).1; omega) | simpa only [Ny361.out, List.length_set] using h_); have ql366 : ((x10_2 : Int) < ((x7_2.length : Int) : Int)) = True := eq_true (od_); obtain ⟨ad366, e366, hx366_0⟩ := Kd.at_int (Kd.R_reads' HO_7.out).2.2 x10_2 p366 q366; obtain rfl : (⟨go30, 0, none⟩ : Addr) = ad366 := (by injection e366); (first | simp only [add_plain] at hx366_0 | simp only [add_at] at hx366_0 | simp only [Addr.add, Nat.zero_add] at hx366_0 | skip); replace p366 := eq_true p366; replace q366 := eq_true q366; have p40 : 0 ≤ (x10_2 : Int) := od_; have q40 : (x10_2 : Int) < ((x7_2.length : Int) : Int) := od_; obtain ⟨hx40_0, hf40_0⟩ := Kd.R_celln 0 HO_7.out (x10_2 : Int) p40 q40; replace p40 := eq_true p40; replace q40 := eq_true q40; obtain ⟨hy46_, hz46_⟩ := Kd.R_celln 0 HO_7.out (x10_2 : Int) (od_) (od_); have HP46 := Kd.R_putg HO_7.out (x10_2 : Int) (wrap64 ((rd y361 x10_2) - 1))) | ((with_reducible refine gate_store (t := 3) (p := 99) rfl ?_); (try (rw [drewN_self w45]; generalize hq_ : World.drewN w45 _ = w45; have n0_ := Aside0.mk (Kd.S_at hq_ HO_6.out); have n1_ := Aside0.mk (Kd.R_at hq_ HO_7.out); have n2_ := Aside0.mk (Kd.R_at hq_ HO_8.out); have n3_ := Aside0.mk (below_at hq_ HB.out); clear hq_ HO_6 HO_7 HO_8 HB; have HO_6 := n0_; have HO_7 := n1_; have HO_8 := n2_; have HB := n3_; clear n0_ n1_ n2_ n3_; (try (obtain ⟨hy46_, hz46_⟩ := Kd.R_celln 0 HO_7.out (x10_2 : Int) (od_) (od_))); (try (have HP46 := Kd.R_putg HO_7.out (x10_2 : Int) (wrap64 ((rd y361 x10_2) - 1)))))); refine store_event (t := 3) (p := 99) (v := ?vo_w47) (w1 := (w45.setCell ⟨go30, (x10_2 : Int).toNat, none⟩ (.int .i64 (wrap64 ((rd y361 x10_2) - 1))))) ?hg ?ho ?hn ?hr ?_; (case ho => rfl); (case hg => rfl); (case hn => rfl); (case hr => first | (go_simp; done) | (go_simp; rfl)); intro w47 hw; have hg : w45.grownBy w47 (some go30) := (by rw [hw]; exact HP46.2); have hp_ : Kd.R (Kd.int .i64) 3 w47 w.heap.size (fun k_ => some k_ ≠ (u8 : Value).ownBlock) (.slice (some ⟨go30, 0, none⟩) x7_2.length co41) y367 := (by rw [hw, Ny367.out]; exact HP46.1); clear HP46; have n0_ := Aside0.mk (Kd.S_over' (v := (.slice (some ⟨go30, 0, none⟩) x7_2.length co41)) (ks_ HO_6.out) (Kd.R_typed HO_7.out) (by decide) hg); have n1_ := Aside0.mk (hp_); have n2_ := Aside0.mk (Kd.R_after (v := (.slice (some ⟨go30, 0, none⟩) x7_2.length co41)) (v1 := (.slice (some ⟨go30, 0, none⟩) x7_2.length co41)) (ok := (fun _ => True)) (kr_ HO_8.out) hg (.inl rfl)); have n3_ := Aside0.mk ((by rw [hw]; exact below_set (HB.out) GB30.out : Below w.heap.size w w47)); clear HO_6; clear HO_7; clear HO_8; clear HB; have HO_6 := n0_; have HO_7 := n1_; have HO_8 := n2_; have HB := n3_; clear n0_ n1_ n2_ n3_; clear hg hw hp_))
            repeat (go_quiet (first | ((with_reducible refine gate_store (t := 3) (p := 83) rfl ?_); (try (rw [drewN_self wc]; generalize hq_ : World.drewN wc _ = wc; have n0_ := Aside0.mk (Kd.S_at hq_ HO_6.out); have n1_ := Aside0.mk (Kd.R_at hq_ HO_7.out); have n2_ := Aside0.mk (Kd.R_at hq_ HO_8.out); have n3_ := Aside0.mk (below_at hq_ HB.out); clear hq_ HO_6 HO_7 HO_8 HB; have HO_6 := n0_; have HO_7 := n1_; have HO_8 := n2_; have HB := n3_; clear n0_ n1_ n2_ n3_; (try (have HP42 := Kd.R_putg HO_7.out (x10_2 : Int) (wrap64 ((rd x7_2 x10_2) + 1)))))); refine store_event (t := 3) (p := 83) (v := ?vo_w43) (w1 := (wc.setCell ⟨go30, (x10_2 : Int).toNat, none⟩ (.int .i64 (wrap64 ((rd x7_2 x10_2) + 1))))) ?hg ?ho ?hn ?hr ?_; (case ho => rfl); (case hg => rfl); (case hn => rfl); (case hr => first | (go_simp; done) | (go_simp; rfl)); intro w43 hw; have hg : wc.grownBy w43 (some go30) := (by rw [hw]; exact HP42.2); have hp_ : Kd.R (Kd.int .i64) 3 w43 w.heap.size (fun k_ => some k_ ≠ (u8 : Value).ownBlock) (.slice (some ⟨go30, 0, none⟩) x7_2.length co41) y361 := (by rw [hw, Ny361.out]; exact HP42.1); clear HP42; have n0_ := Aside0.mk (Kd.S_over' (v := (.slice (some ⟨go30, 0, none⟩) x7_2.length co41)) (ks_ HO_6.out) (Kd.R_typed HO_7.out) (by decide) hg); have n1_ := Aside0.mk (hp_); have n2_ := Aside0.mk (Kd.R_after (v := (.slice (some ⟨go30, 0, none⟩) x7_2.length co41)) (v1 := (.slice (some ⟨go30, 0, none⟩) x7_2.length co41)) (ok := (fun _ => True)) (by (with_reducible repeat (first | apply Kd.R_alloc | apply Kd.R_drewN | apply Kd.R_drew)); exact Kd.R_mono HO_8.out (fun _ hk => ⟨trivial, hk⟩)) hg (.inl rfl)); have n3_ := Aside0.mk ((by rw [hw]; exact below_set (HB.out) GB30.out : Below w.heap.size w w43)); clear HO_6; clear HO_7; clear HO_8; clear HB; have HO_6 := n0_; have HO_7 := n1_; have HO_8 := n2_; have HB := n3_; clear n0_ n1_ n2_ n3_; clear hg hw hp_; obtain ⟨Ao44, co44, eo44⟩ := Kd.S_slice HO_6.out; subst eo44) | (go_at_call 49; refine calls_of_args (args' := #[.slice Ao44 t346.length co44, .slice (some ⟨go30, 0, none⟩) y361.length co41, .int .i64 (wrap64 (x9_1 + 1)), .int .i64 t343]) (by first | (rw [show y361.length = x7_2.length from (Kd.R_reads' HO_7.out).1.symm] <;> rfl) | rfl) ?_; (with_reducible refine (trishawref01_goes.calls kj13 _ _ t346 _ _ y361 (wrap64 (x9_1 + 1)) t343 false _ ?side1 ?side2 ?side3 ?side4 A31.out).mono ?_); (case side1 => repeat (first | exact (Kd.S_reads' HO_6.out).2.2 | (with_reducible refine Kd.C_alloc ?_ _) | (with_reducible refine Kd.C_drewN ?_ _) | (with_reducible refine Kd.C_drew ?_))); (case side2 => exact (Kd.S_reads' HO_6.out).2.1); (case side3 => repeat (first | exact (Kd.R_reads' HO_7.out).2.2 | (with_reducible refine Kd.C_alloc ?_ _) | (with_reducible refine Kd.C_drewN ?_ _) | (with_reducible refine Kd.C_drew ?_))); (case side4 => rw [show y361.length = x7_2.length from (Kd.R_reads' HO_7.out).1.symm]; exact (Kd.R_reads' HO_7.out).2.1); rintro e w45 ⟨rfl, hb⟩; have n0_ := Aside0.mk (Kd.S_below (ks_ HO_6.out) hb); have n1_ := Aside0.mk (Kd.R_below (kr_ HO_7.out) hb); have n2_ := Aside0.mk (Kd.R_below (kr_ HO_8.out) hb); have n3_ := Aside0.mk (below_step (bl_) hb); clear HO_6; clear HO_7; clear HO_8; clear HB; have HO_6 := n0_; have HO_7 := n1_; have HO_8 := n2_; have HB := n3_; clear n0_ n1_ n2_ n3_; (try clear hb); (try clear hb2); (try clear hk); (try clear hi); have p366 : 0 ≤ (x10_2 : Int) := od_; have q366 : x10_2 < (y361.length : Int) := (by have h_ : (x10_2 : Int) < ((x7_2.length : Int) : Int) := od_; first | (have e_ := (Kd.R_reads' HO_7.out).1; omega) | simpa only [Ny361.out, List.length_set] using h_); have ql366 : ((x10_2 : Int) < ((x7_2.length : Int) : Int)) = True := eq_true (od_); obtain ⟨ad366, e366, hx366_0⟩ := Kd.at_int (Kd.R_reads' HO_7.out).2.2 x10_2 p366 q366; obtain rfl : (⟨go30, 0, none⟩ : Addr) = ad366 := (by injection e366); (first | simp only [add_plain] at hx366_0 | simp only [add_at] at hx366_0 | simp only [Addr.add, Nat.zero_add] at hx366_0 | skip); replace p366 := eq_true p366; replace q366 := eq_true q366; have p40 : 0 ≤ (x10_2 : Int) := od_; have q40 : (x10_2 : Int) < ((x7_2.length : Int) : Int) := od_; obtain ⟨hx40_0, hf40_0⟩ := Kd.R_celln 0 HO_7.out (x10_2 : Int) p40 q40; replace p40 := eq_true p40; replace q40 := eq_true q40; obtain ⟨hy46_, hz46_⟩ := Kd.R_celln 0 HO_7.out (x10_2 : Int) (od_) (od_); have HP46 := Kd.R_putg HO_7.out (x10_2 : Int) (wrap64 ((rd y361 x10_2) - 1))) | ((with_reducible refine gate_store (t := 3) (p := 99) rfl ?_); (try (rw [drewN_self w45]; generalize hq_ : World.drewN w45 _ = w45; have n0_ := Aside0.mk (Kd.S_at hq_ HO_6.out); have n1_ := Aside0.mk (Kd.R_at hq_ HO_7.out); have n2_ := Aside0.mk (Kd.R_at hq_ HO_8.out); have n3_ := Aside0.mk (below_at hq_ HB.out); clear hq_ HO_6 HO_7 HO_8 HB; have HO_6 := n0_; have HO_7 := n1_; have HO_8 := n2_; have HB := n3_; clear n0_ n1_ n2_ n3_; (try (obtain ⟨hy46_, hz46_⟩ := Kd.R_celln 0 HO_7.out (x10_2 : Int) (od_) (od_))); (try (have HP46 := Kd.R_putg HO_7.out (x10_2 : Int) (wrap64 ((rd y361 x10_2) - 1)))))); refine store_event (t := 3) (p := 99) (v := ?vo_w47) (w1 := (w45.setCell ⟨go30, (x10_2 : Int).toNat, none⟩ (.int .i64 (wrap64 ((rd y361 x10_2) - 1))))) ?hg ?ho ?hn ?hr ?_; (case ho => rfl); (case hg => rfl); (case hn => rfl); (case hr => first | (go_simp; done) | (go_simp; rfl)); intro w47 hw; have hg : w45.grownBy w47 (some go30) := (by rw [hw]; exact HP46.2); have hp_ : Kd.R (Kd.int .i64) 3 w47 w.heap.size (fun k_ => some k_ ≠ (u8 : Value).ownBlock) (.slice (some ⟨go30, 0, none⟩) x7_2.length co41) y367 := (by rw [hw, Ny367.out]; exact HP46.1); clear HP46; have n0_ := Aside0.mk (Kd.S_over' (v := (.slice (some ⟨go30, 0, none⟩) x7_2.length co41)) (ks_ HO_6.out) (Kd.R_typed HO_7.out) (by decide) hg); have n1_ := Aside0.mk (hp_); have n2_ := Aside0.mk (Kd.R_after (v := (.slice (some ⟨go30, 0, none⟩) x7_2.length co41)) (v1 := (.slice (some ⟨go30, 0, none⟩) x7_2.length co41)) (ok := (fun _ => True)) (kr_ HO_8.out) hg (.inl rfl)); have n3_ := Aside0.mk ((by rw [hw]; exact below_set (HB.out) GB30.out : Below w.heap.size w w47)); clear HO_6; clear HO_7; clear HO_8; clear HB; have HO_6 := n0_; have HO_7 := n1_; have HO_8 := n2_; have HB := n3_; clear n0_ n1_ n2_ n3_; clear hg hw hp_)); try go_wp2_with (first | ((with_reducible refine gate_store (t := 3) (p := 83) rfl ?_); (try (rw [drewN_self wc]; generalize hq_ : World.drewN wc _ = wc; have n0_ := Aside0.mk (Kd.S_at hq_ HO_6.out); have n1_ := Aside0.mk (Kd.R_at hq_ HO_7.out); have n2_ := Aside0.mk (Kd.R_at hq_ HO_8.out); have n3_ := Aside0.mk (below_at hq_ HB.out); clear hq_ HO_6 HO_7 HO_8 HB; have HO_6 := n0_; have HO_7 := n1_; have HO_8 := n2_; have HB := n3_; clear n0_ n1_ n2_ n3_; (try (have HP42 := Kd.R_putg HO_7.out (x10_2 : Int) (wrap64 ((rd x7_2 x10_2) + 1)))))); refine store_event (t := 3) (p := 83) (v := ?vo_w43) (w1 := (wc.setCell ⟨go30, (x10_2 : Int).toNat, none⟩ (.int .i64 (wrap64 ((rd x7_2 x10_2) + 1))))) ?hg ?ho ?hn ?hr ?_; (case ho => rfl); (case hg => rfl); (case hn => rfl); (case hr => first | (go_simp; done) | (go_simp; rfl)); intro w43 hw; have hg : wc.grownBy w43 (some go30) := (by rw [hw]; exact HP42.2); have hp_ : Kd.R (Kd.int .i64) 3 w43 w.heap.size (fun k_ => some k_ ≠ (u8 : Value).ownBlock) (.slice (some ⟨go30, 0, none⟩) x7_2.length co41) y361 := (by rw [hw, Ny361.out]; exact HP42.1); clear HP42; have n0_ := Aside0.mk (Kd.S_over' (v := (.slice (some ⟨go30, 0, none⟩) x7_2.length co41)) (ks_ HO_6.out) (Kd.R_typed HO_7.out) (by decide) hg); have n1_ := Aside0.mk (hp_); have n2_ := Aside0.mk (Kd.R_after (v := (.slice (some ⟨go30, 0, none⟩) x7_2.length co41)) (v1 := (.slice (some ⟨go30, 0, none⟩) x7_2.length co41)) (ok := (fun _ => True)) (by (with_reducible repeat (first | apply Kd.R_alloc | apply Kd.R_drewN | apply Kd.R_drew)); exact Kd.R_mono HO_8.out (fun _ hk => ⟨trivial, hk⟩)) hg (.inl rfl)); have n3_ := Aside0.mk ((by rw [hw]; exact below_set (HB.out) GB30.out : Below w.heap.size w w43)); clear HO_6; clear HO_7; clear HO_8; clear HB; have HO_6 := n0_; have HO_7 := n1_; have HO_8 := n2_; have HB := n3_; clear n0_ n1_ n2_ n3_; clear hg hw hp_; obtain ⟨Ao44, co44, eo44⟩ := Kd.S_slice HO_6.out; subst eo44) | (go_at_call 49; refine calls_of_args (args' := #[.slice Ao44 t346.length co44, .slice (some ⟨go30, 0, none⟩) y361.length co41, .int .i64 (wrap64 (x9_1 + 1)), .int .i64 t343]) (by first | (rw [show y361.length = x7_2.length from (Kd.R_reads' HO_7.out).1.symm] <;> rfl) | rfl) ?_; (with_reducible refine (trishawref01_goes.calls kj13 _ _ t346 _ _ y361 (wrap64 (x9_1 + 1)) t343 false _ ?side1 ?side2 ?side3 ?side4 A31.out).mono ?_); (case side1 => repeat (first | exact (Kd.S_reads' HO_6.out).2.2 | (with_reducible refine Kd.C_alloc ?_ _) | (with_reducible refine Kd.C_drewN ?_ _) | (with_reducible refine Kd.C_drew ?_))); (case side2 => exact (Kd.S_reads' HO_6.out).2.1); (case side3 => repeat (first | exact (Kd.R_reads' HO_7.out).2.2 | (with_reducible refine Kd.C_alloc ?_ _) | (with_reducible refine Kd.C_drewN ?_ _) | (with_reducible refine Kd.C_drew ?_))); (case side4 => rw [show y361.length = x7_2.length from (Kd.R_reads' HO_7.out).1.symm]; exact (Kd.R_reads' HO_7.out).2.1); rintro e w45 ⟨rfl, hb⟩; have n0_ := Aside0.mk (Kd.S_below (ks_ HO_6.out) hb); have n1_ := Aside0.mk (Kd.R_below (kr_ HO_7.out) hb); have n2_ := Aside0.mk (Kd.R_below (kr_ HO_8.out) hb); have n3_ := Aside0.mk (below_step (bl_) hb); clear HO_6; clear HO_7; clear HO_8; clear HB; have HO_6 := n0_; have HO_7 := n1_; have HO_8 := n2_; have HB := n3_; clear n0_ n1_ n2_ n3_; (try clear hb); (try clear hb2); (try clear hk); (try clear hi); have p366 : 0 ≤ (x10_2 : Int) := od_; have q366 : x10_2 < (y361.length : Int) := (by have h_ : (x10_2 : Int) < ((x7_2.length : Int) : Int) := od_; first | (have e_ := (Kd.R_reads' HO_7.out).1; omega) | simpa only [Ny361.out, List.length_set] using h_); have ql366 : ((x10_2 : Int) < ((x7_2.length : Int) : Int)) = True := eq_true (od_); obtain ⟨ad366, e366, hx366_0⟩ := Kd.at_int (Kd.R_reads' HO_7.out).2.2 x10_2 p366 q366; obtain rfl : (⟨go30, 0, none⟩ : Addr) = ad366 := (by injection e366); (first | simp only [add_plain] at hx366_0 | simp only [add_at] at hx366_0 | simp only [Addr.add, Nat.zero_add] at hx366_0 | skip); replace p366 := eq_true p366; replace q366 := eq_true q366; have p40 : 0 ≤ (x10_2 : Int) := od_; have q40 : (x10_2 : Int) < ((x7_2.length : Int) : Int) := od_; obtain ⟨hx40_0, hf40_0⟩ := Kd.R_celln 0 HO_7.out (x10_2 : Int) p40 q40; replace p40 := eq_true p40; replace q40 := eq_true q40; obtain ⟨hy46_, hz46_⟩ := Kd.R_celln 0 HO_7.out (x10_2 : Int) (od_) (od_); have HP46 := Kd.R_putg HO_7.out (x10_2 : Int) (wrap64 ((rd y361 x10_2) - 1))) | ((with_reducible refine gate_store (t := 3) (p := 99) rfl ?_); (try (rw [drewN_self w45]; generalize hq_ : World.drewN w45 _ = w45; have n0_ := Aside0.mk (Kd.S_at hq_ HO_6.out); have n1_ := Aside0.mk (Kd.R_at hq_ HO_7.out); have n2_ := Aside0.mk (Kd.R_at hq_ HO_8.out); have n3_ := Aside0.mk (below_at hq_ HB.out); clear hq_ HO_6 HO_7 HO_8 HB; have HO_6 := n0_; have HO_7 := n1_; have HO_8 := n2_; have HB := n3_; clear n0_ n1_ n2_ n3_; (try (obtain ⟨hy46_, hz46_⟩ := Kd.R_celln 0 HO_7.out (x10_2 : Int) (od_) (od_))); (try (have HP46 := Kd.R_putg HO_7.out (x10_2 : Int) (wrap64 ((rd y361 x10_2) - 1)))))); refine store_event (t := 3) (p := 99) (v := ?vo_w47) (w1 := (w45.setCell ⟨go30, (x10_2 : Int).toNat, none⟩ (.int .i64 (wrap64 ((rd y361 x10_2) - 1))))) ?hg ?ho ?hn ?hr ?_; (case ho => rfl); (case hg => rfl); (case hn => rfl); (case hr => first | (go_simp; done) | (go_simp; rfl)); intro w47 hw; have hg : w45.grownBy w47 (some go30) := (by rw [hw]; exact HP46.2); have hp_ : Kd.R (Kd.int .i64) 3 w47 w.heap.size (fun k_ => some k_ ≠ (u8 : Value).ownBlock) (.slice (some ⟨go30, 0, none⟩) x7_2.length co41) y367 := (by rw [hw, Ny367.out]; exact HP46.1); clear HP46; have n0_ := Aside0.mk (Kd.S_over' (v := (.slice (some ⟨go30, 0, none⟩) x7_2.length co41)) (ks_ HO_6.out) (Kd.R_typed HO_7.out) (by decide) hg); have n1_ := Aside0.mk (hp_); have n2_ := Aside0.mk (Kd.R_after (v := (.slice (some ⟨go30, 0, none⟩) x7_2.length co41)) (v1 := (.slice (some ⟨go30, 0, none⟩) x7_2.length co41)) (ok := (fun _ => True)) (kr_ HO_8.out) hg (.inl rfl)); have n3_ := Aside0.mk ((by rw [hw]; exact below_set (HB.out) GB30.out : Below w.heap.size w w47)); clear HO_6; clear HO_7; clear HO_8; clear HB; have HO_6 := n0_; have HO_7 := n1_; have HO_8 := n2_; have HB := n3_; clear n0_ n1_ n2_ n3_; clear hg hw hp_)))
            go_roundg kj13
            case measure => have := HK1.out; have := HK2.out; have := HJ13.out; omega
            case rel => exact ⟨(y367), (x8_2), (wrap64 (x10_2 + 1)), (by first | rfl | (simp; done) | (simp [*]; done)), H', ⟨by have := HK1.out; have := HK2.out; have := HJ13.out; omega⟩, ⟨ks_ HO_6.out⟩, ⟨kr_ HO_7.out⟩, ⟨by (with_reducible repeat (first | apply Kd.R_alloc | apply Kd.R_drewN | apply Kd.R_drew)); exact Kd.R_mono HO_8.out (fun _ hk => hk.2)⟩, ⟨bl_⟩⟩
       ·rw [if_neg c13] at H
        have c13b0 : decide (x10_2 < (l0.length : Int)) = false := decide_eq_false c13
        clear c13
        have H' := Aside0.mk H
        clear H
        go_wp2
        repeat (go_quiet (fail); try go_wp2)
        go_roundg k2
        case measure => have := HK1.out; have := HK2.out; omega
        case rel => exact ⟨(x7_2), (x8_2), (wrap64 (x9_1 + 1)), (by first | rfl | (simp; done) | (simp [*]; done)), H', ⟨by have := HK1.out; have := HK2.out; omega⟩, ⟨ks_ HO_6.out⟩, ⟨kr_ HO_7.out⟩, ⟨kr_ HO_8.out⟩, ⟨bl_⟩⟩
    ·rw [if_neg c12] at H
     have c12b0 : decide (x9_1 < t343) = false := decide_eq_false c12
     clear c12
     simp only [Option.some.injEq, Prod.mk.injEq] at H
     obtain ⟨rfl, rfl⟩ := H
     go_wp2
     repeat (go_quiet (fail); try go_wp2)
     go_ret2
     exact ⟨_, by first | rfl | (simp [errW_none, errW_some] <;> rfl) | (simp [*, errW_none, errW_some] <;> rfl), by (with_reducible repeat (first | apply Kd.R_alloc | apply Kd.R_drewN | apply Kd.R_drew)); exact Kd.R_mono HO_8.out (fun _ hk => trivial), bl_⟩
 ·rw [if_neg c3] at H
  have c3b0 : (t344 == 0) = false := beq_eq_false_iff_ne.mpr c3
  have c3b1 : (t344 != 0) = true := bne_iff_ne.mpr c3
  simp only [Option.some.injEq, Prod.mk.injEq] at H
  obtain ⟨rfl, rfl⟩ := H
  go_enter Tryd.func21, Tryd.ntmps21
  go_wp2_with (first | (go_at_call 23; (with_reducible refine (trishawref01_Shares.calls k _ _ l0 t343 t344 _ ?side1 ?side2 A2.out).mono ?_); (case side1 => repeat (first | exact HR0.out | (with_reducible refine Kd.C_alloc ?_ _) | (with_reducible refine Kd.C_drewN ?_ _) | (with_reducible refine Kd.C_drew ?_))); (case side2 => exact HC0.out); rintro e w' ⟨rfl, ⟨nd, rfl⟩⟩; (try first | exact ⟨rfl, _, World.drewN_drewN _ _ _⟩ | exact ⟨rfl, _, Eq.trans (World.drewN_drewN _ _ _) (congrArg (World.drewN _) (Nat.add_assoc _ _ _))⟩)))
  repeat (go_quiet (first | (go_at_call 23; (with_reducible refine (trishawref01_Shares.calls k _ _ l0 t343 t344 _ ?side1 ?side2 A2.out).mono ?_); (case side1 => repeat (first | exact HR0.out | (with_reducible refine Kd.C_alloc ?_ _) | (with_reducible refine Kd.C_drewN ?_ _) | (with_reducible refine Kd.C_drew ?_))); (case side2 => exact HC0.out); rintro e w' ⟨rfl, ⟨nd, rfl⟩⟩; (try first | exact ⟨rfl, _, World.drewN_drewN _ _ _⟩ | exact ⟨rfl, _, Eq.trans (World.drewN_drewN _ _ _) (congrArg (World.drewN _) (Nat.add_assoc _ _ _))⟩))); try go_wp2_with (first | (go_at_call 23; (with_reducible refine (trishawref01_Shares.calls k _ _ l0 t343 t344 _ ?side1 ?side2 A2.out).mono ?_); (case side1 => repeat (first | exact HR0.out | (with_reducible refine Kd.C_alloc ?_ _) | (with_reducible refine Kd.C_drewN ?_ _) | (with_reducible refine Kd.C_drew ?_))); (case side2 => exact HC0.out); rintro e w' ⟨rfl, ⟨nd, rfl⟩⟩; (try first | exact ⟨rfl, _, World.drewN_drewN _ _ _⟩ | exact ⟨rfl, _, Eq.trans (World.drewN_drewN _ _ _) (congrArg (World.drewN _) (Nat.add_assoc _ _ _))⟩))))
  go_ret2
  exact ⟨_, by first | rfl | (simp [errW_none, errW_some] <;> rfl) | (simp [*, errW_none, errW_some] <;> rfl), by first | exact Kd.R_nil _ _ _ _ _ | exact Kd.N_nil _ _ _ _ _ | exact Kd.V_nil _ _ _ _ _ | exact Kd.Q_nil _ _ _ _ _ | exact Kd.S_nil _ _ _ _ _, bl_⟩

end Go.Proofs.YtgobffgogmnmpaaDoor.P
