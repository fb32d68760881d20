-- Written by wip/tools/myprint.py of this session's repo, over the kit's printer and hand texts.
import Derived.Test.YtgobffgogmnmpaaDoorPx0
import Derived.Test.YtgobffgogmnmpaaDoorPre
import Derived.Test.YtgobffgogmnmpaaDoorPx23
namespace Go.Proofs.YtgobffgogmnmpaaDoor.P
open Go.RowKit Go.Proofs.YtgobffgogmnmpaaDoorW.PrintWords Go.Proofs.YtgobffgogmnmpaaDoorW.PrintLast Go.Proofs.YtgobffgogmnmpaaDoorW.PrintMore
attribute [local go_sem] max2_int min2_int max_two min_two max_three min_three max_four min_four   -- for this text's walks alone
set_option linter.unusedVariables false
set_option linter.unusedSimpArgs false

/-! ### trishawref01_Greedy: function 33 -/
mutual
def trishawref01_Greedy.l0 : Nat → List Int → Int → Int → List Int → List Int → Int → Option (List Int × Int)
  | 0, _, _, _, _, _, _ => none
  | k + 1, x0, x1, x6, x8, x9, x10 => if x10 ≤ x1 then (trishawref01_Greedy.l1 k x0 x1 x6 x8 x9 x10 0 1) else (some (x9, 0))
def trishawref01_Greedy.l1 : Nat → List Int → Int → Int → List Int → List Int → Int → Int → Int → Option (List Int × Int)
  | 0, _, _, _, _, _, _, _, _ => none
  | k + 1, x0, x1, x6, x8, x9, x10, x11, x12 => if x12 < (x0.length : Int) then (if 0 ≤ x12 then (if x12 < (x8.length : Int) then (if 0 ≤ x11 then (if x11 < (x0.length : Int) then (if x11 < (x8.length : Int) then (if (wrap64 ((wrap64 (x10 * (rd x0 x12))) - (wrap64 ((rd x8 x12) * x6)))) > (wrap64 ((wrap64 (x10 * (rd x0 x11))) - (wrap64 ((rd x8 x11) * x6)))) then (trishawref01_Greedy.l1 k x0 x1 x6 x8 x9 x10 x12 (wrap64 (x12 + 1))) else (trishawref01_Greedy.l1 k x0 x1 x6 x8 x9 x10 x11 (wrap64 (x12 + 1)))) else (none)) else (none)) else (none)) else (none)) else (none)) else (if 0 ≤ x11 then (if x11 < (x8.length : Int) then (if x9.length < 17592186044416 then (trishawref01_Greedy.l0 k x0 x1 x6 (x8.set (x11 : Int).toNat (wrap64 ((rd x8 x11) + 1))) (x9 ++ [x11]) (wrap64 (x10 + 1))) else (none)) else (none)) else (none))
end
def trishawref01_Greedy.f (k : Nat) (l0 : List Int) (a1 : Int) : Option (List Int × Int) := (trishawref01_many.f k l0 a1).bind fun bt570 => (if bt570.2 = 0 then (if 0 ≤ (l0.length : Int) then (if ((l0.length : Int) : Int).toNat ≤ 35184372088832 then (trishawref01_Greedy.l0 k l0 a1 bt570.1 (List.replicate ((l0.length : Int) : Int).toNat 0) ([] : List Int) 1) else (none)) else (none)) else (some (([] : List Int), bt570.2)))
theorem trishawref01_Greedy.mono_l : ∀ k, (∀ y0 y1 y2 y3 y4 y5, LeO (trishawref01_Greedy.l0 k y0 y1 y2 y3 y4 y5) (trishawref01_Greedy.l0 (k + 1) y0 y1 y2 y3 y4 y5)) ∧ (∀ y0 y1 y2 y3 y4 y5 y6 y7, LeO (trishawref01_Greedy.l1 k y0 y1 y2 y3 y4 y5 y6 y7) (trishawref01_Greedy.l1 (k + 1) y0 y1 y2 y3 y4 y5 y6 y7))
  | 0 => ⟨fun _ _ _ _ _ _ r h => by simp [trishawref01_Greedy.l0] at h, fun _ _ _ _ _ _ _ _ r h => by simp [trishawref01_Greedy.l1] at h⟩
  | k + 1 => by
    obtain ⟨ih0, ih1⟩ := trishawref01_Greedy.mono_l k
    refine ⟨?_, ?_⟩
    · intro y0 y1 y2 y3 y4 y5
      unfold trishawref01_Greedy.l0
      repeat' first
      | (with_reducible exact ih0 _ _ _ _ _ _)
      | (with_reducible exact ih1 _ _ _ _ _ _ _ _)
      | (with_reducible exact trishawref01_many.mono _ _ _)
      | (with_reducible exact LeO.refl _)
      | (with_reducible exact LeO.none _)
      | (with_reducible refine LeO.ite ?_ ?_)
      | (with_reducible refine LeO.bind ?_ (fun _ => ?_))
      | exact ih0 _ _ _ _ _ _
      | exact ih1 _ _ _ _ _ _ _ _
      | exact trishawref01_many.mono _ _ _
      | exact LeO.none _
      | refine LeO.ite ?_ ?_
      | refine LeO.bind ?_ (fun _ => ?_)
    · intro y0 y1 y2 y3 y4 y5 y6 y7
      unfold trishawref01_Greedy.l1
      repeat' first
      | (with_reducible exact ih0 _ _ _ _ _ _)
      | (with_reducible exact ih1 _ _ _ _ _ _ _ _)
      | (with_reducible exact trishawref01_many.mono _ _ _)
      | (with_reducible exact LeO.refl _)
      | (with_reducible exact LeO.none _)
      | (with_reducible refine LeO.ite ?_ ?_)
      | (with_reducible refine LeO.bind ?_ (fun _ => ?_))
      | exact ih0 _ _ _ _ _ _
      | exact ih1 _ _ _ _ _ _ _ _
      | exact trishawref01_many.mono _ _ _
      | exact LeO.none _
      | refine LeO.ite ?_ ?_
      | refine LeO.bind ?_ (fun _ => ?_)
theorem trishawref01_Greedy.mono : ∀ a0 a1 k, LeO (trishawref01_Greedy.f k a0 a1) (trishawref01_Greedy.f (k + 1) a0 a1) := by
  intro a0 a1 k
  obtain ⟨ih0, ih1⟩ := trishawref01_Greedy.mono_l k
  unfold trishawref01_Greedy.f
  repeat' first
      | (with_reducible exact ih0 _ _ _ _ _ _)
      | (with_reducible exact ih1 _ _ _ _ _ _ _ _)
      | (with_reducible exact trishawref01_many.mono _ _ _)
      | (with_reducible exact LeO.refl _)
      | (with_reducible exact LeO.none _)
      | (with_reducible refine LeO.ite ?_ ?_)
      | (with_reducible refine LeO.bind ?_ (fun _ => ?_))
      | exact ih0 _ _ _ _ _ _
      | exact ih1 _ _ _ _ _ _ _ _
      | exact trishawref01_many.mono _ _ _
      | exact LeO.none _
      | refine LeO.ite ?_ ?_
      | refine LeO.bind ?_ (fun _ => ?_)
set_option maxHeartbeats 8000000 in
set_option maxRecDepth 100000 in
theorem trishawref01_Greedy.calls (k : Nat) (A0 : Option Addr) (c0 : Nat) (l0 : List Int) (a1 : Int) (r1 : List Int) (r2 : Int) (w : World) (hr0 : Kd.C (Kd.int .i64) w A0 l0.length l0) (hc0 : l0.length ≤ c0) (h : trishawref01_Greedy.f k l0 a1 = some (r1, r2)) :
    Calls Tryd.prog 33 #[.slice A0 l0.length c0, .int .i64 a1] w fun e w' => ∃ v0_ : Value, e = .returned (.tuple #[v0_, .int .i64 r2]) ∧ Kd.R (Kd.int .i64) 3 w' w.heap.size (fun _ => True) v0_ r1 ∧ Below w.heap.size w w' := by
 have HR0 := Aside0.mk hr0
 have HC0 := Aside0.mk hc0
 clear hr0 hc0
 have HB := Aside0.mk (Below.refl w.heap.size w)
 have H : ((trishawref01_many.f k l0 a1).bind fun bt570 => (if bt570.2 = 0 then (if 0 ≤ (l0.length : Int) then (if ((l0.length : Int) : Int).toNat ≤ 35184372088832 then (trishawref01_Greedy.l0 k l0 a1 bt570.1 (List.replicate ((l0.length : Int) : Int).toNat 0) ([] : List Int) 1) else (none)) else (none)) else (some (([] : List Int), bt570.2)))) = some (r1, r2) := h
 clear h
 replace H := Option.bind_eq_some_iff.mp H
 obtain ⟨⟨t570, t571⟩, A30, H⟩ := H
 replace H : (if t571 = 0 then (if 0 ≤ (l0.length : Int) then (if ((l0.length : Int) : Int).toNat ≤ 35184372088832 then (trishawref01_Greedy.l0 k l0 a1 t570 (List.replicate ((l0.length : Int) : Int).toNat 0) ([] : List Int) 1) else (none)) else (none)) else (some (([] : List Int), t571))) = some (r1, r2) := H
 have A3 := Aside0.mk A30
 clear A30
 by_cases c4 : t571 = 0
 ·rw [if_pos c4] at H
  have c4b0 : (t571 == 0) = true := beq_iff_eq.mpr c4
  have c4b1 : (t571 != 0) = false := bne_eq_false_iff_eq.mpr c4
  clear c4
  have c5 : 0 ≤ (l0.length : Int) := fl_ fun c5 => by rw [if_neg c5] at H; exact absurd H (by simp)
  rw [if_pos c5] at H
  have c5b0 := eq_true c5
  have c5b1 : decide (0 ≤ (l0.length : Int)) = true := decide_eq_true c5
  clear c5
  have c6 : ((l0.length : Int) : Int).toNat ≤ 35184372088832 := fl_ fun c6 => by rw [if_neg c6] at H; exact absurd H (by simp)
  rw [if_pos c6] at H
  have c6b0 := eq_true c6
  have c6b1 : decide (((l0.length : Int) : Int).toNat ≤ 35184372088832) = true := decide_eq_true c6
  clear c6
  obtain ⟨y572, hy572⟩ : ∃ y_ : List Int, y_ = (List.replicate ((l0.length : Int) : Int).toNat 0) := ⟨_, rfl⟩
  replace H : (trishawref01_Greedy.l0 k l0 a1 t570 y572 ([] : List Int) 1) = some (r1, r2) := by first | (rw [hy572]; with_reducible exact H) | (have H2_ := (Option.bind_some _ _).symm.trans H; rw [hy572]; with_reducible exact H2_) | (have H2_ := (Option.bind_some _ _).symm.trans H; with_reducible exact H2_) | with_reducible exact H | (rw [hy572]; exact H) | exact H
  have Ny572 := Aside0.mk hy572
  clear hy572
  have H' := Aside0.mk H
  clear H
  go_enter Tryd.func33, Tryd.ntmps33
  go_wp2_with (first | (go_at_call 59; (with_reducible refine (trishawref01_many.calls k _ _ l0 a1 t570 t571 _ ?side1 ?side2 A3.out).mono ?_); (case side1 => repeat (first | exact HR0.out | (with_reducible refine Kd.C_alloc ?_ _) | (with_reducible refine Kd.C_drewN ?_ _) | (with_reducible refine Kd.C_drew ?_))); (case side2 => exact HC0.out); rintro e w' ⟨rfl, ⟨nd, rfl⟩⟩; (try first | exact ⟨rfl, _, World.drewN_drewN _ _ _⟩ | exact ⟨rfl, _, Eq.trans (World.drewN_drewN _ _ _) (congrArg (World.drewN _) (Nat.add_assoc _ _ _))⟩)) | ((with_reducible refine gate_dst (N := 24) rfl ?_); refine Kd.R_make (Kd.int .i64) _ 3 rfl (N := 24) rfl 22 _ _ rfl (l0.length : Int) rfl rfl Tryd.underlying22 (.int .i64 0) 8 info3 rfl (by decide) (by omega) 0 (ok := fun _ => True) (okp := fun _ => True) rfl (fun _ hk => hk) trivial (od_) (Nat.le_trans (Nat.mul_le_mul_right _ (od_ : (l0.length : Int).toNat ≤ 35184372088832)) (by omega)) (Below.refl _ _) (Nat.le_refl _) ?_; intro v573 w7 ho8 hb hg_ hnew_; clear hg_ hnew_; (first | rw [← Ny572.out] at ho8 | (simp only [Int.reduceToNat] at ho8; rw [← Ny572.out] at ho8)); have n0_ := Aside0.mk (Kd.R_lower ho8 (below_size (bl_))); have n1_ := Aside0.mk (below_step (bl_) hb); clear HB; have HO574 := n0_; have HB := n1_; clear n0_ n1_; clear hb ho8))
  repeat (go_quiet (first | (go_at_call 59; (with_reducible refine (trishawref01_many.calls k _ _ l0 a1 t570 t571 _ ?side1 ?side2 A3.out).mono ?_); (case side1 => repeat (first | exact HR0.out | (with_reducible refine Kd.C_alloc ?_ _) | (with_reducible refine Kd.C_drewN ?_ _) | (with_reducible refine Kd.C_drew ?_))); (case side2 => exact HC0.out); rintro e w' ⟨rfl, ⟨nd, rfl⟩⟩; (try first | exact ⟨rfl, _, World.drewN_drewN _ _ _⟩ | exact ⟨rfl, _, Eq.trans (World.drewN_drewN _ _ _) (congrArg (World.drewN _) (Nat.add_assoc _ _ _))⟩)) | ((with_reducible refine gate_dst (N := 24) rfl ?_); refine Kd.R_make (Kd.int .i64) _ 3 rfl (N := 24) rfl 22 _ _ rfl (l0.length : Int) rfl rfl Tryd.underlying22 (.int .i64 0) 8 info3 rfl (by decide) (by omega) 0 (ok := fun _ => True) (okp := fun _ => True) rfl (fun _ hk => hk) trivial (od_) (Nat.le_trans (Nat.mul_le_mul_right _ (od_ : (l0.length : Int).toNat ≤ 35184372088832)) (by omega)) (Below.refl _ _) (Nat.le_refl _) ?_; intro v573 w7 ho8 hb hg_ hnew_; clear hg_ hnew_; (first | rw [← Ny572.out] at ho8 | (simp only [Int.reduceToNat] at ho8; rw [← Ny572.out] at ho8)); have n0_ := Aside0.mk (Kd.R_lower ho8 (below_size (bl_))); have n1_ := Aside0.mk (below_step (bl_) hb); clear HB; have HO574 := n0_; have HB := n1_; clear n0_ n1_; clear hb ho8)); try go_wp2_with (first | (go_at_call 59; (with_reducible refine (trishawref01_many.calls k _ _ l0 a1 t570 t571 _ ?side1 ?side2 A3.out).mono ?_); (case side1 => repeat (first | exact HR0.out | (with_reducible refine Kd.C_alloc ?_ _) | (with_reducible refine Kd.C_drewN ?_ _) | (with_reducible refine Kd.C_drew ?_))); (case side2 => exact HC0.out); rintro e w' ⟨rfl, ⟨nd, rfl⟩⟩; (try first | exact ⟨rfl, _, World.drewN_drewN _ _ _⟩ | exact ⟨rfl, _, Eq.trans (World.drewN_drewN _ _ _) (congrArg (World.drewN _) (Nat.add_assoc _ _ _))⟩)) | ((with_reducible refine gate_dst (N := 24) rfl ?_); refine Kd.R_make (Kd.int .i64) _ 3 rfl (N := 24) rfl 22 _ _ rfl (l0.length : Int) rfl rfl Tryd.underlying22 (.int .i64 0) 8 info3 rfl (by decide) (by omega) 0 (ok := fun _ => True) (okp := fun _ => True) rfl (fun _ hk => hk) trivial (od_) (Nat.le_trans (Nat.mul_le_mul_right _ (od_ : (l0.length : Int).toNat ≤ 35184372088832)) (by omega)) (Below.refl _ _) (Nat.le_refl _) ?_; intro v573 w7 ho8 hb hg_ hnew_; clear hg_ hnew_; (first | rw [← Ny572.out] at ho8 | (simp only [Int.reduceToNat] at ho8; rw [← Ny572.out] at ho8)); have n0_ := Aside0.mk (Kd.R_lower ho8 (below_size (bl_))); have n1_ := Aside0.mk (below_step (bl_) hb); clear HB; have HO574 := n0_; have HB := n1_; clear n0_ n1_; clear hb ho8)))
  go_loopg [9, 10] k (fun kq v9 v10 w' => ∃ (x8_1 : List Int) (x9_1 : List Int) (x10_1 : Int), v10 = .int .i64 x10_1 ∧ Aside0 (trishawref01_Greedy.l0 kq l0 a1 t570 x8_1 x9_1 x10_1 = some (r1, r2)) ∧ Aside0 (kq ≤ k) ∧ Aside0 (Kd.R (Kd.int .i64) 3 w' w.heap.size (fun k_ => some k_ ≠ (v9 : Value).ownBlock) v573 x8_1) ∧ Aside0 (Kd.R (Kd.int .i64) 3 w' w.heap.size (fun k_ => some k_ ≠ (v573 : Value).ownBlock) v9 x9_1) ∧ Aside0 (Below w.heap.size w w'))
  case atStart => exact ⟨(y572), (([] : List Int)), (1), (by first | rfl | (simp; done) | (simp [*]; done)), H', ⟨Nat.le_refl _⟩, ⟨by (with_reducible repeat (first | apply Kd.R_alloc | apply Kd.R_drewN | apply Kd.R_drew)); exact Kd.R_mono HO574.out (fun _ hk => (by simp [Value.ownBlock]))⟩, ⟨by first | exact Kd.R_nil _ _ _ _ _ | exact Kd.N_nil _ _ _ _ _ | exact Kd.V_nil _ _ _ _ _ | exact Kd.Q_nil _ _ _ _ _ | exact Kd.S_nil _ _ _ _ _⟩, ⟨bl_⟩⟩
  case round =>
   clear H'
   try clear p2
   try clear c3
   try clear c4
   try clear c4b0
   try clear c4b1
   try clear c5
   try clear c5b0
   try clear c5b1
   try clear c6
   try clear c6b0
   try clear c6b1
   obtain ⟨x8_1, x9_1, x10_1, rfl, HA, HK1, HO_8, HO_9, HB⟩ := hrel
   cases gk with
   | zero => exact absurd HA.out (by simp [trishawref01_Greedy.l0])
   | succ k1 =>
    have H := HA.out
    clear HA
    simp only [trishawref01_Greedy.l0] at H
    by_cases c9 : x10_1 ≤ a1
    ·rw [if_pos c9] at H
     have c9b0 : decide (x10_1 ≤ a1) = true := decide_eq_true c9
     clear c9
     have H' := Aside0.mk H
     clear H
     go_wp2
     repeat (go_quiet (fail); try go_wp2)
     go_loopg [11, 12] k1 (fun kq v11 v12 w' => ∃ (x11_2 : Int) (x12_2 : Int), v11 = .int .i64 x11_2 ∧ v12 = .int .i64 x12_2 ∧ Aside0 (trishawref01_Greedy.l1 kq l0 a1 t570 x8_1 x9_1 x10_1 x11_2 x12_2 = some (r1, r2)) ∧ Aside0 (kq ≤ k1) ∧ Aside0 (Kd.R (Kd.int .i64) 3 w' w.heap.size (fun k_ => some k_ ≠ (u9 : Value).ownBlock) v573 x8_1) ∧ Aside0 (Kd.R (Kd.int .i64) 3 w' w.heap.size (fun k_ => some k_ ≠ (v573 : Value).ownBlock) u9 x9_1) ∧ Aside0 (Below w.heap.size w w'))
     case atStart => exact ⟨(0), (1), (by first | rfl | (simp; done) | (simp [*]; done)), (by first | rfl | (simp; done) | (simp [*]; done)), H', ⟨Nat.le_refl _⟩, ⟨kr_ HO_8.out⟩, ⟨kr_ HO_9.out⟩, ⟨bl_⟩⟩
     case round =>
      clear H'
      try clear p2
      try clear c3
      try clear c4
      try clear c4b0
      try clear c4b1
      try clear c5
      try clear c5b0
      try clear c5b1
      try clear c6
      try clear c6b0
      try clear c6b1
      try clear c9
      try clear c9b0
      try clear p2
      obtain ⟨x11_2, x12_2, rfl, rfl, HA, HK2, HO_8, HO_9, HB⟩ := hrel
      cases gk with
      | zero => exact absurd HA.out (by simp [trishawref01_Greedy.l1])
      | succ k2 =>
       have H := HA.out
       clear HA
       simp only [trishawref01_Greedy.l1] at H
       by_cases c10 : x12_2 < (l0.length : Int)
       ·rw [if_pos c10] at H
        have c10b0 : decide (x12_2 < (l0.length : Int)) = true := decide_eq_true c10
        clear c10
        have c11 : 0 ≤ x12_2 := fl_ fun c11 => by rw [if_neg c11] at H; exact absurd H (by simp)
        rw [if_pos c11] at H
        have c11b0 : decide (0 ≤ x12_2) = true := decide_eq_true c11
        clear c11
        have c12 : x12_2 < (x8_1.length : Int) := fl_ fun c12 => by rw [if_neg c12] at H; exact absurd H (by simp)
        rw [if_pos c12] at H
        have c12b0 : decide (x12_2 < (x8_1.length : Int)) = true := decide_eq_true c12
        clear c12
        have c13 : 0 ≤ x11_2 := fl_ fun c13 => by rw [if_neg c13] at H; exact absurd H (by simp)
        rw [if_pos c13] at H
        have c13b0 : decide (0 ≤ x11_2) = true := decide_eq_true c13
        clear c13
        have c14 : x11_2 < (l0.length : Int) := fl_ fun c14 => by rw [if_neg c14] at H; exact absurd H (by simp)
        rw [if_pos c14] at H
        have c14b0 : decide (x11_2 < (l0.length : Int)) = true := decide_eq_true c14
        clear c14
        have c15 : x11_2 < (x8_1.length : Int) := fl_ fun c15 => by rw [if_neg c15] at H; exact absurd H (by simp)
        rw [if_pos c15] at H
        have c15b0 : decide (x11_2 < (x8_1.length : Int)) = true := decide_eq_true c15
        clear c15
        by_cases c16 : (wrap64 ((wrap64 (x10_1 * (rd l0 x12_2))) - (wrap64 ((rd x8_1 x12_2) * t570)))) > (wrap64 ((wrap64 (x10_1 * (rd l0 x11_2))) - (wrap64 ((rd x8_1 x11_2) * t570))))
        ·rw [if_pos c16] at H
         have c16b0 : decide ((wrap64 ((wrap64 (x10_1 * (rd l0 x11_2))) - (wrap64 ((rd x8_1 x11_2) * t570)))) < (wrap64 ((wrap64 (x10_1 * (rd l0 x12_2))) - (wrap64 ((rd x8_1 x12_2) * t570))))) = true := decide_eq_true c16
         clear c16
         have H' := Aside0.mk H
         clear H
         have p575 : 0 ≤ (x12_2 : Int) := od_
         have q575 : x12_2 < (l0.length : Int) := od_
         obtain ⟨ad575, e575, hx575_0⟩ := Kd.at_int HR0.out x12_2 p575 q575
         cases e575
         replace hx575_0 := (HB.out.cell (World.block_lt_of_cell? w _ hx575_0)).trans hx575_0
         replace p575 := eq_true p575
         replace q575 := eq_true q575
         obtain ⟨Ao17, co17, eo17⟩ := Kd.R_slice HO_8.out
         subst eo17
         have p576 : 0 ≤ (x12_2 : Int) := od_
         have q576 : x12_2 < (x8_1.length : Int) := od_
         obtain ⟨ad576, e576, hx576_0⟩ := Kd.at_int (Kd.R_reads' HO_8.out).2.2 x12_2 p576 q576
         cases e576
         replace p576 := eq_true p576
         replace q576 := eq_true q576
         have p577 : 0 ≤ (x11_2 : Int) := od_
         have q577 : x11_2 < (l0.length : Int) := od_
         obtain ⟨ad577, e577, hx577_0⟩ := Kd.at_int HR0.out x11_2 p577 q577
         obtain rfl : ad575 = ad577 := (by injection e577)
         replace hx577_0 := (HB.out.cell (World.block_lt_of_cell? w _ hx577_0)).trans hx577_0
         replace p577 := eq_true p577
         replace q577 := eq_true q577
         have p578 : 0 ≤ (x11_2 : Int) := od_
         have q578 : x11_2 < (x8_1.length : Int) := od_
         obtain ⟨ad578, e578, hx578_0⟩ := Kd.at_int (Kd.R_reads' HO_8.out).2.2 x11_2 p578 q578
         obtain rfl : ad576 = ad578 := (by injection e578)
         replace p578 := eq_true p578
         replace q578 := eq_true q578
         go_wp2
         repeat (go_quiet (fail); try go_wp2)
         go_roundg k2
         case measure => have := HK1.out; have := HK2.out; omega
         case rel => exact ⟨(x12_2), (wrap64 (x12_2 + 1)), (by first | rfl | (simp; done) | (simp [*]; done)), (by first | rfl | (simp; done) | (simp [*]; done)), H', ⟨by have := HK1.out; have := HK2.out; omega⟩, ⟨kr_ HO_8.out⟩, ⟨kr_ HO_9.out⟩, ⟨bl_⟩⟩
        ·rw [if_neg c16] at H
         have c16b0 : decide ((wrap64 ((wrap64 (x10_1 * (rd l0 x11_2))) - (wrap64 ((rd x8_1 x11_2) * t570)))) < (wrap64 ((wrap64 (x10_1 * (rd l0 x12_2))) - (wrap64 ((rd x8_1 x12_2) * t570))))) = false := decide_eq_false c16
         clear c16
         have H' := Aside0.mk H
         clear H
         have p575 : 0 ≤ (x12_2 : Int) := od_
         have q575 : x12_2 < (l0.length : Int) := od_
         obtain ⟨ad575, e575, hx575_0⟩ := Kd.at_int HR0.out x12_2 p575 q575
         cases e575
         replace hx575_0 := (HB.out.cell (World.block_lt_of_cell? w _ hx575_0)).trans hx575_0
         replace p575 := eq_true p575
         replace q575 := eq_true q575
         obtain ⟨Ao18, co18, eo18⟩ := Kd.R_slice HO_8.out
         subst eo18
         have p576 : 0 ≤ (x12_2 : Int) := od_
         have q576 : x12_2 < (x8_1.length : Int) := od_
         obtain ⟨ad576, e576, hx576_0⟩ := Kd.at_int (Kd.R_reads' HO_8.out).2.2 x12_2 p576 q576
         cases e576
         replace p576 := eq_true p576
         replace q576 := eq_true q576
         have p577 : 0 ≤ (x11_2 : Int) := od_
         have q577 : x11_2 < (l0.length : Int) := od_
         obtain ⟨ad577, e577, hx577_0⟩ := Kd.at_int HR0.out x11_2 p577 q577
         obtain rfl : ad575 = ad577 := (by injection e577)
         replace hx577_0 := (HB.out.cell (World.block_lt_of_cell? w _ hx577_0)).trans hx577_0
         replace p577 := eq_true p577
         replace q577 := eq_true q577
         have p578 : 0 ≤ (x11_2 : Int) := od_
         have q578 : x11_2 < (x8_1.length : Int) := od_
         obtain ⟨ad578, e578, hx578_0⟩ := Kd.at_int (Kd.R_reads' HO_8.out).2.2 x11_2 p578 q578
         obtain rfl : ad576 = ad578 := (by injection e578)
         replace p578 := eq_true p578
         replace q578 := eq_true q578
         go_wp2
         repeat (go_quiet (fail); try go_wp2)
         go_roundg k2
         case measure => have := HK1.out; have := HK2.out; omega
         case rel => exact ⟨(x11_2), (wrap64 (x12_2 + 1)), (by first | rfl | (simp; done) | (simp [*]; done)), (by first | rfl | (simp; done) | (simp [*]; done)), H', ⟨by have := HK1.out; have := HK2.out; omega⟩, ⟨kr_ HO_8.out⟩, ⟨kr_ HO_9.out⟩, ⟨bl_⟩⟩
       ·rw [if_neg c10] at H
        have c10b0 : decide (x12_2 < (l0.length : Int)) = false := decide_eq_false c10
        clear c10
        have c19 : 0 ≤ x11_2 := fl_ fun c19 => by rw [if_neg c19] at H; exact absurd H (by simp)
        rw [if_pos c19] at H
        have c19b0 : decide (0 ≤ x11_2) = true := decide_eq_true c19
        clear c19
        have c20 : x11_2 < (x8_1.length : Int) := fl_ fun c20 => by rw [if_neg c20] at H; exact absurd H (by simp)
        rw [if_pos c20] at H
        have c20b0 : decide (x11_2 < (x8_1.length : Int)) = true := decide_eq_true c20
        clear c20
        obtain ⟨y580, hy580⟩ : ∃ y_ : List Int, y_ = (x8_1.set (x11_2 : Int).toNat (wrap64 ((rd x8_1 x11_2) + 1))) := ⟨_, rfl⟩
        replace H : (if x9_1.length < 17592186044416 then (trishawref01_Greedy.l0 k2 l0 a1 t570 y580 (x9_1 ++ [x11_2]) (wrap64 (x10_1 + 1))) else (none)) = some (r1, r2) := by first | (rw [hy580]; with_reducible exact H) | (have H2_ := (Option.bind_some _ _).symm.trans H; rw [hy580]; with_reducible exact H2_) | (have H2_ := (Option.bind_some _ _).symm.trans H; with_reducible exact H2_) | with_reducible exact H | (rw [hy580]; exact H) | exact H
        have Ny580 := Aside0.mk hy580
        clear hy580
        have c22 : x9_1.length < 17592186044416 := fl_ fun c22 => by rw [if_neg c22] at H; exact absurd H (by simp)
        rw [if_pos c22] at H
        have LMc22 := Aside0.mk c22
        clear c22
        obtain ⟨y581, hy581⟩ : ∃ y_ : List Int, y_ = (x9_1 ++ [x11_2]) := ⟨_, rfl⟩
        replace H : (trishawref01_Greedy.l0 k2 l0 a1 t570 y580 y581 (wrap64 (x10_1 + 1))) = some (r1, r2) := by first | (rw [hy581]; with_reducible exact H) | (have H2_ := (Option.bind_some _ _).symm.trans H; rw [hy581]; with_reducible exact H2_) | (have H2_ := (Option.bind_some _ _).symm.trans H; with_reducible exact H2_) | with_reducible exact H | (rw [hy581]; exact H) | exact H
        have Ny581 := Aside0.mk hy581
        clear hy581
        have H' := Aside0.mk H
        clear H
        obtain ⟨Ao23, co23, eo23⟩ := Kd.R_slice HO_8.out
        subst eo23
        have p579 : 0 ≤ (x11_2 : Int) := od_
        have q579 : x11_2 < (x8_1.length : Int) := od_
        obtain ⟨ad579, e579, hx579_0⟩ := Kd.at_int (Kd.R_reads' HO_8.out).2.2 x11_2 p579 q579
        cases e579
        replace p579 := eq_true p579
        replace q579 := eq_true q579
        have p21 : 0 ≤ (x11_2 : Int) := od_
        have q21 : (x11_2 : Int) < ((x8_1.length : Int) : Int) := od_
        obtain ⟨go21, co21, eo21, gb21, gl21, cl21, HG21⟩ := Kd.R_form HO_8.out (by omega)
        (first | cases eo21 | (injection eo21 with ea_ en_ ec_; (first | subst ea_ | (injection ea_ with ea_; subst ea_)); subst ec_; clear en_))
        have GB21 := Aside0.mk gb21
        have GG21 := Aside0.mk HG21
        clear gb21 gl21 HG21
        (first | simp only [add_plain] at hx579_0 | skip)
        obtain ⟨hx21_0, hf21_0⟩ := Kd.R_celln 0 HO_8.out (x11_2 : Int) p21 q21
        replace p21 := eq_true p21
        replace q21 := eq_true q21
        have HP24 := Kd.R_putg HO_8.out (x11_2 : Int) (wrap64 ((rd x8_1 x11_2) + 1))
        go_wp2_with (first | ((with_reducible refine gate_store (t := 3) (p := 69) rfl ?_); (try (rw [drewN_self wr]; generalize hq_ : World.drewN wr _ = wr; have n0_ := Aside0.mk (Kd.R_at hq_ HO_8.out); have n1_ := Aside0.mk (Kd.R_at hq_ HO_9.out); have n2_ := Aside0.mk (below_at hq_ HB.out); clear hq_ HO_8 HO_9 HB; have HO_8 := n0_; have HO_9 := n1_; have HB := n2_; clear n0_ n1_ n2_; (try (have HP24 := Kd.R_putg HO_8.out (x11_2 : Int) (wrap64 ((rd x8_1 x11_2) + 1)))))); refine store_event (t := 3) (p := 69) (v := ?vo_w25) (w1 := (wr.setCell ⟨go21, (x11_2 : Int).toNat, none⟩ (.int .i64 (wrap64 ((rd x8_1 x11_2) + 1))))) ?hg ?ho ?hn ?hr ?_; (case ho => rfl); (case hg => rfl); (case hn => rfl); (case hr => first | (go_simp; done) | (go_simp; rfl)); intro w25 hw; have hg : wr.grownBy w25 (some go21) := (by rw [hw]; exact HP24.2); have hp_ : Kd.R (Kd.int .i64) 3 w25 w.heap.size (fun k_ => some k_ ≠ (u9 : Value).ownBlock) (.slice (some ⟨go21, 0, none⟩) x8_1.length co23) y580 := (by rw [hw, Ny580.out]; exact HP24.1); clear HP24; have n0_ := Aside0.mk (hp_); have n1_ := Aside0.mk (Kd.R_after (v := (.slice (some ⟨go21, 0, none⟩) x8_1.length co23)) (v1 := (.slice (some ⟨go21, 0, none⟩) x8_1.length co23)) (ok := (fun _ => True)) (by (with_reducible repeat (first | apply Kd.R_alloc | apply Kd.R_drewN | apply Kd.R_drew)); exact Kd.R_mono HO_9.out (fun _ hk => ⟨trivial, hk⟩)) hg (.inl rfl)); have n2_ := Aside0.mk ((by rw [hw]; exact below_set (HB.out) GB21.out : Below w.heap.size w w25)); clear HO_8; clear HO_9; clear HB; have HO_8 := n0_; have HO_9 := n1_; have HB := n2_; clear n0_ n1_ n2_; clear hg hw hp_) | ((with_reducible refine gate_builtin (b := .append) (xs := #[.tmp 70, .tmp 72]) rfl ?_); at_builtin; refine Kd.R_append (Kd.int .i64) (w0 := w) w.heap.size rfl (.tmp 70) (.tmp 72) 22 3 (.int .i64 0) 8 rfl Tryd.underlying22 info3 rfl (by decide) (by omega) u9 x9_1 x11_2 [.int .i64 x11_2] (fun k_ => some k_ ≠ (.slice (some ⟨go21, 0, none⟩) x8_1.length co23 : Value).ownBlock) (fun _ => False) rfl rfl ?aP (fun _ hk => hk.elim) ?aF ?aO ?aB ?aS ?aL ?_; (case aP => exact rfl); (case aB => exact (bl_)); (case aF => exact (fun k_ hk => Kd.fresh' (Kd.R_lt (kr_ HO_8.out)) k_ hk)); (case aO => exact (by (with_reducible repeat (first | apply Kd.R_alloc | apply Kd.R_drewN | apply Kd.R_drew)); exact Kd.R_mono HO_9.out (fun _ hk => hk.2))); (case aS => exact (below_size (bl_))); (case aL => have := LMc22.out; omega); intro v582 w26 ho hb hg hat; rw [← Ny581.out] at ho; have n0_ := Aside0.mk (Kd.R_after (ok := (fun _ => True)) (by (with_reducible repeat (first | apply Kd.R_alloc | apply Kd.R_drewN | apply Kd.R_drew)); exact Kd.R_mono HO_8.out (fun _ hk => ⟨trivial, hk⟩)) hg hat); have n1_ := Aside0.mk (hb); have n2_ := Aside0.mk (ho); clear HO_8; clear HB; clear HO_9; have HO_8 := n0_; have HB := n1_; have HO583 := n2_; clear n0_ n1_ n2_; clear ho hb hg hat))
        repeat (go_quiet (first | ((with_reducible refine gate_store (t := 3) (p := 69) rfl ?_); (try (rw [drewN_self wr]; generalize hq_ : World.drewN wr _ = wr; have n0_ := Aside0.mk (Kd.R_at hq_ HO_8.out); have n1_ := Aside0.mk (Kd.R_at hq_ HO_9.out); have n2_ := Aside0.mk (below_at hq_ HB.out); clear hq_ HO_8 HO_9 HB; have HO_8 := n0_; have HO_9 := n1_; have HB := n2_; clear n0_ n1_ n2_; (try (have HP24 := Kd.R_putg HO_8.out (x11_2 : Int) (wrap64 ((rd x8_1 x11_2) + 1)))))); refine store_event (t := 3) (p := 69) (v := ?vo_w25) (w1 := (wr.setCell ⟨go21, (x11_2 : Int).toNat, none⟩ (.int .i64 (wrap64 ((rd x8_1 x11_2) + 1))))) ?hg ?ho ?hn ?hr ?_; (case ho => rfl); (case hg => rfl); (case hn => rfl); (case hr => first | (go_simp; done) | (go_simp; rfl)); intro w25 hw; have hg : wr.grownBy w25 (some go21) := (by rw [hw]; exact HP24.2); have hp_ : Kd.R (Kd.int .i64) 3 w25 w.heap.size (fun k_ => some k_ ≠ (u9 : Value).ownBlock) (.slice (some ⟨go21, 0, none⟩) x8_1.length co23) y580 := (by rw [hw, Ny580.out]; exact HP24.1); clear HP24; have n0_ := Aside0.mk (hp_); have n1_ := Aside0.mk (Kd.R_after (v := (.slice (some ⟨go21, 0, none⟩) x8_1.length co23)) (v1 := (.slice (some ⟨go21, 0, none⟩) x8_1.length co23)) (ok := (fun _ => True)) (by (with_reducible repeat (first | apply Kd.R_alloc | apply Kd.R_drewN | apply Kd.R_drew)); exact Kd.R_mono HO_9.out (fun _ hk => ⟨trivial, hk⟩)) hg (.inl rfl)); have n2_ := Aside0.mk ((by rw [hw]; exact below_set (HB.out) GB21.out : Below w.heap.size w w25)); clear HO_8; clear HO_9; clear HB; have HO_8 := n0_; have HO_9 := n1_; have HB := n2_; clear n0_ n1_ n2_; clear hg hw hp_) | ((with_reducible refine gate_builtin (b := .append) (xs := #[.tmp 70, .tmp 72]) rfl ?_); at_builtin; refine Kd.R_append (Kd.int .i64) (w0 := w) w.heap.size rfl (.tmp 70) (.tmp 72) 22 3 (.int .i64 0) 8 rfl Tryd.underlying22 info3 rfl (by decide) (by omega) u9 x9_1 x11_2 [.int .i64 x11_2] (fun k_ => some k_ ≠ (.slice (some ⟨go21, 0, none⟩) x8_1.length co23 : Value).ownBlock) (fun _ => False) rfl rfl ?aP (fun _ hk => hk.elim) ?aF ?aO ?aB ?aS ?aL ?_; (case aP => exact rfl); (case aB => exact (bl_)); (case aF => exact (fun k_ hk => Kd.fresh' (Kd.R_lt (kr_ HO_8.out)) k_ hk)); (case aO => exact (by (with_reducible repeat (first | apply Kd.R_alloc | apply Kd.R_drewN | apply Kd.R_drew)); exact Kd.R_mono HO_9.out (fun _ hk => hk.2))); (case aS => exact (below_size (bl_))); (case aL => have := LMc22.out; omega); intro v582 w26 ho hb hg hat; rw [← Ny581.out] at ho; have n0_ := Aside0.mk (Kd.R_after (ok := (fun _ => True)) (by (with_reducible repeat (first | apply Kd.R_alloc | apply Kd.R_drewN | apply Kd.R_drew)); exact Kd.R_mono HO_8.out (fun _ hk => ⟨trivial, hk⟩)) hg hat); have n1_ := Aside0.mk (hb); have n2_ := Aside0.mk (ho); clear HO_8; clear HB; clear HO_9; have HO_8 := n0_; have HB := n1_; have HO583 := n2_; clear n0_ n1_ n2_; clear ho hb hg hat)); try go_wp2_with (first | ((with_reducible refine gate_store (t := 3) (p := 69) rfl ?_); (try (rw [drewN_self wr]; generalize hq_ : World.drewN wr _ = wr; have n0_ := Aside0.mk (Kd.R_at hq_ HO_8.out); have n1_ := Aside0.mk (Kd.R_at hq_ HO_9.out); have n2_ := Aside0.mk (below_at hq_ HB.out); clear hq_ HO_8 HO_9 HB; have HO_8 := n0_; have HO_9 := n1_; have HB := n2_; clear n0_ n1_ n2_; (try (have HP24 := Kd.R_putg HO_8.out (x11_2 : Int) (wrap64 ((rd x8_1 x11_2) + 1)))))); refine store_event (t := 3) (p := 69) (v := ?vo_w25) (w1 := (wr.setCell ⟨go21, (x11_2 : Int).toNat, none⟩ (.int .i64 (wrap64 ((rd x8_1 x11_2) + 1))))) ?hg ?ho ?hn ?hr ?_; (case ho => rfl); (case hg => rfl); (case hn => rfl); (case hr => first | (go_simp; done) | (go_simp; rfl)); intro w25 hw; have hg : wr.grownBy w25 (some go21) := (by rw [hw]; exact HP24.2); have hp_ : Kd.R (Kd.int .i64) 3 w25 w.heap.size (fun k_ => some k_ ≠ (u9 : Value).ownBlock) (.slice (some ⟨go21, 0, none⟩) x8_1.length co23) y580 := (by rw [hw, Ny580.out]; exact HP24.1); clear HP24; have n0_ := Aside0.mk (hp_); have n1_ := Aside0.mk (Kd.R_after (v := (.slice (some ⟨go21, 0, none⟩) x8_1.length co23)) (v1 := (.slice (some ⟨go21, 0, none⟩) x8_1.length co23)) (ok := (fun _ => True)) (by (with_reducible repeat (first | apply Kd.R_alloc | apply Kd.R_drewN | apply Kd.R_drew)); exact Kd.R_mono HO_9.out (fun _ hk => ⟨trivial, hk⟩)) hg (.inl rfl)); have n2_ := Aside0.mk ((by rw [hw]; exact below_set (HB.out) GB21.out : Below w.heap.size w w25)); clear HO_8; clear HO_9; clear HB; have HO_8 := n0_; have HO_9 := n1_; have HB := n2_; clear n0_ n1_ n2_; clear hg hw hp_) | ((with_reducible refine gate_builtin (b := .append) (xs := #[.tmp 70, .tmp 72]) rfl ?_); at_builtin; refine Kd.R_append (Kd.int .i64) (w0 := w) w.heap.size rfl (.tmp 70) (.tmp 72) 22 3 (.int .i64 0) 8 rfl Tryd.underlying22 info3 rfl (by decide) (by omega) u9 x9_1 x11_2 [.int .i64 x11_2] (fun k_ => some k_ ≠ (.slice (some ⟨go21, 0, none⟩) x8_1.length co23 : Value).ownBlock) (fun _ => False) rfl rfl ?aP (fun _ hk => hk.elim) ?aF ?aO ?aB ?aS ?aL ?_; (case aP => exact rfl); (case aB => exact (bl_)); (case aF => exact (fun k_ hk => Kd.fresh' (Kd.R_lt (kr_ HO_8.out)) k_ hk)); (case aO => exact (by (with_reducible repeat (first | apply Kd.R_alloc | apply Kd.R_drewN | apply Kd.R_drew)); exact Kd.R_mono HO_9.out (fun _ hk => hk.2))); (case aS => exact (below_size (bl_))); (case aL => have := LMc22.out; omega); intro v582 w26 ho hb hg hat; rw [← Ny581.out] at ho; have n0_ := Aside0.mk (Kd.R_after (ok := (fun _ => True)) (by (with_reducible repeat (first | apply Kd.R_alloc | apply Kd.R_drewN | apply Kd.R_drew)); exact Kd.R_mono HO_8.out (fun _ hk => ⟨trivial, hk⟩)) hg hat); have n1_ := Aside0.mk (hb); have n2_ := Aside0.mk (ho); clear HO_8; clear HB; clear HO_9; have HO_8 := n0_; have HB := n1_; have HO583 := n2_; clear n0_ n1_ n2_; clear ho hb hg hat)))
        go_roundg k2
        case measure => have := HK1.out; have := HK2.out; omega
        case rel => exact ⟨(y580), (y581), (wrap64 (x10_1 + 1)), (by first | rfl | (simp; done) | (simp [*]; done)), H', ⟨by have := HK1.out; have := HK2.out; omega⟩, ⟨by (with_reducible repeat (first | apply Kd.R_alloc | apply Kd.R_drewN | apply Kd.R_drew)); exact Kd.R_mono HO_8.out (fun _ hk => hk.2)⟩, ⟨kr_ HO583.out⟩, ⟨bl_⟩⟩
    ·rw [if_neg c9] at H
     have c9b0 : decide (x10_1 ≤ a1) = false := decide_eq_false c9
     clear c9
     simp only [Option.some.injEq, Prod.mk.injEq] at H
     obtain ⟨rfl, rfl⟩ := H
     go_wp2
     repeat (go_quiet (fail); try go_wp2)
     go_ret2
     exact ⟨_, by first | rfl | (simp [errW_none, errW_some] <;> rfl) | (simp [*, errW_none, errW_some] <;> rfl), by (with_reducible repeat (first | apply Kd.R_alloc | apply Kd.R_drewN | apply Kd.R_drew)); exact Kd.R_mono HO_9.out (fun _ hk => trivial), bl_⟩
 ·rw [if_neg c4] at H
  have c4b0 : (t571 == 0) = false := beq_eq_false_iff_ne.mpr c4
  have c4b1 : (t571 != 0) = true := bne_iff_ne.mpr c4
  simp only [Option.some.injEq, Prod.mk.injEq] at H
  obtain ⟨rfl, rfl⟩ := H
  go_enter Tryd.func33, Tryd.ntmps33
  go_wp2_with (first | (go_at_call 59; (with_reducible refine (trishawref01_many.calls k _ _ l0 a1 t570 t571 _ ?side1 ?side2 A3.out).mono ?_); (case side1 => repeat (first | exact HR0.out | (with_reducible refine Kd.C_alloc ?_ _) | (with_reducible refine Kd.C_drewN ?_ _) | (with_reducible refine Kd.C_drew ?_))); (case side2 => exact HC0.out); rintro e w' ⟨rfl, ⟨nd, rfl⟩⟩; (try first | exact ⟨rfl, _, World.drewN_drewN _ _ _⟩ | exact ⟨rfl, _, Eq.trans (World.drewN_drewN _ _ _) (congrArg (World.drewN _) (Nat.add_assoc _ _ _))⟩)))
  repeat (go_quiet (first | (go_at_call 59; (with_reducible refine (trishawref01_many.calls k _ _ l0 a1 t570 t571 _ ?side1 ?side2 A3.out).mono ?_); (case side1 => repeat (first | exact HR0.out | (with_reducible refine Kd.C_alloc ?_ _) | (with_reducible refine Kd.C_drewN ?_ _) | (with_reducible refine Kd.C_drew ?_))); (case side2 => exact HC0.out); rintro e w' ⟨rfl, ⟨nd, rfl⟩⟩; (try first | exact ⟨rfl, _, World.drewN_drewN _ _ _⟩ | exact ⟨rfl, _, Eq.trans (World.drewN_drewN _ _ _) (congrArg (World.drewN _) (Nat.add_assoc _ _ _))⟩))); try go_wp2_with (first | (go_at_call 59; (with_reducible refine (trishawref01_many.calls k _ _ l0 a1 t570 t571 _ ?side1 ?side2 A3.out).mono ?_); (case side1 => repeat (first | exact HR0.out | (with_reducible refine Kd.C_alloc ?_ _) | (with_reducible refine Kd.C_drewN ?_ _) | (with_reducible refine Kd.C_drew ?_))); (case side2 => exact HC0.out); rintro e w' ⟨rfl, ⟨nd, rfl⟩⟩; (try first | exact ⟨rfl, _, World.drewN_drewN _ _ _⟩ | exact ⟨rfl, _, Eq.trans (World.drewN_drewN _ _ _) (congrArg (World.drewN _) (Nat.add_assoc _ _ _))⟩))))
  go_ret2
  exact ⟨_, by first | rfl | (simp [errW_none, errW_some] <;> rfl) | (simp [*, errW_none, errW_some] <;> rfl), by first | exact Kd.R_nil _ _ _ _ _ | exact Kd.N_nil _ _ _ _ _ | exact Kd.V_nil _ _ _ _ _ | exact Kd.Q_nil _ _ _ _ _ | exact Kd.S_nil _ _ _ _ _, bl_⟩

/-! ### trishawref01_Fair: function 34 -/
mutual
def trishawref01_Fair.l0 : Nat → List Int → Int → Int → Int → List Int → List Int → Int → Option (List Int × Int)
  | 0, _, _, _, _, _, _, _ => none
  | k + 1, x0, x1, x6, x8, x9, x10, x11 => if x11 ≤ x1 then (trishawref01_Fair.l1 k x0 x1 x6 x8 x9 x10 x11 (-1) 0 0) else (some (x10, 0))
def trishawref01_Fair.l1 : Nat → List Int → Int → Int → Int → List Int → List Int → Int → Int → Int → Int → Option (List Int × Int)
  | 0, _, _, _, _, _, _, _, _, _, _ => none
  | k + 1, x0, x1, x6, x8, x9, x10, x11, x12, x13, x14 => if x14 < (x0.length : Int) then (if 0 ≤ x14 then (if x14 < (x9.length : Int) then (if (x0.length : Int) > 1 then (trishawref01_Fair.j2 k x0 x1 x6 x8 x9 x10 x11 x12 x13 x14 (wrap64 ((wrap64 ((wrap64 (x11 * (rd x0 x14))) - (wrap64 ((rd x9 x14) * x6)))) * x8)) (decide ((wrap64 ((wrap64 ((wrap64 (x11 * (rd x0 x14))) - (wrap64 ((rd x9 x14) * x6)))) * x8)) < x6))) else (trishawref01_Fair.j2 k x0 x1 x6 x8 x9 x10 x11 x12 x13 x14 (wrap64 ((wrap64 ((wrap64 (x11 * (rd x0 x14))) - (wrap64 ((rd x9 x14) * x6)))) * x8)) false)) else (none)) else (none)) else (if 0 ≤ x12 then (if x12 < (x9.length : Int) then (if x10.length < 17592186044416 then (trishawref01_Fair.l0 k x0 x1 x6 x8 (x9.set (x12 : Int).toNat (wrap64 ((rd x9 x12) + 1))) (x10 ++ [x12]) (wrap64 (x11 + 1))) else (none)) else (none)) else (none))
def trishawref01_Fair.j2 : Nat → List Int → Int → Int → Int → List Int → List Int → Int → Int → Int → Int → Int → Bool → Option (List Int × Int)
  | 0, _, _, _, _, _, _, _, _, _, _, _, _ => none
  | k + 1, x0, x1, x6, x8, x9, x10, x11, x12, x13, x14, x15, x66 => if x66 = true then (trishawref01_Fair.l1 k x0 x1 x6 x8 x9 x10 x11 x12 x13 (wrap64 (x14 + 1))) else (if x12 < 0 then (trishawref01_Fair.l1 k x0 x1 x6 x8 x9 x10 x11 x14 (wrap64 ((wrap64 ((wrap64 (x8 - 1)) * x6)) - x15)) (wrap64 (x14 + 1))) else (if 0 ≤ x12 then (if x12 < (x0.length : Int) then (if 0 ≤ x14 then (if x14 < (x0.length : Int) then (if (wrap64 ((wrap64 ((wrap64 ((wrap64 (x8 - 1)) * x6)) - x15)) * (rd x0 x12))) < (wrap64 (x13 * (rd x0 x14))) then (trishawref01_Fair.l1 k x0 x1 x6 x8 x9 x10 x11 x14 (wrap64 ((wrap64 ((wrap64 (x8 - 1)) * x6)) - x15)) (wrap64 (x14 + 1))) else (trishawref01_Fair.l1 k x0 x1 x6 x8 x9 x10 x11 x12 x13 (wrap64 (x14 + 1)))) else (none)) else (none)) else (none)) else (none)))
end
def trishawref01_Fair.f (k : Nat) (l0 : List Int) (a1 : Int) : Option (List Int × Int) := (trishawref01_many.f k l0 a1).bind fun bt584 => (if bt584.2 = 0 then (if 0 ≤ (l0.length : Int) then (if ((l0.length : Int) : Int).toNat ≤ 35184372088832 then (trishawref01_Fair.l0 k l0 a1 bt584.1 (wrap64 ((wrap64 (2 * (l0.length : Int))) - 2)) (List.replicate ((l0.length : Int) : Int).toNat 0) ([] : List Int) 1) else (none)) else (none)) else (some (([] : List Int), bt584.2)))
theorem trishawref01_Fair.mono_l : ∀ k, (∀ y0 y1 y2 y3 y4 y5 y6, LeO (trishawref01_Fair.l0 k y0 y1 y2 y3 y4 y5 y6) (trishawref01_Fair.l0 (k + 1) y0 y1 y2 y3 y4 y5 y6)) ∧ (∀ y0 y1 y2 y3 y4 y5 y6 y7 y8 y9, LeO (trishawref01_Fair.l1 k y0 y1 y2 y3 y4 y5 y6 y7 y8 y9) (trishawref01_Fair.l1 (k + 1) y0 y1 y2 y3 y4 y5 y6 y7 y8 y9)) ∧ (∀ y0 y1 y2 y3 y4 y5 y6 y7 y8 y9 y10 y11, LeO (trishawref01_Fair.j2 k y0 y1 y2 y3 y4 y5 y6 y7 y8 y9 y10 y11) (trishawref01_Fair.j2 (k + 1) y0 y1 y2 y3 y4 y5 y6 y7 y8 y9 y10 y11))
  | 0 => ⟨fun _ _ _ _ _ _ _ r h => by simp [trishawref01_Fair.l0] at h, fun _ _ _ _ _ _ _ _ _ _ r h => by simp [trishawref01_Fair.l1] at h, fun _ _ _ _ _ _ _ _ _ _ _ _ r h => by simp [trishawref01_Fair.j2] at h⟩
  | k + 1 => by
    obtain ⟨ih0, ih1, ih2⟩ := trishawref01_Fair.mono_l k
    refine ⟨?_, ?_, ?_⟩
    · intro y0 y1 y2 y3 y4 y5 y6
      unfold trishawref01_Fair.l0
      repeat' first
      | (with_reducible exact ih0 _ _ _ _ _ _ _)
      | (with_reducible exact ih1 _ _ _ _ _ _ _ _ _ _)
      | (with_reducible exact ih2 _ _ _ _ _ _ _ _ _ _ _ _)
      | (with_reducible exact trishawref01_many.mono _ _ _)
      | (with_reducible exact LeO.refl _)
      | (with_reducible exact LeO.none _)
      | (with_reducible refine LeO.ite ?_ ?_)
      | (with_reducible refine LeO.bind ?_ (fun _ => ?_))
      | exact ih0 _ _ _ _ _ _ _
      | exact ih1 _ _ _ _ _ _ _ _ _ _
      | exact ih2 _ _ _ _ _ _ _ _ _ _ _ _
      | exact trishawref01_many.mono _ _ _
      | exact LeO.none _
      | refine LeO.ite ?_ ?_
      | refine LeO.bind ?_ (fun _ => ?_)
    · intro y0 y1 y2 y3 y4 y5 y6 y7 y8 y9
      unfold trishawref01_Fair.l1
      repeat' first
      | (with_reducible exact ih0 _ _ _ _ _ _ _)
      | (with_reducible exact ih1 _ _ _ _ _ _ _ _ _ _)
      | (with_reducible exact ih2 _ _ _ _ _ _ _ _ _ _ _ _)
      | (with_reducible exact trishawref01_many.mono _ _ _)
      | (with_reducible exact LeO.refl _)
      | (with_reducible exact LeO.none _)
      | (with_reducible refine LeO.ite ?_ ?_)
      | (with_reducible refine LeO.bind ?_ (fun _ => ?_))
      | exact ih0 _ _ _ _ _ _ _
      | exact ih1 _ _ _ _ _ _ _ _ _ _
      | exact ih2 _ _ _ _ _ _ _ _ _ _ _ _
      | exact trishawref01_many.mono _ _ _
      | exact LeO.none _
      | refine LeO.ite ?_ ?_
      | refine LeO.bind ?_ (fun _ => ?_)
    · intro y0 y1 y2 y3 y4 y5 y6 y7 y8 y9 y10 y11
      unfold trishawref01_Fair.j2
      repeat' first
      | (with_reducible exact ih0 _ _ _ _ _ _ _)
      | (with_reducible exact ih1 _ _ _ _ _ _ _ _ _ _)
      | (with_reducible exact ih2 _ _ _ _ _ _ _ _ _ _ _ _)
      | (with_reducible exact trishawref01_many.mono _ _ _)
      | (with_reducible exact LeO.refl _)
      | (with_reducible exact LeO.none _)
      | (with_reducible refine LeO.ite ?_ ?_)
      | (with_reducible refine LeO.bind ?_ (fun _ => ?_))
      | exact ih0 _ _ _ _ _ _ _
      | exact ih1 _ _ _ _ _ _ _ _ _ _
      | exact ih2 _ _ _ _ _ _ _ _ _ _ _ _
      | exact trishawref01_many.mono _ _ _
      | exact LeO.none _
      | refine LeO.ite ?_ ?_
      | refine LeO.bind ?_ (fun _ => ?_)
theorem trishawref01_Fair.mono : ∀ a0 a1 k, LeO (trishawref01_Fair.f k a0 a1) (trishawref01_Fair.f (k + 1) a0 a1) := by
  intro a0 a1 k
  obtain ⟨ih0, ih1, ih2⟩ := trishawref01_Fair.mono_l k
  unfold trishawref01_Fair.f
  repeat' first
      | (with_reducible exact ih0 _ _ _ _ _ _ _)
      | (with_reducible exact ih1 _ _ _ _ _ _ _ _ _ _)
      | (with_reducible exact ih2 _ _ _ _ _ _ _ _ _ _ _ _)
      | (with_reducible exact trishawref01_many.mono _ _ _)
      | (with_reducible exact LeO.refl _)
      | (with_reducible exact LeO.none _)
      | (with_reducible refine LeO.ite ?_ ?_)
      | (with_reducible refine LeO.bind ?_ (fun _ => ?_))
      | exact ih0 _ _ _ _ _ _ _
      | exact ih1 _ _ _ _ _ _ _ _ _ _
      | exact ih2 _ _ _ _ _ _ _ _ _ _ _ _
      | exact trishawref01_many.mono _ _ _
      | exact LeO.none _
      | refine LeO.ite ?_ ?_
      | refine LeO.bind ?_ (fun _ => ?_)
set_option maxHeartbeats 8000000 in
set_option maxRecDepth 100000 in
theorem trishawref01_Fair.calls (k : Nat) (A0 : Option Addr) (c0 : Nat) (l0 : List Int) (a1 : Int) (r1 : List Int) (r2 : Int) (w : World) (hr0 : Kd.C (Kd.int .i64) w A0 l0.length l0) (hc0 : l0.length ≤ c0) (h : trishawref01_Fair.f k l0 a1 = some (r1, r2)) :
    Calls Tryd.prog 34 #[.slice A0 l0.length c0, .int .i64 a1] w fun e w' => ∃ v0_ : Value, e = .returned (.tuple #[v0_, .int .i64 r2]) ∧ Kd.R (Kd.int .i64) 3 w' w.heap.size (fun _ => True) v0_ r1 ∧ Below w.heap.size w w' := by
 have HR0 := Aside0.mk hr0
 have HC0 := Aside0.mk hc0
 clear hr0 hc0
 have HB := Aside0.mk (Below.refl w.heap.size w)
 have H : ((trishawref01_many.f k l0 a1).bind fun bt584 => (if bt584.2 = 0 then (if 0 ≤ (l0.length : Int) then (if ((l0.length : Int) : Int).toNat ≤ 35184372088832 then (trishawref01_Fair.l0 k l0 a1 bt584.1 (wrap64 ((wrap64 (2 * (l0.length : Int))) - 2)) (List.replicate ((l0.length : Int) : Int).toNat 0) ([] : List Int) 1) else (none)) else (none)) else (some (([] : List Int), bt584.2)))) = some (r1, r2) := h
 clear h
 replace H := Option.bind_eq_some_iff.mp H
 obtain ⟨⟨t584, t585⟩, A30, H⟩ := H
 replace H : (if t585 = 0 then (if 0 ≤ (l0.length : Int) then (if ((l0.length : Int) : Int).toNat ≤ 35184372088832 then (trishawref01_Fair.l0 k l0 a1 t584 (wrap64 ((wrap64 (2 * (l0.length : Int))) - 2)) (List.replicate ((l0.length : Int) : Int).toNat 0) ([] : List Int) 1) else (none)) else (none)) else (some (([] : List Int), t585))) = some (r1, r2) := H
 have A3 := Aside0.mk A30
 clear A30
 by_cases c4 : t585 = 0
 ·rw [if_pos c4] at H
  have c4b0 : (t585 == 0) = true := beq_iff_eq.mpr c4
  have c4b1 : (t585 != 0) = false := bne_eq_false_iff_eq.mpr c4
  clear c4
  have c5 : 0 ≤ (l0.length : Int) := fl_ fun c5 => by rw [if_neg c5] at H; exact absurd H (by simp)
  rw [if_pos c5] at H
  have c5b0 := eq_true c5
  have c5b1 : decide (0 ≤ (l0.length : Int)) = true := decide_eq_true c5
  clear c5
  have c6 : ((l0.length : Int) : Int).toNat ≤ 35184372088832 := fl_ fun c6 => by rw [if_neg c6] at H; exact absurd H (by simp)
  rw [if_pos c6] at H
  have c6b0 := eq_true c6
  have c6b1 : decide (((l0.length : Int) : Int).toNat ≤ 35184372088832) = true := decide_eq_true c6
  clear c6
  obtain ⟨y586, hy586⟩ : ∃ y_ : List Int, y_ = (List.replicate ((l0.length : Int) : Int).toNat 0) := ⟨_, rfl⟩
  replace H : (trishawref01_Fair.l0 k l0 a1 t584 (wrap64 ((wrap64 (2 * (l0.length : Int))) - 2)) y586 ([] : List Int) 1) = some (r1, r2) := by first | (rw [hy586]; with_reducible exact H) | (have H2_ := (Option.bind_some _ _).symm.trans H; rw [hy586]; with_reducible exact H2_) | (have H2_ := (Option.bind_some _ _).symm.trans H; with_reducible exact H2_) | with_reducible exact H | (rw [hy586]; exact H) | exact H
  have Ny586 := Aside0.mk hy586
  clear hy586
  have H' := Aside0.mk H
  clear H
  go_enter Tryd.func34, Tryd.ntmps34
  go_wp2_with (first | (go_at_call 59; (with_reducible refine (trishawref01_many.calls k _ _ l0 a1 t584 t585 _ ?side1 ?side2 A3.out).mono ?_); (case side1 => repeat (first | exact HR0.out | (with_reducible refine Kd.C_alloc ?_ _) | (with_reducible refine Kd.C_drewN ?_ _) | (with_reducible refine Kd.C_drew ?_))); (case side2 => exact HC0.out); rintro e w' ⟨rfl, ⟨nd, rfl⟩⟩; (try first | exact ⟨rfl, _, World.drewN_drewN _ _ _⟩ | exact ⟨rfl, _, Eq.trans (World.drewN_drewN _ _ _) (congrArg (World.drewN _) (Nat.add_assoc _ _ _))⟩)) | ((with_reducible refine gate_dst (N := 32) rfl ?_); refine Kd.R_make (Kd.int .i64) _ 3 rfl (N := 32) rfl 22 _ _ rfl (l0.length : Int) rfl rfl Tryd.underlying22 (.int .i64 0) 8 info3 rfl (by decide) (by omega) 0 (ok := fun _ => True) (okp := fun _ => True) rfl (fun _ hk => hk) trivial (od_) (Nat.le_trans (Nat.mul_le_mul_right _ (od_ : (l0.length : Int).toNat ≤ 35184372088832)) (by omega)) (Below.refl _ _) (Nat.le_refl _) ?_; intro v587 w7 ho8 hb hg_ hnew_; clear hg_ hnew_; (first | rw [← Ny586.out] at ho8 | (simp only [Int.reduceToNat] at ho8; rw [← Ny586.out] at ho8)); have n0_ := Aside0.mk (Kd.R_lower ho8 (below_size (bl_))); have n1_ := Aside0.mk (below_step (bl_) hb); clear HB; have HO588 := n0_; have HB := n1_; clear n0_ n1_; clear hb ho8))
  repeat (go_quiet (first | (go_at_call 59; (with_reducible refine (trishawref01_many.calls k _ _ l0 a1 t584 t585 _ ?side1 ?side2 A3.out).mono ?_); (case side1 => repeat (first | exact HR0.out | (with_reducible refine Kd.C_alloc ?_ _) | (with_reducible refine Kd.C_drewN ?_ _) | (with_reducible refine Kd.C_drew ?_))); (case side2 => exact HC0.out); rintro e w' ⟨rfl, ⟨nd, rfl⟩⟩; (try first | exact ⟨rfl, _, World.drewN_drewN _ _ _⟩ | exact ⟨rfl, _, Eq.trans (World.drewN_drewN _ _ _) (congrArg (World.drewN _) (Nat.add_assoc _ _ _))⟩)) | ((with_reducible refine gate_dst (N := 32) rfl ?_); refine Kd.R_make (Kd.int .i64) _ 3 rfl (N := 32) rfl 22 _ _ rfl (l0.length : Int) rfl rfl Tryd.underlying22 (.int .i64 0) 8 info3 rfl (by decide) (by omega) 0 (ok := fun _ => True) (okp := fun _ => True) rfl (fun _ hk => hk) trivial (od_) (Nat.le_trans (Nat.mul_le_mul_right _ (od_ : (l0.length : Int).toNat ≤ 35184372088832)) (by omega)) (Below.refl _ _) (Nat.le_refl _) ?_; intro v587 w7 ho8 hb hg_ hnew_; clear hg_ hnew_; (first | rw [← Ny586.out] at ho8 | (simp only [Int.reduceToNat] at ho8; rw [← Ny586.out] at ho8)); have n0_ := Aside0.mk (Kd.R_lower ho8 (below_size (bl_))); have n1_ := Aside0.mk (below_step (bl_) hb); clear HB; have HO588 := n0_; have HB := n1_; clear n0_ n1_; clear hb ho8)); try go_wp2_with (first | (go_at_call 59; (with_reducible refine (trishawref01_many.calls k _ _ l0 a1 t584 t585 _ ?side1 ?side2 A3.out).mono ?_); (case side1 => repeat (first | exact HR0.out | (with_reducible refine Kd.C_alloc ?_ _) | (with_reducible refine Kd.C_drewN ?_ _) | (with_reducible refine Kd.C_drew ?_))); (case side2 => exact HC0.out); rintro e w' ⟨rfl, ⟨nd, rfl⟩⟩; (try first | exact ⟨rfl, _, World.drewN_drewN _ _ _⟩ | exact ⟨rfl, _, Eq.trans (World.drewN_drewN _ _ _) (congrArg (World.drewN _) (Nat.add_assoc _ _ _))⟩)) | ((with_reducible refine gate_dst (N := 32) rfl ?_); refine Kd.R_make (Kd.int .i64) _ 3 rfl (N := 32) rfl 22 _ _ rfl (l0.length : Int) rfl rfl Tryd.underlying22 (.int .i64 0) 8 info3 rfl (by decide) (by omega) 0 (ok := fun _ => True) (okp := fun _ => True) rfl (fun _ hk => hk) trivial (od_) (Nat.le_trans (Nat.mul_le_mul_right _ (od_ : (l0.length : Int).toNat ≤ 35184372088832)) (by omega)) (Below.refl _ _) (Nat.le_refl _) ?_; intro v587 w7 ho8 hb hg_ hnew_; clear hg_ hnew_; (first | rw [← Ny586.out] at ho8 | (simp only [Int.reduceToNat] at ho8; rw [← Ny586.out] at ho8)); have n0_ := Aside0.mk (Kd.R_lower ho8 (below_size (bl_))); have n1_ := Aside0.mk (below_step (bl_) hb); clear HB; have HO588 := n0_; have HB := n1_; clear n0_ n1_; clear hb ho8)))
  go_loopg [10, 11] k (fun kq v10 v11 w' => ∃ (x9_1 : List Int) (x10_1 : List Int) (x11_1 : Int), v11 = .int .i64 x11_1 ∧ Aside0 (trishawref01_Fair.l0 kq l0 a1 t584 (wrap64 ((wrap64 (2 * (l0.length : Int))) - 2)) x9_1 x10_1 x11_1 = some (r1, r2)) ∧ Aside0 (kq ≤ k) ∧ Aside0 (Kd.R (Kd.int .i64) 3 w' w.heap.size (fun k_ => some k_ ≠ (v10 : Value).ownBlock) v587 x9_1) ∧ Aside0 (Kd.R (Kd.int .i64) 3 w' w.heap.size (fun k_ => some k_ ≠ (v587 : Value).ownBlock) v10 x10_1) ∧ Aside0 (Below w.heap.size w w'))
  case atStart => exact ⟨(y586), (([] : List Int)), (1), (by first | rfl | (simp; done) | (simp [*]; done)), H', ⟨Nat.le_refl _⟩, ⟨by (with_reducible repeat (first | apply Kd.R_alloc | apply Kd.R_drewN | apply Kd.R_drew)); exact Kd.R_mono HO588.out (fun _ hk => (by simp [Value.ownBlock]))⟩, ⟨by first | exact Kd.R_nil _ _ _ _ _ | exact Kd.N_nil _ _ _ _ _ | exact Kd.V_nil _ _ _ _ _ | exact Kd.Q_nil _ _ _ _ _ | exact Kd.S_nil _ _ _ _ _⟩, ⟨bl_⟩⟩
  case round =>
   clear H'
   try clear p2
   try clear c3
   try clear c4
   try clear c4b0
   try clear c4b1
   try clear c5
   try clear c5b0
   try clear c5b1
   try clear c6
   try clear c6b0
   try clear c6b1
   try clear p6
   obtain ⟨x9_1, x10_1, x11_1, rfl, HA, HK1, HO_9, HO_10, HB⟩ := hrel
   cases gk with
   | zero => exact absurd HA.out (by simp [trishawref01_Fair.l0])
   | succ k1 =>
    have H := HA.out
    clear HA
    simp only [trishawref01_Fair.l0] at H
    by_cases c9 : x11_1 ≤ a1
    ·rw [if_pos c9] at H
     have c9b0 : decide (x11_1 ≤ a1) = true := decide_eq_true c9
     clear c9
     have H' := Aside0.mk H
     clear H
     go_wp2
     repeat (go_quiet (fail); try go_wp2)
     go_loopg [12, 13, 14] k1 (fun kq v12 v13 v14 w' => ∃ (x12_2 : Int) (x13_2 : Int) (x14_2 : Int), v12 = .int .i64 x12_2 ∧ v13 = .int .i64 x13_2 ∧ v14 = .int .i64 x14_2 ∧ Aside0 (trishawref01_Fair.l1 kq l0 a1 t584 (wrap64 ((wrap64 (2 * (l0.length : Int))) - 2)) x9_1 x10_1 x11_1 x12_2 x13_2 x14_2 = some (r1, r2)) ∧ Aside0 (kq ≤ k1) ∧ Aside0 (Kd.R (Kd.int .i64) 3 w' w.heap.size (fun k_ => some k_ ≠ (u10 : Value).ownBlock) v587 x9_1) ∧ Aside0 (Kd.R (Kd.int .i64) 3 w' w.heap.size (fun k_ => some k_ ≠ (v587 : Value).ownBlock) u10 x10_1) ∧ Aside0 (Below w.heap.size w w'))
     case atStart => exact ⟨((-1)), (0), (0), (by first | rfl | (simp; done) | (simp [*]; done)), (by first | rfl | (simp; done) | (simp [*]; done)), (by first | rfl | (simp; done) | (simp [*]; done)), H', ⟨Nat.le_refl _⟩, ⟨kr_ HO_9.out⟩, ⟨kr_ HO_10.out⟩, ⟨bl_⟩⟩
     case round =>
      clear H'
      try clear p2
      try clear c3
      try clear c4
      try clear c4b0
      try clear c4b1
      try clear c5
      try clear c5b0
      try clear c5b1
      try clear c6
      try clear c6b0
      try clear c6b1
      try clear p6
      try clear c9
      try clear c9b0
      try clear p2
      try clear p6
      obtain ⟨x12_2, x13_2, x14_2, rfl, rfl, rfl, HA, HK2, HO_9, HO_10, HB⟩ := hrel
      cases gk with
      | zero => exact absurd HA.out (by simp [trishawref01_Fair.l1])
      | succ k2 =>
       have H := HA.out
       clear HA
       simp only [trishawref01_Fair.l1] at H
       by_cases c10 : x14_2 < (l0.length : Int)
       ·rw [if_pos c10] at H
        have c10b0 : decide (x14_2 < (l0.length : Int)) = true := decide_eq_true c10
        clear c10
        have c11 : 0 ≤ x14_2 := fl_ fun c11 => by rw [if_neg c11] at H; exact absurd H (by simp)
        rw [if_pos c11] at H
        have c11b0 : decide (0 ≤ x14_2) = true := decide_eq_true c11
        clear c11
        have c12 : x14_2 < (x9_1.length : Int) := fl_ fun c12 => by rw [if_neg c12] at H; exact absurd H (by simp)
        rw [if_pos c12] at H
        have c12b0 : decide (x14_2 < (x9_1.length : Int)) = true := decide_eq_true c12
        clear c12
        have HC13 := Aside0.mk H
        clear H
        have p594 : 0 ≤ (x14_2 : Int) := od_
        have q594 : x14_2 < (l0.length : Int) := od_
        obtain ⟨ad594, e594, hx594_0⟩ := Kd.at_int HR0.out x14_2 p594 q594
        cases e594
        replace hx594_0 := (HB.out.cell (World.block_lt_of_cell? w _ hx594_0)).trans hx594_0
        replace p594 := eq_true p594
        replace q594 := eq_true q594
        obtain ⟨Ao14, co14, eo14⟩ := Kd.R_slice HO_9.out
        subst eo14
        have p595 : 0 ≤ (x14_2 : Int) := od_
        have q595 : x14_2 < (x9_1.length : Int) := od_
        obtain ⟨ad595, e595, hx595_0⟩ := Kd.at_int (Kd.R_reads' HO_9.out).2.2 x14_2 p595 q595
        cases e595
        replace p595 := eq_true p595
        replace q595 := eq_true q595
        go_upto_region 15 with (fail)
        repeat (go_quiet (fail); go_upto_region 15 with (fail))
        go_cut [66] (fun v66 wc => ∃ (kq : Nat) (x66_12 : Bool), v66 = .bool x66_12 ∧ Aside0 (trishawref01_Fair.j2 kq l0 a1 t584 (wrap64 ((wrap64 (2 * (l0.length : Int))) - 2)) x9_1 x10_1 x11_1 x12_2 x13_2 x14_2 (wrap64 ((wrap64 ((wrap64 (x11_1 * (rd l0 x14_2))) - (wrap64 ((rd x9_1 x14_2) * t584)))) * (wrap64 ((wrap64 (2 * (l0.length : Int))) - 2)))) x66_12 = some (r1, r2)) ∧ Aside0 (kq ≤ k2) ∧ Aside0 (Kd.R (Kd.int .i64) 3 wc w.heap.size (fun k_ => some k_ ≠ (u10 : Value).ownBlock) (.slice (some ad595) x9_1.length co14) x9_1) ∧ Aside0 (Kd.R (Kd.int .i64) 3 wc w.heap.size (fun k_ => some k_ ≠ ((.slice (some ad595) x9_1.length co14) : Value).ownBlock) u10 x10_1) ∧ Aside0 (Below w.heap.size w wc))
        case first =>
         have H := HC13.out
         clear HC13
         by_cases c15 : (l0.length : Int) > 1
         ·rw [if_pos c15] at H
          have c15b0 : decide (1 < (l0.length : Int)) = true := decide_eq_true c15
          have c15b1 : decide (1 < l0.length) = true := decide_eq_true (by omega)
          clear c15
          (first | rw [c15b0] | (simp only [i64_w, i32_w]; rw [c15b0]) | skip)
          have H' := Aside0.mk H
          clear H
          go_wp2
          repeat (go_quiet (fail); try go_wp2)
          go_meet
          case rel => exact ⟨_, (decide ((wrap64 ((wrap64 ((wrap64 (x11_1 * (rd l0 x14_2))) - (wrap64 ((rd x9_1 x14_2) * t584)))) * (wrap64 ((wrap64 (2 * (l0.length : Int))) - 2)))) < t584)), (by first | rfl | (simp; done) | (simp [*]; done)), H', ⟨by have := HK1.out; have := HK2.out; first | omega | exact Nat.le_refl _⟩, ⟨kr_ HO_9.out⟩, ⟨kr_ HO_10.out⟩, ⟨bl_⟩⟩
         ·rw [if_neg c15] at H
          have c15b0 : decide (1 < (l0.length : Int)) = false := decide_eq_false c15
          have c15b1 : decide (1 < l0.length) = false := decide_eq_false (by omega)
          clear c15
          (first | rw [c15b0] | (simp only [i64_w, i32_w]; rw [c15b0]) | skip)
          have H' := Aside0.mk H
          clear H
          go_wp2
          repeat (go_quiet (fail); try go_wp2)
          go_meet
          case rel => exact ⟨_, (false), (by first | rfl | (simp; done) | (simp [*]; done)), H', ⟨by have := HK1.out; have := HK2.out; first | omega | exact Nat.le_refl _⟩, ⟨kr_ HO_9.out⟩, ⟨kr_ HO_10.out⟩, ⟨bl_⟩⟩
        case rest =>
         clear HC13
         try clear c1
         try clear p2
         try clear c3
         try clear c4
         try clear c4b0
         try clear c4b1
         try clear c5
         try clear c5b0
         try clear c5b1
         try clear p5
         try clear q5
         try clear hx5
         try clear c6
         try clear c6b0
         try clear c6b1
         try clear p6
         try clear c9
         try clear c9b0
         try clear c10
         try clear c10b0
         try clear c11
         try clear c11b0
         try clear c12
         try clear c12b0
         try clear c15
         try clear c15b0
         try clear c15b1
         try clear hx594_0
         try clear hx595_0
         try clear p2
         try clear p594
         try clear p595
         try clear p6
         try clear q594
         try clear q595
         obtain ⟨kq, x66_12, rfl, HA, HJ12, HO_9, HO_10, HB⟩ := hcut
         cases kq with
         | zero => exact absurd HA.out (by simp [trishawref01_Fair.j2])
         | succ kj12 =>
          have H := HA.out
          clear HA
          simp only [trishawref01_Fair.j2] at H
          by_cases c16 : x66_12 = true
          ·subst c16
           have H1 : (trishawref01_Fair.l1 kj12 l0 a1 t584 (wrap64 ((wrap64 (2 * (l0.length : Int))) - 2)) x9_1 x10_1 x11_1 x12_2 x13_2 (wrap64 (x14_2 + 1))) = some (r1, r2) := by rw [if_pos rfl] at H; exact H
           clear H
           have H := H1
           clear H1
           have H' := Aside0.mk H
           clear H
           go_wp2
           repeat (go_quiet (fail); try go_wp2)
           go_roundg kj12
           case measure => have := HK1.out; have := HK2.out; have := HJ12.out; omega
           case rel => exact ⟨(x12_2), (x13_2), (wrap64 (x14_2 + 1)), (by first | rfl | (simp; done) | (simp [*]; done)), (by first | rfl | (simp; done) | (simp [*]; done)), (by first | rfl | (simp; done) | (simp [*]; done)), H', ⟨by have := HK1.out; have := HK2.out; have := HJ12.out; omega⟩, ⟨kr_ HO_9.out⟩, ⟨kr_ HO_10.out⟩, ⟨bl_⟩⟩
          ·replace c16 := Bool.eq_false_iff.mpr c16
           subst c16
           have H1 : (if x12_2 < 0 then (trishawref01_Fair.l1 kj12 l0 a1 t584 (wrap64 ((wrap64 (2 * (l0.length : Int))) - 2)) x9_1 x10_1 x11_1 x14_2 (wrap64 ((wrap64 ((wrap64 ((wrap64 ((wrap64 (2 * (l0.length : Int))) - 2)) - 1)) * t584)) - (wrap64 ((wrap64 ((wrap64 (x11_1 * (rd l0 x14_2))) - (wrap64 ((rd x9_1 x14_2) * t584)))) * (wrap64 ((wrap64 (2 * (l0.length : Int))) - 2)))))) (wrap64 (x14_2 + 1))) else (if 0 ≤ x12_2 then (if x12_2 < (l0.length : Int) then (if 0 ≤ x14_2 then (if x14_2 < (l0.length : Int) then (if (wrap64 ((wrap64 ((wrap64 ((wrap64 ((wrap64 ((wrap64 (2 * (l0.length : Int))) - 2)) - 1)) * t584)) - (wrap64 ((wrap64 ((wrap64 (x11_1 * (rd l0 x14_2))) - (wrap64 ((rd x9_1 x14_2) * t584)))) * (wrap64 ((wrap64 (2 * (l0.length : Int))) - 2)))))) * (rd l0 x12_2))) < (wrap64 (x13_2 * (rd l0 x14_2))) then (trishawref01_Fair.l1 kj12 l0 a1 t584 (wrap64 ((wrap64 (2 * (l0.length : Int))) - 2)) x9_1 x10_1 x11_1 x14_2 (wrap64 ((wrap64 ((wrap64 ((wrap64 ((wrap64 (2 * (l0.length : Int))) - 2)) - 1)) * t584)) - (wrap64 ((wrap64 ((wrap64 (x11_1 * (rd l0 x14_2))) - (wrap64 ((rd x9_1 x14_2) * t584)))) * (wrap64 ((wrap64 (2 * (l0.length : Int))) - 2)))))) (wrap64 (x14_2 + 1))) else (trishawref01_Fair.l1 kj12 l0 a1 t584 (wrap64 ((wrap64 (2 * (l0.length : Int))) - 2)) x9_1 x10_1 x11_1 x12_2 x13_2 (wrap64 (x14_2 + 1)))) else (none)) else (none)) else (none)) else (none))) = some (r1, r2) := by rw [if_neg (show ¬ (false = true) by decide)] at H; exact H
           clear H
           have H := H1
           clear H1
           by_cases c17 : x12_2 < 0
           ·rw [if_pos c17] at H
            have c17b0 : decide (x12_2 < 0) = true := decide_eq_true c17
            clear c17
            have H' := Aside0.mk H
            clear H
            go_wp2
            repeat (go_quiet (fail); try go_wp2)
            go_roundg kj12
            case measure => have := HK1.out; have := HK2.out; have := HJ12.out; omega
            case rel => exact ⟨(x14_2), (wrap64 ((wrap64 ((wrap64 ((wrap64 ((wrap64 (2 * (l0.length : Int))) - 2)) - 1)) * t584)) - (wrap64 ((wrap64 ((wrap64 (x11_1 * (rd l0 x14_2))) - (wrap64 ((rd x9_1 x14_2) * t584)))) * (wrap64 ((wrap64 (2 * (l0.length : Int))) - 2)))))), (wrap64 (x14_2 + 1)), (by first | rfl | (simp; done) | (simp [*]; done)), (by first | rfl | (simp; done) | (simp [*]; done)), (by first | rfl | (simp; done) | (simp [*]; done)), H', ⟨by have := HK1.out; have := HK2.out; have := HJ12.out; omega⟩, ⟨kr_ HO_9.out⟩, ⟨kr_ HO_10.out⟩, ⟨bl_⟩⟩
           ·rw [if_neg c17] at H
            have c17b0 : decide (x12_2 < 0) = false := decide_eq_false c17
            clear c17
            have c18 : 0 ≤ x12_2 := fl_ fun c18 => by rw [if_neg c18] at H; exact absurd H (by simp)
            rw [if_pos c18] at H
            have c18b0 : decide (0 ≤ x12_2) = true := decide_eq_true c18
            clear c18
            have c19 : x12_2 < (l0.length : Int) := fl_ fun c19 => by rw [if_neg c19] at H; exact absurd H (by simp)
            rw [if_pos c19] at H
            have c19b0 : decide (x12_2 < (l0.length : Int)) = true := decide_eq_true c19
            clear c19
            have c20 : 0 ≤ x14_2 := fl_ fun c20 => by rw [if_neg c20] at H; exact absurd H (by simp)
            rw [if_pos c20] at H
            have c20b0 : decide (0 ≤ x14_2) = true := decide_eq_true c20
            clear c20
            have c21 : x14_2 < (l0.length : Int) := fl_ fun c21 => by rw [if_neg c21] at H; exact absurd H (by simp)
            rw [if_pos c21] at H
            have c21b0 : decide (x14_2 < (l0.length : Int)) = true := decide_eq_true c21
            clear c21
            by_cases c22 : (wrap64 ((wrap64 ((wrap64 ((wrap64 ((wrap64 ((wrap64 (2 * (l0.length : Int))) - 2)) - 1)) * t584)) - (wrap64 ((wrap64 ((wrap64 (x11_1 * (rd l0 x14_2))) - (wrap64 ((rd x9_1 x14_2) * t584)))) * (wrap64 ((wrap64 (2 * (l0.length : Int))) - 2)))))) * (rd l0 x12_2))) < (wrap64 (x13_2 * (rd l0 x14_2)))
            ·rw [if_pos c22] at H
             have c22b0 : decide ((wrap64 ((wrap64 ((wrap64 ((wrap64 ((wrap64 ((wrap64 (2 * (l0.length : Int))) - 2)) - 1)) * t584)) - (wrap64 ((wrap64 ((wrap64 (x11_1 * (rd l0 x14_2))) - (wrap64 ((rd x9_1 x14_2) * t584)))) * (wrap64 ((wrap64 (2 * (l0.length : Int))) - 2)))))) * (rd l0 x12_2))) < (wrap64 (x13_2 * (rd l0 x14_2)))) = true := decide_eq_true c22
             clear c22
             have H' := Aside0.mk H
             clear H
             have p596 : 0 ≤ (x12_2 : Int) := od_
             have q596 : x12_2 < (l0.length : Int) := od_
             obtain ⟨ad596, e596, hx596_0⟩ := Kd.at_int HR0.out x12_2 p596 q596
             obtain rfl : ad594 = ad596 := (by injection e596)
             replace hx596_0 := (HB.out.cell (World.block_lt_of_cell? w _ hx596_0)).trans hx596_0
             replace p596 := eq_true p596
             replace q596 := eq_true q596
             have p597 : 0 ≤ (x14_2 : Int) := od_
             have q597 : x14_2 < (l0.length : Int) := od_
             obtain ⟨ad597, e597, hx597_0⟩ := Kd.at_int HR0.out x14_2 p597 q597
             obtain rfl : ad594 = ad597 := (by injection e597)
             replace hx597_0 := (HB.out.cell (World.block_lt_of_cell? w _ hx597_0)).trans hx597_0
             replace p597 := eq_true p597
             replace q597 := eq_true q597
             go_wp2
             repeat (go_quiet (fail); try go_wp2)
             go_roundg kj12
             case measure => have := HK1.out; have := HK2.out; have := HJ12.out; omega
             case rel => exact ⟨(x14_2), (wrap64 ((wrap64 ((wrap64 ((wrap64 ((wrap64 (2 * (l0.length : Int))) - 2)) - 1)) * t584)) - (wrap64 ((wrap64 ((wrap64 (x11_1 * (rd l0 x14_2))) - (wrap64 ((rd x9_1 x14_2) * t584)))) * (wrap64 ((wrap64 (2 * (l0.length : Int))) - 2)))))), (wrap64 (x14_2 + 1)), (by first | rfl | (simp; done) | (simp [*]; done)), (by first | rfl | (simp; done) | (simp [*]; done)), (by first | rfl | (simp; done) | (simp [*]; done)), H', ⟨by have := HK1.out; have := HK2.out; have := HJ12.out; omega⟩, ⟨kr_ HO_9.out⟩, ⟨kr_ HO_10.out⟩, ⟨bl_⟩⟩
            ·rw [if_neg c22] at H
             have c22b0 : decide ((wrap64 ((wrap64 ((wrap64 ((wrap64 ((wrap64 ((wrap64 (2 * (l0.length : Int))) - 2)) - 1)) * t584)) - (wrap64 ((wrap64 ((wrap64 (x11_1 * (rd l0 x14_2))) - (wrap64 ((rd x9_1 x14_2) * t584)))) * (wrap64 ((wrap64 (2 * (l0.length : Int))) - 2)))))) * (rd l0 x12_2))) < (wrap64 (x13_2 * (rd l0 x14_2)))) = false := decide_eq_false c22
             clear c22
             have H' := Aside0.mk H
             clear H
             have p596 : 0 ≤ (x12_2 : Int) := od_
             have q596 : x12_2 < (l0.length : Int) := od_
             obtain ⟨ad596, e596, hx596_0⟩ := Kd.at_int HR0.out x12_2 p596 q596
             obtain rfl : ad594 = ad596 := (by injection e596)
             replace hx596_0 := (HB.out.cell (World.block_lt_of_cell? w _ hx596_0)).trans hx596_0
             replace p596 := eq_true p596
             replace q596 := eq_true q596
             have p597 : 0 ≤ (x14_2 : Int) := od_
             have q597 : x14_2 < (l0.length : Int) := od_
             obtain ⟨ad597, e597, hx597_0⟩ := Kd.at_int HR0.out x14_2 p597 q597
             obtain rfl : ad594 = ad597 := (by injection e597)
             replace hx597_0 := (HB.out.cell (World.block_lt_of_cell? w _ hx597_0)).trans hx597_0
             replace p597 := eq_true p597
             replace q597 := eq_true q597
             go_wp2
             repeat (go_quiet (fail); try go_wp2)
             go_roundg kj12
             case measure => have := HK1.out; have := HK2.out; have := HJ12.out; omega
             case rel => exact ⟨(x12_2), (x13_2), (wrap64 (x14_2 + 1)), (by first | rfl | (simp; done) | (simp [*]; done)), (by first | rfl | (simp; done) | (simp [*]; done)), (by first | rfl | (simp; done) | (simp [*]; done)), H', ⟨by have := HK1.out; have := HK2.out; have := HJ12.out; omega⟩, ⟨kr_ HO_9.out⟩, ⟨kr_ HO_10.out⟩, ⟨bl_⟩⟩
       ·rw [if_neg c10] at H
        have c10b0 : decide (x14_2 < (l0.length : Int)) = false := decide_eq_false c10
        clear c10
        have c23 : 0 ≤ x12_2 := fl_ fun c23 => by rw [if_neg c23] at H; exact absurd H (by simp)
        rw [if_pos c23] at H
        have c23b0 : decide (0 ≤ x12_2) = true := decide_eq_true c23
        clear c23
        have c24 : x12_2 < (x9_1.length : Int) := fl_ fun c24 => by rw [if_neg c24] at H; exact absurd H (by simp)
        rw [if_pos c24] at H
        have c24b0 : decide (x12_2 < (x9_1.length : Int)) = true := decide_eq_true c24
        clear c24
        obtain ⟨y590, hy590⟩ : ∃ y_ : List Int, y_ = (x9_1.set (x12_2 : Int).toNat (wrap64 ((rd x9_1 x12_2) + 1))) := ⟨_, rfl⟩
        replace H : (if x10_1.length < 17592186044416 then (trishawref01_Fair.l0 k2 l0 a1 t584 (wrap64 ((wrap64 (2 * (l0.length : Int))) - 2)) y590 (x10_1 ++ [x12_2]) (wrap64 (x11_1 + 1))) else (none)) = some (r1, r2) := by first | (rw [hy590]; with_reducible exact H) | (have H2_ := (Option.bind_some _ _).symm.trans H; rw [hy590]; with_reducible exact H2_) | (have H2_ := (Option.bind_some _ _).symm.trans H; with_reducible exact H2_) | with_reducible exact H | (rw [hy590]; exact H) | exact H
        have Ny590 := Aside0.mk hy590
        clear hy590
        have c26 : x10_1.length < 17592186044416 := fl_ fun c26 => by rw [if_neg c26] at H; exact absurd H (by simp)
        rw [if_pos c26] at H
        have LMc26 := Aside0.mk c26
        clear c26
        obtain ⟨y591, hy591⟩ : ∃ y_ : List Int, y_ = (x10_1 ++ [x12_2]) := ⟨_, rfl⟩
        replace H : (trishawref01_Fair.l0 k2 l0 a1 t584 (wrap64 ((wrap64 (2 * (l0.length : Int))) - 2)) y590 y591 (wrap64 (x11_1 + 1))) = some (r1, r2) := by first | (rw [hy591]; with_reducible exact H) | (have H2_ := (Option.bind_some _ _).symm.trans H; rw [hy591]; with_reducible exact H2_) | (have H2_ := (Option.bind_some _ _).symm.trans H; with_reducible exact H2_) | with_reducible exact H | (rw [hy591]; exact H) | exact H
        have Ny591 := Aside0.mk hy591
        clear hy591
        have H' := Aside0.mk H
        clear H
        obtain ⟨Ao27, co27, eo27⟩ := Kd.R_slice HO_9.out
        subst eo27
        have p589 : 0 ≤ (x12_2 : Int) := od_
        have q589 : x12_2 < (x9_1.length : Int) := od_
        obtain ⟨ad589, e589, hx589_0⟩ := Kd.at_int (Kd.R_reads' HO_9.out).2.2 x12_2 p589 q589
        cases e589
        replace p589 := eq_true p589
        replace q589 := eq_true q589
        have p25 : 0 ≤ (x12_2 : Int) := od_
        have q25 : (x12_2 : Int) < ((x9_1.length : Int) : Int) := od_
        obtain ⟨go25, co25, eo25, gb25, gl25, cl25, HG25⟩ := Kd.R_form HO_9.out (by omega)
        (first | cases eo25 | (injection eo25 with ea_ en_ ec_; (first | subst ea_ | (injection ea_ with ea_; subst ea_)); subst ec_; clear en_))
        have GB25 := Aside0.mk gb25
        have GG25 := Aside0.mk HG25
        clear gb25 gl25 HG25
        (first | simp only [add_plain] at hx589_0 | skip)
        obtain ⟨hx25_0, hf25_0⟩ := Kd.R_celln 0 HO_9.out (x12_2 : Int) p25 q25
        replace p25 := eq_true p25
        replace q25 := eq_true q25
        have HP28 := Kd.R_putg HO_9.out (x12_2 : Int) (wrap64 ((rd x9_1 x12_2) + 1))
        go_wp2_with (first | ((with_reducible refine gate_store (t := 3) (p := 97) rfl ?_); (try (rw [drewN_self wr]; generalize hq_ : World.drewN wr _ = wr; have n0_ := Aside0.mk (Kd.R_at hq_ HO_9.out); have n1_ := Aside0.mk (Kd.R_at hq_ HO_10.out); have n2_ := Aside0.mk (below_at hq_ HB.out); clear hq_ HO_9 HO_10 HB; have HO_9 := n0_; have HO_10 := n1_; have HB := n2_; clear n0_ n1_ n2_; (try (have HP28 := Kd.R_putg HO_9.out (x12_2 : Int) (wrap64 ((rd x9_1 x12_2) + 1)))))); refine store_event (t := 3) (p := 97) (v := ?vo_w29) (w1 := (wr.setCell ⟨go25, (x12_2 : Int).toNat, none⟩ (.int .i64 (wrap64 ((rd x9_1 x12_2) + 1))))) ?hg ?ho ?hn ?hr ?_; (case ho => rfl); (case hg => rfl); (case hn => rfl); (case hr => first | (go_simp; done) | (go_simp; rfl)); intro w29 hw; have hg : wr.grownBy w29 (some go25) := (by rw [hw]; exact HP28.2); have hp_ : Kd.R (Kd.int .i64) 3 w29 w.heap.size (fun k_ => some k_ ≠ (u10 : Value).ownBlock) (.slice (some ⟨go25, 0, none⟩) x9_1.length co27) y590 := (by rw [hw, Ny590.out]; exact HP28.1); clear HP28; have n0_ := Aside0.mk (hp_); have n1_ := Aside0.mk (Kd.R_after (v := (.slice (some ⟨go25, 0, none⟩) x9_1.length co27)) (v1 := (.slice (some ⟨go25, 0, none⟩) x9_1.length co27)) (ok := (fun _ => True)) (by (with_reducible repeat (first | apply Kd.R_alloc | apply Kd.R_drewN | apply Kd.R_drew)); exact Kd.R_mono HO_10.out (fun _ hk => ⟨trivial, hk⟩)) hg (.inl rfl)); have n2_ := Aside0.mk ((by rw [hw]; exact below_set (HB.out) GB25.out : Below w.heap.size w w29)); clear HO_9; clear HO_10; clear HB; have HO_9 := n0_; have HO_10 := n1_; have HB := n2_; clear n0_ n1_ n2_; clear hg hw hp_) | ((with_reducible refine gate_builtin (b := .append) (xs := #[.tmp 98, .tmp 100]) rfl ?_); at_builtin; refine Kd.R_append (Kd.int .i64) (w0 := w) w.heap.size rfl (.tmp 98) (.tmp 100) 22 3 (.int .i64 0) 8 rfl Tryd.underlying22 info3 rfl (by decide) (by omega) u10 x10_1 x12_2 [.int .i64 x12_2] (fun k_ => some k_ ≠ (.slice (some ⟨go25, 0, none⟩) x9_1.length co27 : Value).ownBlock) (fun _ => False) rfl rfl ?aP (fun _ hk => hk.elim) ?aF ?aO ?aB ?aS ?aL ?_; (case aP => exact rfl); (case aB => exact (bl_)); (case aF => exact (fun k_ hk => Kd.fresh' (Kd.R_lt (kr_ HO_9.out)) k_ hk)); (case aO => exact (by (with_reducible repeat (first | apply Kd.R_alloc | apply Kd.R_drewN | apply Kd.R_drew)); exact Kd.R_mono HO_10.out (fun _ hk => hk.2))); (case aS => exact (below_size (bl_))); (case aL => have := LMc26.out; omega); intro v592 w30 ho hb hg hat; rw [← Ny591.out] at ho; have n0_ := Aside0.mk (Kd.R_after (ok := (fun _ => True)) (by (with_reducible repeat (first | apply Kd.R_alloc | apply Kd.R_drewN | apply Kd.R_drew)); exact Kd.R_mono HO_9.out (fun _ hk => ⟨trivial, hk⟩)) hg hat); have n1_ := Aside0.mk (hb); have n2_ := Aside0.mk (ho); clear HO_9; clear HB; clear HO_10; have HO_9 := n0_; have HB := n1_; have HO593 := n2_; clear n0_ n1_ n2_; clear ho hb hg hat))
        repeat (go_quiet (first | ((with_reducible refine gate_store (t := 3) (p := 97) rfl ?_); (try (rw [drewN_self wr]; generalize hq_ : World.drewN wr _ = wr; have n0_ := Aside0.mk (Kd.R_at hq_ HO_9.out); have n1_ := Aside0.mk (Kd.R_at hq_ HO_10.out); have n2_ := Aside0.mk (below_at hq_ HB.out); clear hq_ HO_9 HO_10 HB; have HO_9 := n0_; have HO_10 := n1_; have HB := n2_; clear n0_ n1_ n2_; (try (have HP28 := Kd.R_putg HO_9.out (x12_2 : Int) (wrap64 ((rd x9_1 x12_2) + 1)))))); refine store_event (t := 3) (p := 97) (v := ?vo_w29) (w1 := (wr.setCell ⟨go25, (x12_2 : Int).toNat, none⟩ (.int .i64 (wrap64 ((rd x9_1 x12_2) + 1))))) ?hg ?ho ?hn ?hr ?_; (case ho => rfl); (case hg => rfl); (case hn => rfl); (case hr => first | (go_simp; done) | (go_simp; rfl)); intro w29 hw; have hg : wr.grownBy w29 (some go25) := (by rw [hw]; exact HP28.2); have hp_ : Kd.R (Kd.int .i64) 3 w29 w.heap.size (fun k_ => some k_ ≠ (u10 : Value).ownBlock) (.slice (some ⟨go25, 0, none⟩) x9_1.length co27) y590 := (by rw [hw, Ny590.out]; exact HP28.1); clear HP28; have n0_ := Aside0.mk (hp_); have n1_ := Aside0.mk (Kd.R_after (v := (.slice (some ⟨go25, 0, none⟩) x9_1.length co27)) (v1 := (.slice (some ⟨go25, 0, none⟩) x9_1.length co27)) (ok := (fun _ => True)) (by (with_reducible repeat (first | apply Kd.R_alloc | apply Kd.R_drewN | apply Kd.R_drew)); exact Kd.R_mono HO_10.out (fun _ hk => ⟨trivial, hk⟩)) hg (.inl rfl)); have n2_ := Aside0.mk ((by rw [hw]; exact below_set (HB.out) GB25.out : Below w.heap.size w w29)); clear HO_9; clear HO_10; clear HB; have HO_9 := n0_; have HO_10 := n1_; have HB := n2_; clear n0_ n1_ n2_; clear hg hw hp_) | ((with_reducible refine gate_builtin (b := .append) (xs := #[.tmp 98, .tmp 100]) rfl ?_); at_builtin; refine Kd.R_append (Kd.int .i64) (w0 := w) w.heap.size rfl (.tmp 98) (.tmp 100) 22 3 (.int .i64 0) 8 rfl Tryd.underlying22 info3 rfl (by decide) (by omega) u10 x10_1 x12_2 [.int .i64 x12_2] (fun k_ => some k_ ≠ (.slice (some ⟨go25, 0, none⟩) x9_1.length co27 : Value).ownBlock) (fun _ => False) rfl rfl ?aP (fun _ hk => hk.elim) ?aF ?aO ?aB ?aS ?aL ?_; (case aP => exact rfl); (case aB => exact (bl_)); (case aF => exact (fun k_ hk => Kd.fresh' (Kd.R_lt (kr_ HO_9.out)) k_ hk)); (case aO => exact (by (with_reducible repeat (first | apply Kd.R_alloc | apply Kd.R_drewN | apply Kd.R_drew)); exact Kd.R_mono HO_10.out (fun _ hk => hk.2))); (case aS => exact (below_size (bl_))); (case aL => have := LMc26.out; omega); intro v592 w30 ho hb hg hat; rw [← Ny591.out] at ho; have n0_ := Aside0.mk (Kd.R_after (ok := (fun _ => True)) (by (with_reducible repeat (first | apply Kd.R_alloc | apply Kd.R_drewN | apply Kd.R_drew)); exact Kd.R_mono HO_9.out (fun _ hk => ⟨trivial, hk⟩)) hg hat); have n1_ := Aside0.mk (hb); have n2_ := Aside0.mk (ho); clear HO_9; clear HB; clear HO_10; have HO_9 := n0_; have HB := n1_; have HO593 := n2_; clear n0_ n1_ n2_; clear ho hb hg hat)); try go_wp2_with (first | ((with_reducible refine gate_store (t := 3) (p := 97) rfl ?_); (try (rw [drewN_self wr]; generalize hq_ : World.drewN wr _ = wr; have n0_ := Aside0.mk (Kd.R_at hq_ HO_9.out); have n1_ := Aside0.mk (Kd.R_at hq_ HO_10.out); have n2_ := Aside0.mk (below_at hq_ HB.out); clear hq_ HO_9 HO_10 HB; have HO_9 := n0_; have HO_10 := n1_; have HB := n2_; clear n0_ n1_ n2_; (try (have HP28 := Kd.R_putg HO_9.out (x12_2 : Int) (wrap64 ((rd x9_1 x12_2) + 1)))))); refine store_event (t := 3) (p := 97) (v := ?vo_w29) (w1 := (wr.setCell ⟨go25, (x12_2 : Int).toNat, none⟩ (.int .i64 (wrap64 ((rd x9_1 x12_2) + 1))))) ?hg ?ho ?hn ?hr ?_; (case ho => rfl); (case hg => rfl); (case hn => rfl); (case hr => first | (go_simp; done) | (go_simp; rfl)); intro w29 hw; have hg : wr.grownBy w29 (some go25) := (by rw [hw]; exact HP28.2); have hp_ : Kd.R (Kd.int .i64) 3 w29 w.heap.size (fun k_ => some k_ ≠ (u10 : Value).ownBlock) (.slice (some ⟨go25, 0, none⟩) x9_1.length co27) y590 := (by rw [hw, Ny590.out]; exact HP28.1); clear HP28; have n0_ := Aside0.mk (hp_); have n1_ := Aside0.mk (Kd.R_after (v := (.slice (some ⟨go25, 0, none⟩) x9_1.length co27)) (v1 := (.slice (some ⟨go25, 0, none⟩) x9_1.length co27)) (ok := (fun _ => True)) (by (with_reducible repeat (first | apply Kd.R_alloc | apply Kd.R_drewN | apply Kd.R_drew)); exact Kd.R_mono HO_10.out (fun _ hk => ⟨trivial, hk⟩)) hg (.inl rfl)); have n2_ := Aside0.mk ((by rw [hw]; exact below_set (HB.out) GB25.out : Below w.heap.size w w29)); clear HO_9; clear HO_10; clear HB; have HO_9 := n0_; have HO_10 := n1_; have HB := n2_; clear n0_ n1_ n2_; clear hg hw hp_) | ((with_reducible refine gate_builtin (b := .append) (xs := #[.tmp 98, .tmp 100]) rfl ?_); at_builtin; refine Kd.R_append (Kd.int .i64) (w0 := w) w.heap.size rfl (.tmp 98) (.tmp 100) 22 3 (.int .i64 0) 8 rfl Tryd.underlying22 info3 rfl (by decide) (by omega) u10 x10_1 x12_2 [.int .i64 x12_2] (fun k_ => some k_ ≠ (.slice (some ⟨go25, 0, none⟩) x9_1.length co27 : Value).ownBlock) (fun _ => False) rfl rfl ?aP (fun _ hk => hk.elim) ?aF ?aO ?aB ?aS ?aL ?_; (case aP => exact rfl); (case aB => exact (bl_)); (case aF => exact (fun k_ hk => Kd.fresh' (Kd.R_lt (kr_ HO_9.out)) k_ hk)); (case aO => exact (by (with_reducible repeat (first | apply Kd.R_alloc | apply Kd.R_drewN | apply Kd.R_drew)); exact Kd.R_mono HO_10.out (fun _ hk => hk.2))); (case aS => exact (below_size (bl_))); (case aL => have := LMc26.out; omega); intro v592 w30 ho hb hg hat; rw [← Ny591.out] at ho; have n0_ := Aside0.mk (Kd.R_after (ok := (fun _ => True)) (by (with_reducible repeat (first | apply Kd.R_alloc | apply Kd.R_drewN | apply Kd.R_drew)); exact Kd.R_mono HO_9.out (fun _ hk => ⟨trivial, hk⟩)) hg hat); have n1_ := Aside0.mk (hb); have n2_ := Aside0.mk (ho); clear HO_9; clear HB; clear HO_10; have HO_9 := n0_; have HB := n1_; have HO593 := n2_; clear n0_ n1_ n2_; clear ho hb hg hat)))
        go_roundg k2
        case measure => have := HK1.out; have := HK2.out; omega
        case rel => exact ⟨(y590), (y591), (wrap64 (x11_1 + 1)), (by first | rfl | (simp; done) | (simp [*]; done)), H', ⟨by have := HK1.out; have := HK2.out; omega⟩, ⟨by (with_reducible repeat (first | apply Kd.R_alloc | apply Kd.R_drewN | apply Kd.R_drew)); exact Kd.R_mono HO_9.out (fun _ hk => hk.2)⟩, ⟨kr_ HO593.out⟩, ⟨bl_⟩⟩
    ·rw [if_neg c9] at H
     have c9b0 : decide (x11_1 ≤ a1) = false := decide_eq_false c9
     clear c9
     simp only [Option.some.injEq, Prod.mk.injEq] at H
     obtain ⟨rfl, rfl⟩ := H
     go_wp2
     repeat (go_quiet (fail); try go_wp2)
     go_ret2
     exact ⟨_, by first | rfl | (simp [errW_none, errW_some] <;> rfl) | (simp [*, errW_none, errW_some] <;> rfl), by (with_reducible repeat (first | apply Kd.R_alloc | apply Kd.R_drewN | apply Kd.R_drew)); exact Kd.R_mono HO_10.out (fun _ hk => trivial), bl_⟩
 ·rw [if_neg c4] at H
  have c4b0 : (t585 == 0) = false := beq_eq_false_iff_ne.mpr c4
  have c4b1 : (t585 != 0) = true := bne_iff_ne.mpr c4
  simp only [Option.some.injEq, Prod.mk.injEq] at H
  obtain ⟨rfl, rfl⟩ := H
  go_enter Tryd.func34, Tryd.ntmps34
  go_wp2_with (first | (go_at_call 59; (with_reducible refine (trishawref01_many.calls k _ _ l0 a1 t584 t585 _ ?side1 ?side2 A3.out).mono ?_); (case side1 => repeat (first | exact HR0.out | (with_reducible refine Kd.C_alloc ?_ _) | (with_reducible refine Kd.C_drewN ?_ _) | (with_reducible refine Kd.C_drew ?_))); (case side2 => exact HC0.out); rintro e w' ⟨rfl, ⟨nd, rfl⟩⟩; (try first | exact ⟨rfl, _, World.drewN_drewN _ _ _⟩ | exact ⟨rfl, _, Eq.trans (World.drewN_drewN _ _ _) (congrArg (World.drewN _) (Nat.add_assoc _ _ _))⟩)))
  repeat (go_quiet (first | (go_at_call 59; (with_reducible refine (trishawref01_many.calls k _ _ l0 a1 t584 t585 _ ?side1 ?side2 A3.out).mono ?_); (case side1 => repeat (first | exact HR0.out | (with_reducible refine Kd.C_alloc ?_ _) | (with_reducible refine Kd.C_drewN ?_ _) | (with_reducible refine Kd.C_drew ?_))); (case side2 => exact HC0.out); rintro e w' ⟨rfl, ⟨nd, rfl⟩⟩; (try first | exact ⟨rfl, _, World.drewN_drewN _ _ _⟩ | exact ⟨rfl, _, Eq.trans (World.drewN_drewN _ _ _) (congrArg (World.drewN _) (Nat.add_assoc _ _ _))⟩))); try go_wp2_with (first | (go_at_call 59; (with_reducible refine (trishawref01_many.calls k _ _ l0 a1 t584 t585 _ ?side1 ?side2 A3.out).mono ?_); (case side1 => repeat (first | exact HR0.out | (with_reducible refine Kd.C_alloc ?_ _) | (with_reducible refine Kd.C_drewN ?_ _) | (with_reducible refine Kd.C_drew ?_))); (case side2 => exact HC0.out); rintro e w' ⟨rfl, ⟨nd, rfl⟩⟩; (try first | exact ⟨rfl, _, World.drewN_drewN _ _ _⟩ | exact ⟨rfl, _, Eq.trans (World.drewN_drewN _ _ _) (congrArg (World.drewN _) (Nat.add_assoc _ _ _))⟩))))
  go_ret2
  exact ⟨_, by first | rfl | (simp [errW_none, errW_some] <;> rfl) | (simp [*, errW_none, errW_some] <;> rfl), by first | exact Kd.R_nil _ _ _ _ _ | exact Kd.N_nil _ _ _ _ _ | exact Kd.V_nil _ _ _ _ _ | exact Kd.Q_nil _ _ _ _ _ | exact Kd.S_nil _ _ _ _ _, bl_⟩

end Go.Proofs.YtgobffgogmnmpaaDoor.P
