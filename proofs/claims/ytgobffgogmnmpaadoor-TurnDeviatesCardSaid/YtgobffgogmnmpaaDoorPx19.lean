-- Written by wip/tools/myprint.py of this session's repo, over the kit's printer and hand texts.
import Derived.Test.YtgobffgogmnmpaaDoorPx0
import Derived.Test.YtgobffgogmnmpaaDoorPre
import Derived.Test.YtgobffgogmnmpaaDoorPx18
namespace Go.Proofs.YtgobffgogmnmpaaDoor.P
open Go.RowKit Go.Proofs.YtgobffgogmnmpaaDoorW.PrintWords Go.Proofs.YtgobffgogmnmpaaDoorW.PrintLast Go.Proofs.YtgobffgogmnmpaaDoorW.PrintMore
attribute [local go_sem] max2_int min2_int max_two min_two max_three min_three max_four min_four   -- for this text's walks alone
set_option linter.unusedVariables false
set_option linter.unusedSimpArgs false

/-! ### trishawref01_Quota: function 30 -/
mutual
def trishawref01_Quota.l0 : Nat → List Int → List Int → Int → List Int → Int → Option (Bool × Int)
  | 0, _, _, _, _, _ => none
  | k + 1, x0, x1, x6, x8, x9 => if x9 ≤ (x1.length : Int) then (if 0 ≤ (wrap64 (x9 - 1)) then (if (wrap64 (x9 - 1)) < (x1.length : Int) then (if 0 ≤ (rd x1 (wrap64 (x9 - 1))) then (if (rd x1 (wrap64 (x9 - 1))) < (x8.length : Int) then (trishawref01_Quota.l1 k x0 x1 x6 (x8.set ((rd x1 (wrap64 (x9 - 1))) : Int).toNat (wrap64 ((rd x8 (rd x1 (wrap64 (x9 - 1)))) + 1))) x9 0) else (none)) else (none)) else (none)) else (none)) else (some (true, 0))
def trishawref01_Quota.l1 : Nat → List Int → List Int → Int → List Int → Int → Int → Option (Bool × Int)
  | 0, _, _, _, _, _, _ => none
  | k + 1, x0, x1, x6, x8, x9, x10 => if x10 < (x0.length : Int) then (if 0 ≤ x10 then (if x10 < (x8.length : Int) then (if x6 = 0 then (none) else (if (rd x8 x10) = (wrap64 (Int.tdiv (wrap64 (x9 * (rd x0 x10))) x6)) then (trishawref01_Quota.l1 k x0 x1 x6 x8 x9 (wrap64 (x10 + 1))) else (if (rd x8 x10) = (wrap64 (Int.tdiv (wrap64 ((wrap64 ((wrap64 (x9 * (rd x0 x10))) + x6)) - 1)) x6)) then (trishawref01_Quota.l1 k x0 x1 x6 x8 x9 (wrap64 (x10 + 1))) else (some (false, 0))))) else (none)) else (none)) else (trishawref01_Quota.l0 k x0 x1 x6 x8 (wrap64 (x9 + 1)))
end
def trishawref01_Quota.f (k : Nat) (l0 : List Int) (l1 : List Int) : Option (Bool × Int) := (trishawref01_asked.f k l0 l1).bind fun bt451 => (if bt451.2 = 0 then (if 0 ≤ (l0.length : Int) then (if ((l0.length : Int) : Int).toNat ≤ 35184372088832 then (trishawref01_Quota.l0 k l0 l1 bt451.1 (List.replicate ((l0.length : Int) : Int).toNat 0) 1) else (none)) else (none)) else (some (false, bt451.2)))
theorem trishawref01_Quota.mono_l : ∀ k, (∀ y0 y1 y2 y3 y4, LeO (trishawref01_Quota.l0 k y0 y1 y2 y3 y4) (trishawref01_Quota.l0 (k + 1) y0 y1 y2 y3 y4)) ∧ (∀ y0 y1 y2 y3 y4 y5, LeO (trishawref01_Quota.l1 k y0 y1 y2 y3 y4 y5) (trishawref01_Quota.l1 (k + 1) y0 y1 y2 y3 y4 y5))
  | 0 => ⟨fun _ _ _ _ _ r h => by simp [trishawref01_Quota.l0] at h, fun _ _ _ _ _ _ r h => by simp [trishawref01_Quota.l1] at h⟩
  | k + 1 => by
    obtain ⟨ih0, ih1⟩ := trishawref01_Quota.mono_l k
    refine ⟨?_, ?_⟩
    · intro y0 y1 y2 y3 y4
      unfold trishawref01_Quota.l0
      repeat' first
      | (with_reducible exact ih0 _ _ _ _ _)
      | (with_reducible exact ih1 _ _ _ _ _ _)
      | (with_reducible exact trishawref01_asked.mono _ _ _)
      | (with_reducible exact LeO.refl _)
      | (with_reducible exact LeO.none _)
      | (with_reducible refine LeO.ite ?_ ?_)
      | (with_reducible refine LeO.bind ?_ (fun _ => ?_))
      | exact ih0 _ _ _ _ _
      | exact ih1 _ _ _ _ _ _
      | exact trishawref01_asked.mono _ _ _
      | exact LeO.none _
      | refine LeO.ite ?_ ?_
      | refine LeO.bind ?_ (fun _ => ?_)
    · intro y0 y1 y2 y3 y4 y5
      unfold trishawref01_Quota.l1
      repeat' first
      | (with_reducible exact ih0 _ _ _ _ _)
      | (with_reducible exact ih1 _ _ _ _ _ _)
      | (with_reducible exact trishawref01_asked.mono _ _ _)
      | (with_reducible exact LeO.refl _)
      | (with_reducible exact LeO.none _)
      | (with_reducible refine LeO.ite ?_ ?_)
      | (with_reducible refine LeO.bind ?_ (fun _ => ?_))
      | exact ih0 _ _ _ _ _
      | exact ih1 _ _ _ _ _ _
      | exact trishawref01_asked.mono _ _ _
      | exact LeO.none _
      | refine LeO.ite ?_ ?_
      | refine LeO.bind ?_ (fun _ => ?_)
theorem trishawref01_Quota.mono : ∀ a0 a1 k, LeO (trishawref01_Quota.f k a0 a1) (trishawref01_Quota.f (k + 1) a0 a1) := by
  intro a0 a1 k
  obtain ⟨ih0, ih1⟩ := trishawref01_Quota.mono_l k
  unfold trishawref01_Quota.f
  repeat' first
      | (with_reducible exact ih0 _ _ _ _ _)
      | (with_reducible exact ih1 _ _ _ _ _ _)
      | (with_reducible exact trishawref01_asked.mono _ _ _)
      | (with_reducible exact LeO.refl _)
      | (with_reducible exact LeO.none _)
      | (with_reducible refine LeO.ite ?_ ?_)
      | (with_reducible refine LeO.bind ?_ (fun _ => ?_))
      | exact ih0 _ _ _ _ _
      | exact ih1 _ _ _ _ _ _
      | exact trishawref01_asked.mono _ _ _
      | exact LeO.none _
      | refine LeO.ite ?_ ?_
      | refine LeO.bind ?_ (fun _ => ?_)
set_option maxHeartbeats 8000000 in
set_option maxRecDepth 100000 in
theorem trishawref01_Quota.calls (k : Nat) (A0 : Option Addr) (c0 : Nat) (l0 : List Int) (A1 : Option Addr) (c1 : Nat) (l1 : List Int) (r1 : Bool) (r2 : Int) (w : World) (hr0 : Kd.C (Kd.int .i64) w A0 l0.length l0) (hc0 : l0.length ≤ c0) (hr1 : Kd.C (Kd.int .i64) w A1 l1.length l1) (hc1 : l1.length ≤ c1) (h : trishawref01_Quota.f k l0 l1 = some (r1, r2)) :
    Calls Tryd.prog 30 #[.slice A0 l0.length c0, .slice A1 l1.length c1] w fun e w' => e = .returned (.tuple #[.bool r1, .int .i64 r2]) ∧ Below w.heap.size w w' := by
 have HR0 := Aside0.mk hr0
 have HC0 := Aside0.mk hc0
 clear hr0 hc0
 have HR1 := Aside0.mk hr1
 have HC1 := Aside0.mk hc1
 clear hr1 hc1
 have HB := Aside0.mk (Below.refl w.heap.size w)
 have H : ((trishawref01_asked.f k l0 l1).bind fun bt451 => (if bt451.2 = 0 then (if 0 ≤ (l0.length : Int) then (if ((l0.length : Int) : Int).toNat ≤ 35184372088832 then (trishawref01_Quota.l0 k l0 l1 bt451.1 (List.replicate ((l0.length : Int) : Int).toNat 0) 1) else (none)) else (none)) else (some (false, bt451.2)))) = some (r1, r2) := h
 clear h
 replace H := Option.bind_eq_some_iff.mp H
 obtain ⟨⟨t451, t452⟩, A30, H⟩ := H
 replace H : (if t452 = 0 then (if 0 ≤ (l0.length : Int) then (if ((l0.length : Int) : Int).toNat ≤ 35184372088832 then (trishawref01_Quota.l0 k l0 l1 t451 (List.replicate ((l0.length : Int) : Int).toNat 0) 1) else (none)) else (none)) else (some (false, t452))) = some (r1, r2) := H
 have A3 := Aside0.mk A30
 clear A30
 by_cases c4 : t452 = 0
 ·rw [if_pos c4] at H
  have c4b0 : (t452 == 0) = true := beq_iff_eq.mpr c4
  have c4b1 : (t452 != 0) = false := bne_eq_false_iff_eq.mpr c4
  clear c4
  have c5 : 0 ≤ (l0.length : Int) := fl_ fun c5 => by rw [if_neg c5] at H; exact absurd H (by simp)
  rw [if_pos c5] at H
  have c5b0 := eq_true c5
  have c5b1 : decide (0 ≤ (l0.length : Int)) = true := decide_eq_true c5
  clear c5
  have c6 : ((l0.length : Int) : Int).toNat ≤ 35184372088832 := fl_ fun c6 => by rw [if_neg c6] at H; exact absurd H (by simp)
  rw [if_pos c6] at H
  have c6b0 := eq_true c6
  have c6b1 : decide (((l0.length : Int) : Int).toNat ≤ 35184372088832) = true := decide_eq_true c6
  clear c6
  obtain ⟨y453, hy453⟩ : ∃ y_ : List Int, y_ = (List.replicate ((l0.length : Int) : Int).toNat 0) := ⟨_, rfl⟩
  replace H : (trishawref01_Quota.l0 k l0 l1 t451 y453 1) = some (r1, r2) := by first | (rw [hy453]; with_reducible exact H) | (have H2_ := (Option.bind_some _ _).symm.trans H; rw [hy453]; with_reducible exact H2_) | (have H2_ := (Option.bind_some _ _).symm.trans H; with_reducible exact H2_) | with_reducible exact H | (rw [hy453]; exact H) | exact H
  have Ny453 := Aside0.mk hy453
  clear hy453
  have H' := Aside0.mk H
  clear H
  go_enter Tryd.func30, Tryd.ntmps30
  go_wp2_with (first | (go_at_call 53; (with_reducible refine (trishawref01_asked.calls k _ _ l0 _ _ l1 t451 t452 _ ?side1 ?side2 ?side3 ?side4 A3.out).mono ?_); (case side1 => repeat (first | exact HR0.out | (with_reducible refine Kd.C_alloc ?_ _) | (with_reducible refine Kd.C_drewN ?_ _) | (with_reducible refine Kd.C_drew ?_))); (case side2 => exact HC0.out); (case side3 => repeat (first | exact HR1.out | (with_reducible refine Kd.C_alloc ?_ _) | (with_reducible refine Kd.C_drewN ?_ _) | (with_reducible refine Kd.C_drew ?_))); (case side4 => exact HC1.out); rintro e w' ⟨rfl, ⟨nd, rfl⟩⟩; (try first | exact ⟨rfl, _, World.drewN_drewN _ _ _⟩ | exact ⟨rfl, _, Eq.trans (World.drewN_drewN _ _ _) (congrArg (World.drewN _) (Nat.add_assoc _ _ _))⟩)) | ((with_reducible refine gate_dst (N := 22) rfl ?_); refine Kd.R_make (Kd.int .i64) _ 3 rfl (N := 22) rfl 22 _ _ rfl (l0.length : Int) rfl rfl Tryd.underlying22 (.int .i64 0) 8 info3 rfl (by decide) (by omega) 0 (ok := fun _ => True) (okp := fun _ => True) rfl (fun _ hk => hk) trivial (od_) (Nat.le_trans (Nat.mul_le_mul_right _ (od_ : (l0.length : Int).toNat ≤ 35184372088832)) (by omega)) (Below.refl _ _) (Nat.le_refl _) ?_; intro v454 w7 ho8 hb hg_ hnew_; clear hg_ hnew_; (first | rw [← Ny453.out] at ho8 | (simp only [Int.reduceToNat] at ho8; rw [← Ny453.out] at ho8)); have n0_ := Aside0.mk (Kd.R_lower ho8 (below_size (bl_))); have n1_ := Aside0.mk (below_step (bl_) hb); clear HB; have HO455 := n0_; have HB := n1_; clear n0_ n1_; clear hb ho8))
  repeat (go_quiet (first | (go_at_call 53; (with_reducible refine (trishawref01_asked.calls k _ _ l0 _ _ l1 t451 t452 _ ?side1 ?side2 ?side3 ?side4 A3.out).mono ?_); (case side1 => repeat (first | exact HR0.out | (with_reducible refine Kd.C_alloc ?_ _) | (with_reducible refine Kd.C_drewN ?_ _) | (with_reducible refine Kd.C_drew ?_))); (case side2 => exact HC0.out); (case side3 => repeat (first | exact HR1.out | (with_reducible refine Kd.C_alloc ?_ _) | (with_reducible refine Kd.C_drewN ?_ _) | (with_reducible refine Kd.C_drew ?_))); (case side4 => exact HC1.out); rintro e w' ⟨rfl, ⟨nd, rfl⟩⟩; (try first | exact ⟨rfl, _, World.drewN_drewN _ _ _⟩ | exact ⟨rfl, _, Eq.trans (World.drewN_drewN _ _ _) (congrArg (World.drewN _) (Nat.add_assoc _ _ _))⟩)) | ((with_reducible refine gate_dst (N := 22) rfl ?_); refine Kd.R_make (Kd.int .i64) _ 3 rfl (N := 22) rfl 22 _ _ rfl (l0.length : Int) rfl rfl Tryd.underlying22 (.int .i64 0) 8 info3 rfl (by decide) (by omega) 0 (ok := fun _ => True) (okp := fun _ => True) rfl (fun _ hk => hk) trivial (od_) (Nat.le_trans (Nat.mul_le_mul_right _ (od_ : (l0.length : Int).toNat ≤ 35184372088832)) (by omega)) (Below.refl _ _) (Nat.le_refl _) ?_; intro v454 w7 ho8 hb hg_ hnew_; clear hg_ hnew_; (first | rw [← Ny453.out] at ho8 | (simp only [Int.reduceToNat] at ho8; rw [← Ny453.out] at ho8)); have n0_ := Aside0.mk (Kd.R_lower ho8 (below_size (bl_))); have n1_ := Aside0.mk (below_step (bl_) hb); clear HB; have HO455 := n0_; have HB := n1_; clear n0_ n1_; clear hb ho8)); try go_wp2_with (first | (go_at_call 53; (with_reducible refine (trishawref01_asked.calls k _ _ l0 _ _ l1 t451 t452 _ ?side1 ?side2 ?side3 ?side4 A3.out).mono ?_); (case side1 => repeat (first | exact HR0.out | (with_reducible refine Kd.C_alloc ?_ _) | (with_reducible refine Kd.C_drewN ?_ _) | (with_reducible refine Kd.C_drew ?_))); (case side2 => exact HC0.out); (case side3 => repeat (first | exact HR1.out | (with_reducible refine Kd.C_alloc ?_ _) | (with_reducible refine Kd.C_drewN ?_ _) | (with_reducible refine Kd.C_drew ?_))); (case side4 => exact HC1.out); rintro e w' ⟨rfl, ⟨nd, rfl⟩⟩; (try first | exact ⟨rfl, _, World.drewN_drewN _ _ _⟩ | exact ⟨rfl, _, Eq.trans (World.drewN_drewN _ _ _) (congrArg (World.drewN _) (Nat.add_assoc _ _ _))⟩)) | ((with_reducible refine gate_dst (N := 22) rfl ?_); refine Kd.R_make (Kd.int .i64) _ 3 rfl (N := 22) rfl 22 _ _ rfl (l0.length : Int) rfl rfl Tryd.underlying22 (.int .i64 0) 8 info3 rfl (by decide) (by omega) 0 (ok := fun _ => True) (okp := fun _ => True) rfl (fun _ hk => hk) trivial (od_) (Nat.le_trans (Nat.mul_le_mul_right _ (od_ : (l0.length : Int).toNat ≤ 35184372088832)) (by omega)) (Below.refl _ _) (Nat.le_refl _) ?_; intro v454 w7 ho8 hb hg_ hnew_; clear hg_ hnew_; (first | rw [← Ny453.out] at ho8 | (simp only [Int.reduceToNat] at ho8; rw [← Ny453.out] at ho8)); have n0_ := Aside0.mk (Kd.R_lower ho8 (below_size (bl_))); have n1_ := Aside0.mk (below_step (bl_) hb); clear HB; have HO455 := n0_; have HB := n1_; clear n0_ n1_; clear hb ho8)))
  go_loopg [9] k (fun kq v9 w' => ∃ (x8_1 : List Int) (x9_1 : Int), v9 = .int .i64 x9_1 ∧ Aside0 (trishawref01_Quota.l0 kq l0 l1 t451 x8_1 x9_1 = some (r1, r2)) ∧ Aside0 (kq ≤ k) ∧ Aside0 (Kd.R (Kd.int .i64) 3 w' w.heap.size (fun _ => True) v454 x8_1) ∧ Aside0 (Below w.heap.size w w'))
  case atStart => exact ⟨(y453), (1), (by first | rfl | (simp; done) | (simp [*]; done)), H', ⟨Nat.le_refl _⟩, ⟨kr_ HO455.out⟩, ⟨bl_⟩⟩
  case round =>
   clear H'
   try clear c1
   try clear p2
   try clear c3
   try clear c4
   try clear c4b0
   try clear c4b1
   try clear c5
   try clear c5b0
   try clear c5b1
   try clear c6
   try clear c6b0
   try clear c6b1
   obtain ⟨x8_1, x9_1, rfl, HA, HK1, HO_8, HB⟩ := hrel
   cases gk with
   | zero => exact absurd HA.out (by simp [trishawref01_Quota.l0])
   | succ k1 =>
    have H := HA.out
    clear HA
    simp only [trishawref01_Quota.l0] at H
    by_cases c9 : x9_1 ≤ (l1.length : Int)
    ·rw [if_pos c9] at H
     have c9b0 : decide (x9_1 ≤ (l1.length : Int)) = true := decide_eq_true c9
     clear c9
     obtain ⟨ji10, hji10⟩ : ∃ j_ : Int, (wrap64 (x9_1 - 1)) = j_ := ⟨_, rfl⟩
     replace H : (if 0 ≤ (ji10) then (if (ji10) < (l1.length : Int) then (if 0 ≤ (rd l1 (ji10)) then (if (rd l1 (ji10)) < (x8_1.length : Int) then (trishawref01_Quota.l1 k1 l0 l1 t451 (x8_1.set ((rd l1 (ji10)) : Int).toNat (wrap64 ((rd x8_1 (rd l1 (ji10))) + 1))) x9_1 0) else (none)) else (none)) else (none)) else (none)) = some (r1, r2) := by first | (rw [hji10] at H; exact H) | (simp only [hji10] at H ⊢; exact H)
     have hji10w : (IntKind.i64.wrap (x9_1 - 1)) = ji10 := (i64_w _).trans hji10
     have c11 : 0 ≤ (ji10) := fl_ fun c11 => by rw [if_neg c11] at H; exact absurd H (by simp)
     rw [if_pos c11] at H
     have c11b0 : decide (0 ≤ (ji10)) = true := decide_eq_true c11
     clear c11
     have c12 : (ji10) < (l1.length : Int) := fl_ fun c12 => by rw [if_neg c12] at H; exact absurd H (by simp)
     rw [if_pos c12] at H
     have c12b0 : decide ((ji10) < (l1.length : Int)) = true := decide_eq_true c12
     clear c12
     have c13 : 0 ≤ (rd l1 (ji10)) := fl_ fun c13 => by rw [if_neg c13] at H; exact absurd H (by simp)
     rw [if_pos c13] at H
     have c13b0 : decide (0 ≤ (rd l1 (ji10))) = true := decide_eq_true c13
     clear c13
     have c14 : (rd l1 (ji10)) < (x8_1.length : Int) := fl_ fun c14 => by rw [if_neg c14] at H; exact absurd H (by simp)
     rw [if_pos c14] at H
     have c14b0 : decide ((rd l1 (ji10)) < (x8_1.length : Int)) = true := decide_eq_true c14
     clear c14
     obtain ⟨y458, hy458⟩ : ∃ y_ : List Int, y_ = (x8_1.set ((rd l1 (ji10)) : Int).toNat (wrap64 ((rd x8_1 (rd l1 (ji10))) + 1))) := ⟨_, rfl⟩
     replace H : (trishawref01_Quota.l1 k1 l0 l1 t451 y458 x9_1 0) = some (r1, r2) := by first | (rw [hy458]; with_reducible exact H) | (have H2_ := (Option.bind_some _ _).symm.trans H; rw [hy458]; with_reducible exact H2_) | (have H2_ := (Option.bind_some _ _).symm.trans H; with_reducible exact H2_) | with_reducible exact H | (rw [hy458]; exact H) | exact H
     have Ny458 := Aside0.mk hy458
     clear hy458
     have H' := Aside0.mk H
     clear H
     have p456 : 0 ≤ ((ji10) : Int) := od_
     have q456 : (ji10) < (l1.length : Int) := od_
     obtain ⟨ad456, e456, hx456_0⟩ := Kd.at_int HR1.out (ji10) p456 q456
     cases e456
     replace hx456_0 := (HB.out.cell (World.block_lt_of_cell? w _ hx456_0)).trans hx456_0
     replace p456 := eq_true p456
     replace q456 := eq_true q456
     obtain ⟨Ao16, co16, eo16⟩ := Kd.R_slice HO_8.out
     subst eo16
     have p457 : 0 ≤ ((rd l1 (ji10)) : Int) := od_
     have q457 : (rd l1 (ji10)) < (x8_1.length : Int) := od_
     obtain ⟨ad457, e457, hx457_0⟩ := Kd.at_int (Kd.R_reads' HO_8.out).2.2 (rd l1 (ji10)) p457 q457
     cases e457
     replace p457 := eq_true p457
     replace q457 := eq_true q457
     have p15 : 0 ≤ ((rd l1 (ji10)) : Int) := od_
     have q15 : ((rd l1 (ji10)) : Int) < ((x8_1.length : Int) : Int) := od_
     obtain ⟨go15, co15, eo15, gb15, gl15, cl15, HG15⟩ := Kd.R_form HO_8.out (by omega)
     (first | cases eo15 | (injection eo15 with ea_ en_ ec_; (first | subst ea_ | (injection ea_ with ea_; subst ea_)); subst ec_; clear en_))
     have GB15 := Aside0.mk gb15
     have GG15 := Aside0.mk HG15
     clear gb15 gl15 HG15
     (first | simp only [add_plain] at hx457_0 | skip)
     obtain ⟨hx15_0, hf15_0⟩ := Kd.R_celln 0 HO_8.out ((rd l1 (ji10)) : Int) p15 q15
     replace p15 := eq_true p15
     replace q15 := eq_true q15
     have HP17 := Kd.R_putg HO_8.out ((rd l1 (ji10)) : Int) (wrap64 ((rd x8_1 (rd l1 (ji10))) + 1))
     go_wp2_with (first | ((with_reducible refine gate_store (t := 3) (p := 38) rfl ?_); (try (rw [drewN_self wr]; generalize hq_ : World.drewN wr _ = wr; have n0_ := Aside0.mk (Kd.R_at hq_ HO_8.out); have n1_ := Aside0.mk (below_at hq_ HB.out); clear hq_ HO_8 HB; have HO_8 := n0_; have HB := n1_; clear n0_ n1_; (try (have HP17 := Kd.R_putg HO_8.out ((rd l1 (ji10)) : Int) (wrap64 ((rd x8_1 (rd l1 (ji10))) + 1)))))); refine store_event (t := 3) (p := 38) (v := ?vo_w18) (w1 := (wr.setCell ⟨go15, ((rd l1 (ji10)) : Int).toNat, none⟩ (.int .i64 (wrap64 ((rd x8_1 (rd l1 (ji10))) + 1))))) ?hg ?ho ?hn ?hr ?_; (case ho => rfl); (case hg => rfl); (case hn => rfl); (case hr => first | (go_simp; done) | (go_simp; rfl)); intro w18 hw; have hg : wr.grownBy w18 (some go15) := (by rw [hw]; exact HP17.2); have hp_ : Kd.R (Kd.int .i64) 3 w18 w.heap.size (fun _ => True) (.slice (some ⟨go15, 0, none⟩) x8_1.length co16) y458 := (by rw [hw, Ny458.out]; exact HP17.1); clear HP17; have n0_ := Aside0.mk (hp_); have n1_ := Aside0.mk ((by rw [hw]; exact below_set (HB.out) GB15.out : Below w.heap.size w w18)); clear HO_8; clear HB; have HO_8 := n0_; have HB := n1_; clear n0_ n1_; clear hg hw hp_))
     repeat (go_quiet (first | ((with_reducible refine gate_store (t := 3) (p := 38) rfl ?_); (try (rw [drewN_self wr]; generalize hq_ : World.drewN wr _ = wr; have n0_ := Aside0.mk (Kd.R_at hq_ HO_8.out); have n1_ := Aside0.mk (below_at hq_ HB.out); clear hq_ HO_8 HB; have HO_8 := n0_; have HB := n1_; clear n0_ n1_; (try (have HP17 := Kd.R_putg HO_8.out ((rd l1 (ji10)) : Int) (wrap64 ((rd x8_1 (rd l1 (ji10))) + 1)))))); refine store_event (t := 3) (p := 38) (v := ?vo_w18) (w1 := (wr.setCell ⟨go15, ((rd l1 (ji10)) : Int).toNat, none⟩ (.int .i64 (wrap64 ((rd x8_1 (rd l1 (ji10))) + 1))))) ?hg ?ho ?hn ?hr ?_; (case ho => rfl); (case hg => rfl); (case hn => rfl); (case hr => first | (go_simp; done) | (go_simp; rfl)); intro w18 hw; have hg : wr.grownBy w18 (some go15) := (by rw [hw]; exact HP17.2); have hp_ : Kd.R (Kd.int .i64) 3 w18 w.heap.size (fun _ => True) (.slice (some ⟨go15, 0, none⟩) x8_1.length co16) y458 := (by rw [hw, Ny458.out]; exact HP17.1); clear HP17; have n0_ := Aside0.mk (hp_); have n1_ := Aside0.mk ((by rw [hw]; exact below_set (HB.out) GB15.out : Below w.heap.size w w18)); clear HO_8; clear HB; have HO_8 := n0_; have HB := n1_; clear n0_ n1_; clear hg hw hp_)); try go_wp2_with (first | ((with_reducible refine gate_store (t := 3) (p := 38) rfl ?_); (try (rw [drewN_self wr]; generalize hq_ : World.drewN wr _ = wr; have n0_ := Aside0.mk (Kd.R_at hq_ HO_8.out); have n1_ := Aside0.mk (below_at hq_ HB.out); clear hq_ HO_8 HB; have HO_8 := n0_; have HB := n1_; clear n0_ n1_; (try (have HP17 := Kd.R_putg HO_8.out ((rd l1 (ji10)) : Int) (wrap64 ((rd x8_1 (rd l1 (ji10))) + 1)))))); refine store_event (t := 3) (p := 38) (v := ?vo_w18) (w1 := (wr.setCell ⟨go15, ((rd l1 (ji10)) : Int).toNat, none⟩ (.int .i64 (wrap64 ((rd x8_1 (rd l1 (ji10))) + 1))))) ?hg ?ho ?hn ?hr ?_; (case ho => rfl); (case hg => rfl); (case hn => rfl); (case hr => first | (go_simp; done) | (go_simp; rfl)); intro w18 hw; have hg : wr.grownBy w18 (some go15) := (by rw [hw]; exact HP17.2); have hp_ : Kd.R (Kd.int .i64) 3 w18 w.heap.size (fun _ => True) (.slice (some ⟨go15, 0, none⟩) x8_1.length co16) y458 := (by rw [hw, Ny458.out]; exact HP17.1); clear HP17; have n0_ := Aside0.mk (hp_); have n1_ := Aside0.mk ((by rw [hw]; exact below_set (HB.out) GB15.out : Below w.heap.size w w18)); clear HO_8; clear HB; have HO_8 := n0_; have HB := n1_; clear n0_ n1_; clear hg hw hp_)))
     go_loopg [10] k1 (fun kq v10 w' => ∃ (x10_2 : Int), v10 = .int .i64 x10_2 ∧ Aside0 (trishawref01_Quota.l1 kq l0 l1 t451 y458 x9_1 x10_2 = some (r1, r2)) ∧ Aside0 (kq ≤ k1) ∧ Aside0 (Kd.R (Kd.int .i64) 3 w' w.heap.size (fun _ => True) (.slice (some ⟨go15, 0, none⟩) x8_1.length co16) y458) ∧ Aside0 (Below w.heap.size w w'))
     case atStart => exact ⟨(0), (by first | rfl | (simp; done) | (simp [*]; done)), H', ⟨Nat.le_refl _⟩, ⟨kr_ HO_8.out⟩, ⟨bl_⟩⟩
     case round =>
      clear H'
      try clear c1
      try clear p1
      try clear q1
      try clear hx1
      try clear p2
      try clear c3
      try clear c4
      try clear c4b0
      try clear c4b1
      try clear p4
      try clear q4
      try clear hx4
      try clear c5
      try clear c5b0
      try clear c5b1
      try clear c6
      try clear c6b0
      try clear c6b1
      try clear p6
      try clear c9
      try clear c9b0
      try clear c11
      try clear c11b0
      try clear c12
      try clear c12b0
      try clear c13
      try clear c13b0
      try clear c14
      try clear c14b0
      try clear p15
      try clear q15
      try clear hx15
      try clear hf15
      try clear hx15_0
      try clear hx456_0
      try clear hx457_0
      try clear p15
      try clear p2
      try clear p456
      try clear p457
      try clear q15
      try clear q456
      try clear q457
      obtain ⟨x10_2, rfl, HA, HK2, HO_8, HB⟩ := hrel
      have hl8_2 := (Kd.R_reads' HO_8.out).1
      rw [hl8_2] at HO_8
      (try simp only [hl8_2])
      cases gk with
      | zero => exact absurd HA.out (by simp [trishawref01_Quota.l1])
      | succ k2 =>
       have H := HA.out
       clear HA
       simp only [trishawref01_Quota.l1] at H
       by_cases c19 : x10_2 < (l0.length : Int)
       ·rw [if_pos c19] at H
        have c19b0 : decide (x10_2 < (l0.length : Int)) = true := decide_eq_true c19
        clear c19
        have c20 : 0 ≤ x10_2 := fl_ fun c20 => by rw [if_neg c20] at H; exact absurd H (by simp)
        rw [if_pos c20] at H
        have c20b0 : decide (0 ≤ x10_2) = true := decide_eq_true c20
        clear c20
        have c21 : x10_2 < (y458.length : Int) := fl_ fun c21 => by rw [if_neg c21] at H; exact absurd H (by simp)
        rw [if_pos c21] at H
        have c21b0 : decide (x10_2 < (y458.length : Int)) = true := decide_eq_true c21
        clear c21
        by_cases c22 : t451 = 0
        ·rw [if_pos c22] at H
         exact absurd H (by simp)
        ·rw [if_neg c22] at H
         have c22b0 : (t451 == 0) = false := beq_eq_false_iff_ne.mpr c22
         have c22b1 : (t451 != 0) = true := bne_iff_ne.mpr c22
         by_cases c23 : (rd y458 x10_2) = (wrap64 (Int.tdiv (wrap64 (x9_1 * (rd l0 x10_2))) t451))
         ·rw [if_pos c23] at H
          have c23b0 : ((rd y458 x10_2) == (wrap64 (Int.tdiv (wrap64 (x9_1 * (rd l0 x10_2))) t451))) = true := beq_iff_eq.mpr c23
          have c23b1 : ((rd y458 x10_2) != (wrap64 (Int.tdiv (wrap64 (x9_1 * (rd l0 x10_2))) t451))) = false := bne_eq_false_iff_eq.mpr c23
          clear c23
          have H' := Aside0.mk H
          clear H
          have p459 : 0 ≤ (x10_2 : Int) := od_
          have q459 : x10_2 < (y458.length : Int) := od_
          obtain ⟨ad459, e459, hx459_0⟩ := Kd.at_int (Kd.R_reads' HO_8.out).2.2 x10_2 p459 q459
          obtain rfl : (⟨go15, 0, none⟩ : Addr) = ad459 := (by injection e459)
          (first | simp only [add_plain] at hx459_0 | simp only [add_at] at hx459_0 | simp only [Addr.add, Nat.zero_add] at hx459_0 | skip)
          replace p459 := eq_true p459
          replace q459 := eq_true q459
          have p460 : 0 ≤ (x10_2 : Int) := od_
          have q460 : x10_2 < (l0.length : Int) := od_
          obtain ⟨ad460, e460, hx460_0⟩ := Kd.at_int HR0.out x10_2 p460 q460
          cases e460
          replace hx460_0 := (HB.out.cell (World.block_lt_of_cell? w _ hx460_0)).trans hx460_0
          replace p460 := eq_true p460
          replace q460 := eq_true q460
          go_wp2
          repeat (go_quiet (fail); try go_wp2)
          (try simp only [← hl8_2])
          go_roundg k2
          case measure => have := HK1.out; have := HK2.out; omega
          case rel => exact ⟨(wrap64 (x10_2 + 1)), (by first | rfl | (simp; done) | (simp [*]; done)), H', ⟨by have := HK1.out; have := HK2.out; omega⟩, ⟨by (try simp only [hl8_2]); (with_reducible repeat (first | apply Kd.R_alloc | apply Kd.R_drewN | apply Kd.R_drew)); exact HO_8.out⟩, ⟨bl_⟩⟩
         ·rw [if_neg c23] at H
          have c23b0 : ((rd y458 x10_2) == (wrap64 (Int.tdiv (wrap64 (x9_1 * (rd l0 x10_2))) t451))) = false := beq_eq_false_iff_ne.mpr c23
          have c23b1 : ((rd y458 x10_2) != (wrap64 (Int.tdiv (wrap64 (x9_1 * (rd l0 x10_2))) t451))) = true := bne_iff_ne.mpr c23
          by_cases c24 : (rd y458 x10_2) = (wrap64 (Int.tdiv (wrap64 ((wrap64 ((wrap64 (x9_1 * (rd l0 x10_2))) + t451)) - 1)) t451))
          ·rw [if_pos c24] at H
           have c24b0 : ((rd y458 x10_2) == (wrap64 (Int.tdiv (wrap64 ((wrap64 ((wrap64 (x9_1 * (rd l0 x10_2))) + t451)) - 1)) t451))) = true := beq_iff_eq.mpr c24
           have c24b1 : ((rd y458 x10_2) != (wrap64 (Int.tdiv (wrap64 ((wrap64 ((wrap64 (x9_1 * (rd l0 x10_2))) + t451)) - 1)) t451))) = false := bne_eq_false_iff_eq.mpr c24
           clear c24
           have H' := Aside0.mk H
           clear H
           have p459 : 0 ≤ (x10_2 : Int) := od_
           have q459 : x10_2 < (y458.length : Int) := od_
           obtain ⟨ad459, e459, hx459_0⟩ := Kd.at_int (Kd.R_reads' HO_8.out).2.2 x10_2 p459 q459
           obtain rfl : (⟨go15, 0, none⟩ : Addr) = ad459 := (by injection e459)
           (first | simp only [add_plain] at hx459_0 | simp only [add_at] at hx459_0 | simp only [Addr.add, Nat.zero_add] at hx459_0 | skip)
           replace p459 := eq_true p459
           replace q459 := eq_true q459
           have p460 : 0 ≤ (x10_2 : Int) := od_
           have q460 : x10_2 < (l0.length : Int) := od_
           obtain ⟨ad460, e460, hx460_0⟩ := Kd.at_int HR0.out x10_2 p460 q460
           cases e460
           replace hx460_0 := (HB.out.cell (World.block_lt_of_cell? w _ hx460_0)).trans hx460_0
           replace p460 := eq_true p460
           replace q460 := eq_true q460
           have p461 : 0 ≤ (x10_2 : Int) := od_
           have q461 : x10_2 < (y458.length : Int) := od_
           obtain ⟨ad461, e461, hx461_0⟩ := Kd.at_int (Kd.R_reads' HO_8.out).2.2 x10_2 p461 q461
           obtain rfl : (⟨go15, 0, none⟩ : Addr) = ad461 := (by injection e461)
           (first | simp only [add_plain] at hx461_0 | simp only [add_at] at hx461_0 | simp only [Addr.add, Nat.zero_add] at hx461_0 | skip)
           replace p461 := eq_true p461
           replace q461 := eq_true q461
           have p462 : 0 ≤ (x10_2 : Int) := od_
           have q462 : x10_2 < (l0.length : Int) := od_
           obtain ⟨ad462, e462, hx462_0⟩ := Kd.at_int HR0.out x10_2 p462 q462
           obtain rfl : ad460 = ad462 := (by injection e462)
           replace hx462_0 := (HB.out.cell (World.block_lt_of_cell? w _ hx462_0)).trans hx462_0
           replace p462 := eq_true p462
           replace q462 := eq_true q462
           go_wp2
           repeat (go_quiet (fail); try go_wp2)
           (try simp only [← hl8_2])
           go_roundg k2
           case measure => have := HK1.out; have := HK2.out; omega
           case rel => exact ⟨(wrap64 (x10_2 + 1)), (by first | rfl | (simp; done) | (simp [*]; done)), H', ⟨by have := HK1.out; have := HK2.out; omega⟩, ⟨by (try simp only [hl8_2]); (with_reducible repeat (first | apply Kd.R_alloc | apply Kd.R_drewN | apply Kd.R_drew)); exact HO_8.out⟩, ⟨bl_⟩⟩
          ·rw [if_neg c24] at H
           have c24b0 : ((rd y458 x10_2) == (wrap64 (Int.tdiv (wrap64 ((wrap64 ((wrap64 (x9_1 * (rd l0 x10_2))) + t451)) - 1)) t451))) = false := beq_eq_false_iff_ne.mpr c24
           have c24b1 : ((rd y458 x10_2) != (wrap64 (Int.tdiv (wrap64 ((wrap64 ((wrap64 (x9_1 * (rd l0 x10_2))) + t451)) - 1)) t451))) = true := bne_iff_ne.mpr c24
           simp only [Option.some.injEq, Prod.mk.injEq] at H
           obtain ⟨rfl, rfl⟩ := H
           have p459 : 0 ≤ (x10_2 : Int) := od_
           have q459 : x10_2 < (y458.length : Int) := od_
           obtain ⟨ad459, e459, hx459_0⟩ := Kd.at_int (Kd.R_reads' HO_8.out).2.2 x10_2 p459 q459
           obtain rfl : (⟨go15, 0, none⟩ : Addr) = ad459 := (by injection e459)
           (first | simp only [add_plain] at hx459_0 | simp only [add_at] at hx459_0 | simp only [Addr.add, Nat.zero_add] at hx459_0 | skip)
           replace p459 := eq_true p459
           replace q459 := eq_true q459
           have p460 : 0 ≤ (x10_2 : Int) := od_
           have q460 : x10_2 < (l0.length : Int) := od_
           obtain ⟨ad460, e460, hx460_0⟩ := Kd.at_int HR0.out x10_2 p460 q460
           cases e460
           replace hx460_0 := (HB.out.cell (World.block_lt_of_cell? w _ hx460_0)).trans hx460_0
           replace p460 := eq_true p460
           replace q460 := eq_true q460
           have p461 : 0 ≤ (x10_2 : Int) := od_
           have q461 : x10_2 < (y458.length : Int) := od_
           obtain ⟨ad461, e461, hx461_0⟩ := Kd.at_int (Kd.R_reads' HO_8.out).2.2 x10_2 p461 q461
           obtain rfl : (⟨go15, 0, none⟩ : Addr) = ad461 := (by injection e461)
           (first | simp only [add_plain] at hx461_0 | simp only [add_at] at hx461_0 | simp only [Addr.add, Nat.zero_add] at hx461_0 | skip)
           replace p461 := eq_true p461
           replace q461 := eq_true q461
           have p462 : 0 ≤ (x10_2 : Int) := od_
           have q462 : x10_2 < (l0.length : Int) := od_
           obtain ⟨ad462, e462, hx462_0⟩ := Kd.at_int HR0.out x10_2 p462 q462
           obtain rfl : ad460 = ad462 := (by injection e462)
           replace hx462_0 := (HB.out.cell (World.block_lt_of_cell? w _ hx462_0)).trans hx462_0
           replace p462 := eq_true p462
           replace q462 := eq_true q462
           go_wp2
           repeat (go_quiet (fail); try go_wp2)
           go_ret2
           exact ⟨by first | rfl | (simp [errW_none, errW_some] <;> rfl) | (simp only [← hji10]; first | rfl | (simp [errW_none, errW_some] <;> rfl)) | (simp [*, errW_none, errW_some] <;> rfl), bl_⟩
       ·rw [if_neg c19] at H
        have c19b0 : decide (x10_2 < (l0.length : Int)) = false := decide_eq_false c19
        clear c19
        have H' := Aside0.mk H
        clear H
        go_wp2
        repeat (go_quiet (fail); try go_wp2)
        (try simp only [← hl8_2])
        go_roundg k2
        case measure => have := HK1.out; have := HK2.out; omega
        case rel => exact ⟨(y458), (wrap64 (x9_1 + 1)), (by first | rfl | (simp; done) | (simp [*]; done)), H', ⟨by have := HK1.out; have := HK2.out; omega⟩, ⟨by (try simp only [hl8_2]); (with_reducible repeat (first | apply Kd.R_alloc | apply Kd.R_drewN | apply Kd.R_drew)); exact HO_8.out⟩, ⟨bl_⟩⟩
    ·rw [if_neg c9] at H
     have c9b0 : decide (x9_1 ≤ (l1.length : Int)) = false := decide_eq_false c9
     clear c9
     simp only [Option.some.injEq, Prod.mk.injEq] at H
     obtain ⟨rfl, rfl⟩ := H
     go_wp2
     repeat (go_quiet (fail); try go_wp2)
     go_ret2
     exact ⟨by first | rfl | (simp [errW_none, errW_some] <;> rfl) | (simp [*, errW_none, errW_some] <;> rfl), bl_⟩
 ·rw [if_neg c4] at H
  have c4b0 : (t452 == 0) = false := beq_eq_false_iff_ne.mpr c4
  have c4b1 : (t452 != 0) = true := bne_iff_ne.mpr c4
  simp only [Option.some.injEq, Prod.mk.injEq] at H
  obtain ⟨rfl, rfl⟩ := H
  go_enter Tryd.func30, Tryd.ntmps30
  go_wp2_with (first | (go_at_call 53; (with_reducible refine (trishawref01_asked.calls k _ _ l0 _ _ l1 t451 t452 _ ?side1 ?side2 ?side3 ?side4 A3.out).mono ?_); (case side1 => repeat (first | exact HR0.out | (with_reducible refine Kd.C_alloc ?_ _) | (with_reducible refine Kd.C_drewN ?_ _) | (with_reducible refine Kd.C_drew ?_))); (case side2 => exact HC0.out); (case side3 => repeat (first | exact HR1.out | (with_reducible refine Kd.C_alloc ?_ _) | (with_reducible refine Kd.C_drewN ?_ _) | (with_reducible refine Kd.C_drew ?_))); (case side4 => exact HC1.out); rintro e w' ⟨rfl, ⟨nd, rfl⟩⟩; (try first | exact ⟨rfl, _, World.drewN_drewN _ _ _⟩ | exact ⟨rfl, _, Eq.trans (World.drewN_drewN _ _ _) (congrArg (World.drewN _) (Nat.add_assoc _ _ _))⟩)))
  repeat (go_quiet (first | (go_at_call 53; (with_reducible refine (trishawref01_asked.calls k _ _ l0 _ _ l1 t451 t452 _ ?side1 ?side2 ?side3 ?side4 A3.out).mono ?_); (case side1 => repeat (first | exact HR0.out | (with_reducible refine Kd.C_alloc ?_ _) | (with_reducible refine Kd.C_drewN ?_ _) | (with_reducible refine Kd.C_drew ?_))); (case side2 => exact HC0.out); (case side3 => repeat (first | exact HR1.out | (with_reducible refine Kd.C_alloc ?_ _) | (with_reducible refine Kd.C_drewN ?_ _) | (with_reducible refine Kd.C_drew ?_))); (case side4 => exact HC1.out); rintro e w' ⟨rfl, ⟨nd, rfl⟩⟩; (try first | exact ⟨rfl, _, World.drewN_drewN _ _ _⟩ | exact ⟨rfl, _, Eq.trans (World.drewN_drewN _ _ _) (congrArg (World.drewN _) (Nat.add_assoc _ _ _))⟩))); try go_wp2_with (first | (go_at_call 53; (with_reducible refine (trishawref01_asked.calls k _ _ l0 _ _ l1 t451 t452 _ ?side1 ?side2 ?side3 ?side4 A3.out).mono ?_); (case side1 => repeat (first | exact HR0.out | (with_reducible refine Kd.C_alloc ?_ _) | (with_reducible refine Kd.C_drewN ?_ _) | (with_reducible refine Kd.C_drew ?_))); (case side2 => exact HC0.out); (case side3 => repeat (first | exact HR1.out | (with_reducible refine Kd.C_alloc ?_ _) | (with_reducible refine Kd.C_drewN ?_ _) | (with_reducible refine Kd.C_drew ?_))); (case side4 => exact HC1.out); rintro e w' ⟨rfl, ⟨nd, rfl⟩⟩; (try first | exact ⟨rfl, _, World.drewN_drewN _ _ _⟩ | exact ⟨rfl, _, Eq.trans (World.drewN_drewN _ _ _) (congrArg (World.drewN _) (Nat.add_assoc _ _ _))⟩))))
  go_ret2
  exact ⟨by first | rfl | (simp [errW_none, errW_some] <;> rfl) | (simp [*, errW_none, errW_some] <;> rfl), bl_⟩

end Go.Proofs.YtgobffgogmnmpaaDoor.P
