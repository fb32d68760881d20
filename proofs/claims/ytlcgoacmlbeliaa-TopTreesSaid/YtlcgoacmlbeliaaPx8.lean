-- Written by wip/tools/myprint.py of this session's repo, over the kit's printer and hand texts.
import Derived.Test.YtlcgoacmlbeliaaPx0
import Derived.Test.YtlcgoacmlbeliaaPre
import Derived.Test.YtlcgoacmlbeliaaPx3
import Derived.Test.YtlcgoacmlbeliaaPx7
namespace Go.Proofs.Ytlcgoacmlbeliaa.P
open Go.RowKit Go.Proofs.YtlcgoacmlbeliaaW.PrintWords Go.Proofs.YtlcgoacmlbeliaaW.PrintLast Go.Proofs.YtlcgoacmlbeliaaW.PrintMore
attribute [local go_sem] max2_int min2_int max_two min_two max_three min_three max_four min_four   -- for this text's walks alone
set_option linter.unusedVariables false
set_option linter.unusedSimpArgs false

/-! ### branch_Count: function 12 -/
mutual
def branch_Count.l0 : Nat → Int → List (S34) → List (List Int) → Int → Int → Option (Int × Int)
  | 0, _, _, _, _, _ => none
  | k + 1, x0, x1, x8, x25, x26 => if x26 < x25 then (if 0 ≤ (wrap64 (x0 - 1)) then (if (wrap64 (x0 - 1) : Int).toNat ≤ 35184372088832 then (if 0 ≤ x26 then (if x26 < (x8.length : Int) then (branch_Count.l0 k x0 x1 (x8.set (x26 : Int).toNat (List.replicate (wrap64 (x0 - 1) : Int).toNat 0)) x25 (wrap64 (x26 + 1))) else (none)) else (none)) else (none)) else (none)) else (branch_Count.l1 k x8 x1 (x1.length : Int) 0)
def branch_Count.l1 : Nat → List (List Int) → List (S34) → Int → Int → Option (Int × Int)
  | 0, _, _, _, _ => none
  | k + 1, x8, x39, x40, x41 => if x41 < x40 then (if 0 ≤ x41 then (if x41 < (x39.length : Int) then (if ((rd_T34 x39 x41).f1) > 0 then (if 0 ≤ (wrap64 (((rd_T34 x39 x41).f1) - 1)) then (if (wrap64 (((rd_T34 x39 x41).f1) - 1)) < (x8.length : Int) then (if (wrap64 (((rd_T34 x39 x41).f1) - 1)) < ((rd_L3 x8 (wrap64 (((rd_T34 x39 x41).f1) - 1))).length : Int) then ((some (x8.set ((wrap64 (((rd_T34 x39 x41).f1) - 1)) : Int).toNat ((rd_L3 x8 (wrap64 (((rd_T34 x39 x41).f1) - 1))).set ((wrap64 (((rd_T34 x39 x41).f1) - 1)) : Int).toNat (wrap64 ((rd (rd_L3 x8 (wrap64 (((rd_T34 x39 x41).f1) - 1))) (wrap64 (((rd_T34 x39 x41).f1) - 1))) + 1))) : List (List Int))).bind fun y272 => (if ((rd_T34 x39 x41).f0) > 0 then (if 0 ≤ (wrap64 (((rd_T34 x39 x41).f0) - 1)) then (if (wrap64 (((rd_T34 x39 x41).f0) - 1)) < (x8.length : Int) then (if (wrap64 (((rd_T34 x39 x41).f1) - 1)) < ((rd_L3 y272 (wrap64 (((rd_T34 x39 x41).f0) - 1))).length : Int) then (branch_Count.l1 k (y272.set ((wrap64 (((rd_T34 x39 x41).f0) - 1)) : Int).toNat ((rd_L3 y272 (wrap64 (((rd_T34 x39 x41).f0) - 1))).set ((wrap64 (((rd_T34 x39 x41).f1) - 1)) : Int).toNat (wrap64 ((rd (rd_L3 y272 (wrap64 (((rd_T34 x39 x41).f0) - 1))) (wrap64 (((rd_T34 x39 x41).f1) - 1))) - 1)))) x39 x40 (wrap64 (x41 + 1))) else (none)) else (none)) else (none)) else (branch_Count.l1 k y272 x39 x40 (wrap64 (x41 + 1))))) else (none)) else (none)) else (none)) else (branch_Count.l1 k x8 x39 x40 (wrap64 (x41 + 1)))) else (none)) else (none)) else ((branch_determinant.f k x8).bind fun t265 => (some (t265, 0)))
end
def branch_Count.f (k : Nat) (a0 : Int) (l1 : List (S34)) : Option (Int × Int) := (branch_read.f k a0 l1).bind fun t256 => (if t256 = 0 then (if 0 ≤ (wrap64 (a0 - 1)) then (if (wrap64 (a0 - 1) : Int).toNat ≤ 11728124029610 then ((some (List.replicate (wrap64 (a0 - 1) : Int).toNat [] : List (List Int))).bind fun y258 => (branch_Count.l0 k a0 l1 y258 (y258.length : Int) 0)) else (none)) else (none)) else (some (0, t256)))
theorem branch_Count.mono_l : ∀ k, (∀ y0 y1 y2 y3 y4, LeO (branch_Count.l0 k y0 y1 y2 y3 y4) (branch_Count.l0 (k + 1) y0 y1 y2 y3 y4)) ∧ (∀ y0 y1 y2 y3, LeO (branch_Count.l1 k y0 y1 y2 y3) (branch_Count.l1 (k + 1) y0 y1 y2 y3))
  | 0 => ⟨fun _ _ _ _ _ r h => by simp [branch_Count.l0] at h, fun _ _ _ _ r h => by simp [branch_Count.l1] at h⟩
  | k + 1 => by
    obtain ⟨ih0, ih1⟩ := branch_Count.mono_l k
    refine ⟨?_, ?_⟩
    · intro y0 y1 y2 y3 y4
      unfold branch_Count.l0
      with_reducible repeat' first | exact ih0 _ _ _ _ _ | exact ih1 _ _ _ _ | exact branch_determinant.mono _ _ | exact branch_read.mono _ _ _ | exact LeO.refl _ | exact LeO.none _ | refine LeO.ite ?_ ?_ | refine LeO.bind ?_ (fun _ => ?_)
    · intro y0 y1 y2 y3
      unfold branch_Count.l1
      with_reducible repeat' first | exact ih0 _ _ _ _ _ | exact ih1 _ _ _ _ | exact branch_determinant.mono _ _ | exact branch_read.mono _ _ _ | exact LeO.refl _ | exact LeO.none _ | refine LeO.ite ?_ ?_ | refine LeO.bind ?_ (fun _ => ?_)
theorem branch_Count.mono : ∀ a0 a1 k, LeO (branch_Count.f k a0 a1) (branch_Count.f (k + 1) a0 a1) := by
  intro a0 a1 k
  obtain ⟨ih0, ih1⟩ := branch_Count.mono_l k
  unfold branch_Count.f
  with_reducible repeat' first | exact ih0 _ _ _ _ _ | exact ih1 _ _ _ _ | exact branch_determinant.mono _ _ | exact branch_read.mono _ _ _ | exact LeO.refl _ | exact LeO.none _ | refine LeO.ite ?_ ?_ | refine LeO.bind ?_ (fun _ => ?_)
def branch_Count.T14 : Bool × List (List Nat × List Nat) := (true, [([], []), ([], []), ([1], [1]), ([2], [2]), ([0, 3], [0, 3]), ([4], [4]), ([], []), ([6], [6]), ([7], [7]), ([5, 8], [5, 8]), ([9], [9]), ([10], [10]), ([5, 8, 0, 1, 2, 3, 4, 5, 6, 7, 8, 9, 10, 11], [5, 8]), ([12, 11, 0, 1, 2, 3, 4, 5, 6, 7, 8, 9, 10, 11], [11, 12])])
def branch_Count.B14 : List Nat := [0, 0, 2, 6, 15, 31, 0, 64, 192, 511, 1023, 2047, 4095, 8191]
theorem branch_Count.tab14 : rtab .any (opsOf Try.f12 14) = branch_Count.T14 := by kernel_rfl
theorem branch_Count.bits14 : waitsOk branch_Count.T14.2 branch_Count.B14 = true := by kernel_rfl
def branch_Count.T16 : Bool × List (List Nat × List Nat) := (true, [([], []), ([], []), ([1], [1]), ([2], [2]), ([0, 3], [0, 3]), ([4], [4]), ([], []), ([6], [6]), ([7], [7]), ([5, 8], [5, 8]), ([9], [9]), ([10], [10]), ([5, 8, 0, 1, 2, 3, 4, 5, 6, 7, 8, 9, 10, 11], [5, 8]), ([12, 11, 0, 1, 2, 3, 4, 5, 6, 7, 8, 9, 10, 11], [11, 12])])
def branch_Count.B16 : List Nat := [0, 0, 2, 6, 15, 31, 0, 64, 192, 511, 1023, 2047, 4095, 8191]
theorem branch_Count.tab16 : rtab .any (opsOf Try.f12 16) = branch_Count.T16 := by kernel_rfl
theorem branch_Count.bits16 : waitsOk branch_Count.T16.2 branch_Count.B16 = true := by kernel_rfl
set_option maxHeartbeats 8000000 in
set_option maxRecDepth 100000 in
theorem branch_Count.calls (k : Nat) (a0 : Int) (A1 : Option Addr) (c1 : Nat) (l1 : List (S34)) (r1 : Int) (r2 : Int) (w : World) (hr1 : Kd.C k34 w A1 l1.length l1) (hc1 : l1.length ≤ c1) (h : branch_Count.f k a0 l1 = some (r1, r2)) :
    Calls Try.prog 12 #[.int .i64 a0, .slice A1 l1.length c1] w fun e w' => e = .returned (.tuple #[.int .i64 r1, .int .i64 r2]) ∧ Below w.heap.size w w' := by
 have hu37 := Try.underlying37
 have hu34 := Try.underlying34
 have HR1 := Aside0.mk hr1
 have HC1 := Aside0.mk hc1
 clear hr1 hc1
 have HB := Aside0.mk (Below.refl w.heap.size w)
 have H : ((branch_read.f k a0 l1).bind fun t256 => (if t256 = 0 then (if 0 ≤ (wrap64 (a0 - 1)) then (if (wrap64 (a0 - 1) : Int).toNat ≤ 11728124029610 then ((some (List.replicate (wrap64 (a0 - 1) : Int).toNat [] : List (List Int))).bind fun y258 => (branch_Count.l0 k a0 l1 y258 (y258.length : Int) 0)) else (none)) else (none)) else (some (0, t256)))) = some (r1, r2) := h
 clear h
 obtain ⟨t256, A3, H⟩ := bi_ H
 replace H : (if t256 = 0 then (if 0 ≤ (wrap64 (a0 - 1)) then (if (wrap64 (a0 - 1) : Int).toNat ≤ 11728124029610 then ((some (List.replicate (wrap64 (a0 - 1) : Int).toNat [] : List (List Int))).bind fun y258 => (branch_Count.l0 k a0 l1 y258 (y258.length : Int) 0)) else (none)) else (none)) else (some (0, t256))) = some (r1, r2) := H
 by_cases c4 : t256 = 0
 ·rw [if_pos c4] at H
  have c4b0 : (t256 == 0) = true := beq_iff_eq.mpr c4
  have c4b1 : (t256 != 0) = false := bne_eq_false_iff_eq.mpr c4
  clear c4
  obtain ⟨ji5, hji5⟩ : ∃ j_ : Int, (wrap64 (a0 - 1)) = j_ := ⟨_, rfl⟩
  replace H : (if 0 ≤ (ji5) then (if (ji5 : Int).toNat ≤ 11728124029610 then ((some (List.replicate (ji5 : Int).toNat [] : List (List Int))).bind fun y258 => (branch_Count.l0 k a0 l1 y258 (y258.length : Int) 0)) else (none)) else (none)) = some (r1, r2) := by first | (rw [hji5] at H; exact H) | (simp only [hji5] at H ⊢; exact H)
  (try rw [hji5] at A3)
  have hji5w : (IntKind.i64.wrap (a0 - 1)) = ji5 := (i64_w _).trans hji5
  have c6 : 0 ≤ (ji5) := fl_ fun c6 => by rw [if_neg c6] at H; exact absurd H (by simp)
  rw [if_pos c6] at H
  have c6b0 := eq_true c6
  have c6b1 : decide (0 ≤ (ji5)) = true := decide_eq_true c6
  clear c6
  have c7 : (ji5 : Int).toNat ≤ 11728124029610 := fl_ fun c7 => by rw [if_neg c7] at H; exact absurd H (by simp)
  rw [if_pos c7] at H
  have c7b0 := eq_true c7
  have c7b1 : decide ((ji5 : Int).toNat ≤ 11728124029610) = true := decide_eq_true c7
  clear c7
  obtain ⟨y258, hy258⟩ : ∃ y_ : List (List Int), y_ = (List.replicate (ji5 : Int).toNat []) := ⟨_, rfl⟩
  replace H : (branch_Count.l0 k a0 l1 y258 (y258.length : Int) 0) = some (r1, r2) := by first | (rw [hy258]; with_reducible exact H) | (have H2_ := (Option.bind_some _ _).symm.trans H; rw [hy258]; with_reducible exact H2_) | (have H2_ := (Option.bind_some _ _).symm.trans H; with_reducible exact H2_) | with_reducible exact H | (rw [hy258]; exact H) | exact H
  have Ny258 := Aside0.mk hy258
  clear hy258
  have H' := Aside0.mk H
  clear H
  go_enter Try.func12, Try.ntmps12
  go_wp2_with (first | ((with_reducible refine gate_callee (f := 13) rfl ?_); refine goesL_ (some 15) rfl rfl Try.func13 (by kernel_rfl) rfl #[.int .i64 a0, .slice A1 l1.length c1] rfl (as_) ?_; (with_reducible refine (branch_read.calls k a0 _ _ l1 t256 _ ?side1 ?side2 A3.out).mono ?_); (case side1 => repeat (first | exact HR1.out | (with_reducible refine Kd.C_alloc ?_ _) | (with_reducible refine Kd.C_drewN ?_ _) | (with_reducible refine Kd.C_drew ?_))); (case side2 => exact HC1.out); rintro e w9 ⟨vt_, rfl, ht_, hb⟩; obtain ⟨gb257, mt_, rfl, hg_, hbox_⟩ := ht_ (beq_iff_eq.mp c4b0); refine ⟨_, rfl, ?_⟩; have BK257 := Aside0.mk hbox_; have GW257 := Aside0.mk (Nat.le_trans (below_size (bl_)) hg_); have GE257 := GW257; replace HB := hb_ hb; clear hb ht_ hg_ hbox_) | ((with_reducible refine gate_dst (N := 23) rfl ?_); refine Kd.S_make (Kd.slice 3 (Kd.int .i64)) _ 24 rfl (N := 23) rfl 57 _ _ rfl ji5 rfl rfl Try.underlying57 (.slice none 0 0) 24 info24 rfl (by decide) (by omega) [] (ok := fun _ => True) (okp := fun _ => True) ⟨_, rfl, Kd.R_nil _ _ _ _ _⟩ (fun _ hk => hk) trivial (od_) (Nat.le_trans (Nat.mul_le_mul_right _ (od_ : ji5.toNat ≤ 11728124029610)) (by omega)) (Below.refl _ _) (Nat.le_refl _) ?_; intro v259 w10 ho11 hb hg_ hnew_; clear hg_ hnew_; (first | rw [← Ny258.out] at ho11 | (simp only [Int.reduceToNat] at ho11; rw [← Ny258.out] at ho11)); have HO260 := Aside0.mk (Kd.S_lower ho11 (below_size (bl_))); replace BK257 := bb_ BK257 hb; replace HB := hb_ hb; clear hb ho11; obtain ⟨Ao12, co12, eo12⟩ := Kd.S_slice HO260.out; subst eo12))
  go_loopg [26] k (fun kq v26 w' => ∃ (x8_1 : List (List Int)) (x26_1 : Int), v26 = .int .i64 x26_1 ∧ Aside0 (branch_Count.l0 kq a0 l1 x8_1 (y258.length : Int) x26_1 = some (r1, r2)) ∧ Aside0 (kq ≤ k) ∧ Aside0 (Kd.S (Kd.slice 3 (Kd.int .i64)) 24 w' w.heap.size (fun _ => True) (.slice Ao12 y258.length co12) x8_1) ∧ Aside0 (w'.heap[gb257]? = some (.cells #[.int .i64 a0, .slice A1 l1.length c1, .map mt_] 60 (0, 0))) ∧ Aside0 (Below w.heap.size w w'))
  case atStart => exact ⟨(y258), (0), rs_, H', ⟨Nat.le_refl _⟩, ⟨ks_ HO260.out⟩, ⟨bk_ BK257.out⟩, ⟨bl_⟩⟩
  case round =>
   clear H'
   try clear c1
   try clear p2
   try clear c4
   try clear c4b0
   try clear c4b1
   try clear c6
   try clear c6b0
   try clear c6b1
   try clear p6
   try clear c7
   try clear c7b0
   try clear c7b1
   try clear c12
   obtain ⟨x8_1, x26_1, rfl, HA, HK1, HO_8, BK257, HB⟩ := hrel
   have hl8_1 := (Kd.S_reads' HO_8.out).1
   rw [hl8_1] at HO_8
   (try simp only [hl8_1])
   (try simp only [hl8_1] at BK257)
   cases gk with
   | zero => exact absurd HA.out (by simp [branch_Count.l0])
   | succ k1 =>
    have H := HA.out
    clear HA
    simp only [branch_Count.l0] at H
    by_cases c13 : x26_1 < (y258.length : Int)
    ·rw [if_pos c13] at H
     have c13b0 : decide (x26_1 < (y258.length : Int)) = true := decide_eq_true c13
     clear c13
     (try clear hji5w hji5)
     obtain ⟨ji14, hji14⟩ : ∃ j_ : Int, (wrap64 (a0 - 1)) = j_ := ⟨_, rfl⟩
     replace H : (if 0 ≤ (ji14) then (if (ji14 : Int).toNat ≤ 35184372088832 then (if 0 ≤ x26_1 then (if x26_1 < (x8_1.length : Int) then (branch_Count.l0 k1 a0 l1 (x8_1.set (x26_1 : Int).toNat (List.replicate (ji14 : Int).toNat 0)) (y258.length : Int) (wrap64 (x26_1 + 1))) else (none)) else (none)) else (none)) else (none)) = some (r1, r2) := by first | (rw [hji14] at H; exact H) | (simp only [hji14] at H ⊢; exact H)
     have hji14w : (IntKind.i64.wrap (a0 - 1)) = ji14 := (i64_w _).trans hji14
     have c15 : 0 ≤ (ji14) := fl_ fun c15 => by rw [if_neg c15] at H; exact absurd H (by simp)
     rw [if_pos c15] at H
     have c15b0 := eq_true c15
     have c15b1 : decide (0 ≤ (ji14)) = true := decide_eq_true c15
     clear c15
     have c16 : (ji14 : Int).toNat ≤ 35184372088832 := fl_ fun c16 => by rw [if_neg c16] at H; exact absurd H (by simp)
     rw [if_pos c16] at H
     have c16b0 := eq_true c16
     have c16b1 : decide ((ji14 : Int).toNat ≤ 35184372088832) = true := decide_eq_true c16
     clear c16
     obtain ⟨y261, hy261⟩ : ∃ y_ : List Int, y_ = (List.replicate (ji14 : Int).toNat 0) := ⟨_, rfl⟩
     replace H : (if 0 ≤ x26_1 then (if x26_1 < (x8_1.length : Int) then (branch_Count.l0 k1 a0 l1 (x8_1.set (x26_1 : Int).toNat y261) (y258.length : Int) (wrap64 (x26_1 + 1))) else (none)) else (none)) = some (r1, r2) := by first | (rw [hy261]; with_reducible exact H) | (have H2_ := (Option.bind_some _ _).symm.trans H; rw [hy261]; with_reducible exact H2_) | (have H2_ := (Option.bind_some _ _).symm.trans H; with_reducible exact H2_) | with_reducible exact H | (rw [hy261]; exact H) | exact H
     have Ny261 := Aside0.mk hy261
     clear hy261
     obtain ⟨c17b0, H⟩ := fp_ H
     obtain ⟨c18b0, H⟩ := fp_ H
     obtain ⟨y264, hy264⟩ : ∃ y_ : List (List Int), y_ = (x8_1.set (x26_1 : Int).toNat y261) := ⟨_, rfl⟩
     replace H : (branch_Count.l0 k1 a0 l1 y264 (y258.length : Int) (wrap64 (x26_1 + 1))) = some (r1, r2) := by first | (rw [hy264]; with_reducible exact H) | (have H2_ := (Option.bind_some _ _).symm.trans H; rw [hy264]; with_reducible exact H2_) | (have H2_ := (Option.bind_some _ _).symm.trans H; with_reducible exact H2_) | with_reducible exact H | (rw [hy264]; exact H) | exact H
     have Ny264 := Aside0.mk hy264
     clear hy264
     have H' := Aside0.mk H
     clear H
     go_wp2_with (first | ((with_reducible refine gate_dst (N := 33) rfl ?_); refine Kd.R_make (Kd.int .i64) _ 3 rfl (N := 33) rfl 24 _ _ rfl ji14 rfl rfl Try.underlying24 (.int .i64 0) 8 info3 rfl (by decide) (by omega) 0 (ok := fun _ => True) (okp := fun _ => True) rfl (fun _ hk => hk) trivial (od_) (Nat.le_trans (Nat.mul_le_mul_right _ (od_ : ji14.toNat ≤ 35184372088832)) (by omega)) (Below.refl _ _) (Nat.le_refl _) ?_; intro v262 w20 ho21 hb hg_ hnew_; clear hg_ hnew_; (first | rw [← Ny261.out] at ho21 | (simp only [Int.reduceToNat] at ho21; rw [← Ny261.out] at ho21)); replace HO_8 := Aside0.mk (Kd.S_elder' (ks_ HO_8.out) (Kd.R_base ho21) hb); have HO263 := rl_ ho21; replace BK257 := bb_ BK257 hb; replace HB := hb_ hb; clear hb ho21; have p19 : 0 ≤ (x26_1 : Int) := od_; have q19 : (x26_1 : Int) < ((x8_1.length : Int) : Int) := od_; obtain ⟨go19, co19, eo19, gb19, gl19, cl19, HG19⟩ := Kd.S_form HO_8.out (by omega); (first | cases eo19 | (injection eo19 with ea_ en_ ec_; (first | subst ea_ | (injection ea_ with ea_; subst ea_)); subst ec_; clear en_)); have GB19 := Aside0.mk gb19; have GG19 := Aside0.mk HG19; clear gb19 gl19 HG19; obtain ⟨_, ce19, hcl19, hM19, hcc19, hfr19, _, _⟩ := Kd.S_elem HO_8.out [] (x26_1 : Int) p19 q19; obtain ⟨ve19_0, rfl, ge19_0⟩ := hM19; have hx19_0 := hcc19 0 _ rfl; have hf19_0 := hfr19 0; (try simp only [show ((Kd.slice 3 (Kd.int .i64))).sz = 1 from rfl, Nat.mul_one, Nat.add_zero] at hx19_0); (try simp only [show ((Kd.slice 3 (Kd.int .i64))).sz = 1 from rfl, Nat.mul_one, Nat.add_zero] at hf19_0); clear hcl19 hcc19 hfr19; (try clear hM19); replace p19 := eq_true p19; replace q19 := eq_true q19; have n_ := Aside0.mk (Kd.S_mono (ok' := (fun k_ => some k_ ≠ (v262 : Value).ownBlock)) HO_8.out (fun k_ hk => hk.2)); clear HO_8; have HO_8 := n_; clear n_; have HX22 := Aside0.mk (show Kd.S (Kd.slice 3 (Kd.int .i64)) 24 w20 w.heap.size (fun k_ => ((fun _ => True)) k_ ∧ ¬ ((fun k_ => some k_ = (v262 : Value).ownBlock)) k_) (.slice (some ⟨go19, 0, none⟩) x8_1.length co12) x8_1 from (by refine ks_ ?_; exact Kd.S_mono HO_8.out (fun k_ hk => ⟨trivial, fun e_ => hk e_⟩))); obtain ⟨oki22, ce22, hcl22, hM22, hcc22, hfr22, hoki22, hH22⟩ := Kd.S_elem HX22.out [] (x26_1 : Int) (od_) (by have h_ : (x26_1 : Int) < ((x8_1.length : Int) : Int) := od_; first | exact h_ | (have e_ := (Kd.S_reads' HO_8.out).1; omega) | simpa using h_); obtain ⟨ve22_0, rfl, ge22_0⟩ := hM22; have HP22 := Kd.S_seg hH22 (od_) (by have h_ : (x26_1 : Int) < ((x8_1.length : Int) : Int) := od_; first | exact h_ | (have e_ := (Kd.S_reads' HO_8.out).1; omega) | simpa using h_) (seg := [v262]) (j := 0) (show 1 ≤ 1 from by decide) (x' := y261) (Kd.M_row (Kd.R_mono (Kd.R_tight rfl (Kd.R_mono (ok' := fun k_ => ((fun _ => True)) k_ ∧ k_ ≠ go19) (Kd.R_apart' (HO263.out) (Kd.S_typed HO_8.out) (by decide)) (fun k_ hk => ⟨trivial, fun e_ => (hk.2) (by rw [e_]; rfl)⟩))) (fun _ h_ => Or.inr (h_)))) (fun _ hk => hk) (fun k_ hk_ => ((Kd.R_mono (ok' := fun k_ => ((fun _ => True)) k_ ∧ k_ ≠ go19) (Kd.R_apart' (HO263.out) (Kd.S_typed HO_8.out) (by decide)) (fun k_ hk => ⟨trivial, fun e_ => (hk.2) (by rw [e_]; rfl)⟩))).1 k_ hk_.symm); have hx22_0 := hcc22 0 _ rfl; (try simp only [show ((Kd.slice 3 (Kd.int .i64))).sz = 1 from rfl, Nat.mul_one, Nat.add_zero] at hx22_0); have hf22_0 := hfr22 0; (try simp only [show ((Kd.slice 3 (Kd.int .i64))).sz = 1 from rfl, Nat.mul_one, Nat.add_zero] at hf22_0); clear hcl22 hcc22 hfr22 hoki22 hH22; (try clear hM22); (try simp only [show ((Kd.slice 3 (Kd.int .i64))).sz = 1 from rfl, Nat.mul_one, Nat.add_zero] at HP22)) | ((with_reducible refine gate_store (t := 24) (p := 34) rfl ?_); refine store_event (t := 24) (p := 34) (v := ?vo_w23) (w1 := (w20.setCell ⟨go19, (x26_1 : Int).toNat, none⟩ (v262))) ?hg ?ho ?hn ?hr ?_; (case ho => rfl); (case hg => rfl); (case hn => rfl); (case hr => obtain ⟨Aq_, cq_, eq_⟩ := Kd.R_slice HO263.out; rw [eq_]; first | (go_simp; done) | (go_simp; rfl)); intro w23 hw; have hg : w20.grownBy w23 (some go19) := (by rw [hw]; exact HP22.2); have hp_ : Kd.S (Kd.slice 3 (Kd.int .i64)) 24 w23 w.heap.size (fun _ => True) (.slice (some ⟨go19, 0, none⟩) x8_1.length co12) y264 := (by rw [hw, Ny264.out]; exact HP22.1); clear HP22; replace BK257 := Aside0.mk (blk_grown (g := gb257) (bk_ BK257.out) hg (Kd.S_ne HO_8.out BK257.out (by decide))); replace HO_8 := Aside0.mk (hp_); replace HB := Aside0.mk ((by rw [hw]; exact below_set (HB.out) GB19.out : Below w.heap.size w w23)); clear HO263; clear hg hw hp_))
     (try simp only [← hl8_1])
     go_roundg k1
     case measure => have := HK1.out; omega
     case rel => exact ⟨(y264), (wrap64 (x26_1 + 1)), rs_, H', ⟨by have := HK1.out; omega⟩, ⟨by (try simp only [hl8_1]); refine ks_ ?_; exact HO_8.out⟩, ⟨by (try simp only [hl8_1]); refine bk_ ?_; exact BK257.out⟩, ⟨bl_⟩⟩
    ·rw [if_neg c13] at H
     have c13b0 : decide (x26_1 < (y258.length : Int)) = false := decide_eq_false c13
     rw [hl8_1] at c13b0
     clear c13
     have H' := Aside0.mk H
     clear H
     have hcz24_0 := bc_ BK257 0 (.int .i64 a0)
     have hcz24_1 := bc_ BK257 1 (.slice A1 l1.length c1)
     have hfz24_0 := bz_ BK257 0
     have hfz24_1 := bz_ BK257 1
     go_wp2
     go_loopg [41] k1 (fun kq v41 w' => ∃ (x8_2 : List (List Int)) (x41_2 : Int), v41 = .int .i64 x41_2 ∧ Aside0 (branch_Count.l1 kq x8_2 l1 (l1.length : Int) x41_2 = some (r1, r2)) ∧ Aside0 (kq ≤ k1) ∧ Aside0 (Kd.S (Kd.slice 3 (Kd.int .i64)) 24 w' w.heap.size (fun _ => True) (.slice Ao12 x8_1.length co12) x8_2) ∧ Aside0 (w'.heap[gb257]? = some (.cells #[.int .i64 a0, .slice A1 l1.length c1, .map mt_] 60 (0, 0))) ∧ Aside0 (Below w.heap.size w w'))
     case atStart => exact ⟨(x8_1), (0), rs_, H', ⟨Nat.le_refl _⟩, ⟨by (try simp only [hl8_1]); refine ks_ ?_; exact HO_8.out⟩, ⟨by (try simp only [hl8_1]); refine bk_ ?_; exact BK257.out⟩, ⟨bl_⟩⟩
     case round =>
      clear H'
      try clear c1
      try clear p1
      try clear q1
      try clear hx1
      try clear c2
      try clear p2
      try clear hx2
      try clear hf2
      try clear c4
      try clear c4b0
      try clear c4b1
      try clear c6
      try clear c6b0
      try clear c6b1
      try clear p6
      try clear c7
      try clear c7b0
      try clear c7b1
      try clear c12
      try clear c13
      try clear c13b0
      try clear c15
      try clear c15b0
      try clear c15b1
      try clear c16
      try clear c16b0
      try clear c16b1
      try clear c17
      try clear c17b0
      try clear c18
      try clear c18b0
      try clear c19
      try clear p19
      try clear q19
      try clear hx19
      try clear hf19
      try clear c22
      try clear hx22
      try clear hf22
      try clear hcz24_0
      try clear hcz24_1
      try clear hfz24_0
      try clear hfz24_1
      try clear hx19_0
      try clear hx22_0
      try clear p19
      try clear p2
      try clear p6
      try clear q19
      obtain ⟨x8_2, x41_2, rfl, HA, HK2, HO_8, BK257, HB⟩ := hrel
      have hl8_2 := (Kd.S_reads' HO_8.out).1
      rw [hl8_2] at HO_8
      (try simp only [hl8_2])
      (try simp only [hl8_2] at BK257)
      cases gk with
      | zero => exact absurd HA.out (by simp [branch_Count.l1])
      | succ k2 =>
       have H := HA.out
       clear HA
       simp only [branch_Count.l1] at H
       by_cases c25 : x41_2 < (l1.length : Int)
       ·rw [if_pos c25] at H
        have c25b0 : decide (x41_2 < (l1.length : Int)) = true := decide_eq_true c25
        clear c25
        obtain ⟨c26b0, H⟩ := fp_ H
        obtain ⟨c27b0, H⟩ := fp_ H
        by_cases c28 : ((rd_T34 l1 x41_2).f1) > 0
        ·rw [if_pos c28] at H
         have c28b0 : decide (0 < ((rd_T34 l1 x41_2).f1)) = true := decide_eq_true c28
         clear c28
         obtain ⟨ji29, hji29⟩ : ∃ j_ : Int, (wrap64 (((rd_T34 l1 x41_2).f1) - 1)) = j_ := ⟨_, rfl⟩
         replace H : (if 0 ≤ (ji29) then (if (ji29) < (x8_2.length : Int) then (if (ji29) < ((rd_L3 x8_2 (ji29)).length : Int) then ((some (x8_2.set ((ji29) : Int).toNat ((rd_L3 x8_2 (ji29)).set ((ji29) : Int).toNat (wrap64 ((rd (rd_L3 x8_2 (ji29)) (ji29)) + 1))) : List (List Int))).bind fun y272 => (if ((rd_T34 l1 x41_2).f0) > 0 then (if 0 ≤ (wrap64 (((rd_T34 l1 x41_2).f0) - 1)) then (if (wrap64 (((rd_T34 l1 x41_2).f0) - 1)) < (x8_2.length : Int) then (if (ji29) < ((rd_L3 y272 (wrap64 (((rd_T34 l1 x41_2).f0) - 1))).length : Int) then (branch_Count.l1 k2 (y272.set ((wrap64 (((rd_T34 l1 x41_2).f0) - 1)) : Int).toNat ((rd_L3 y272 (wrap64 (((rd_T34 l1 x41_2).f0) - 1))).set ((ji29) : Int).toNat (wrap64 ((rd (rd_L3 y272 (wrap64 (((rd_T34 l1 x41_2).f0) - 1))) (ji29)) - 1)))) l1 (l1.length : Int) (wrap64 (x41_2 + 1))) else (none)) else (none)) else (none)) else (branch_Count.l1 k2 y272 l1 (l1.length : Int) (wrap64 (x41_2 + 1))))) else (none)) else (none)) else (none)) = some (r1, r2) := by first | (rw [hji29] at H; exact H) | (simp only [hji29] at H ⊢; exact H)
         have hji29w : (IntKind.i64.wrap (((rd_T34 l1 x41_2).f1) - 1)) = ji29 := (i64_w _).trans hji29
         obtain ⟨c30b0, H⟩ := fp_ H
         obtain ⟨c31b0, H⟩ := fp_ H
         obtain ⟨c32b0, H⟩ := fp_ H
         obtain ⟨y270, hy270⟩ : ∃ y_ : List Int, y_ = ((rd_L3 x8_2 (ji29)).set ((ji29) : Int).toNat (wrap64 ((rd (rd_L3 x8_2 (ji29)) (ji29)) + 1))) := ⟨_, rfl⟩
         replace H : ((some (x8_2.set ((ji29) : Int).toNat y270 : List (List Int))).bind fun y272 => (if ((rd_T34 l1 x41_2).f0) > 0 then (if 0 ≤ (wrap64 (((rd_T34 l1 x41_2).f0) - 1)) then (if (wrap64 (((rd_T34 l1 x41_2).f0) - 1)) < (x8_2.length : Int) then (if (ji29) < ((rd_L3 y272 (wrap64 (((rd_T34 l1 x41_2).f0) - 1))).length : Int) then (branch_Count.l1 k2 (y272.set ((wrap64 (((rd_T34 l1 x41_2).f0) - 1)) : Int).toNat ((rd_L3 y272 (wrap64 (((rd_T34 l1 x41_2).f0) - 1))).set ((ji29) : Int).toNat (wrap64 ((rd (rd_L3 y272 (wrap64 (((rd_T34 l1 x41_2).f0) - 1))) (ji29)) - 1)))) l1 (l1.length : Int) (wrap64 (x41_2 + 1))) else (none)) else (none)) else (none)) else (branch_Count.l1 k2 y272 l1 (l1.length : Int) (wrap64 (x41_2 + 1))))) = some (r1, r2) := by first | (rw [hy270]; with_reducible exact H) | (have H2_ := (Option.bind_some _ _).symm.trans H; rw [hy270]; with_reducible exact H2_) | (have H2_ := (Option.bind_some _ _).symm.trans H; with_reducible exact H2_) | with_reducible exact H | (rw [hy270]; exact H) | exact H
         have Ny270 := Aside0.mk hy270
         clear hy270
         obtain ⟨y272, hy272⟩ : ∃ y_ : List (List Int), y_ = (x8_2.set ((ji29) : Int).toNat y270) := ⟨_, rfl⟩
         replace H : (if ((rd_T34 l1 x41_2).f0) > 0 then (if 0 ≤ (wrap64 (((rd_T34 l1 x41_2).f0) - 1)) then (if (wrap64 (((rd_T34 l1 x41_2).f0) - 1)) < (x8_2.length : Int) then (if (ji29) < ((rd_L3 y272 (wrap64 (((rd_T34 l1 x41_2).f0) - 1))).length : Int) then (branch_Count.l1 k2 (y272.set ((wrap64 (((rd_T34 l1 x41_2).f0) - 1)) : Int).toNat ((rd_L3 y272 (wrap64 (((rd_T34 l1 x41_2).f0) - 1))).set ((ji29) : Int).toNat (wrap64 ((rd (rd_L3 y272 (wrap64 (((rd_T34 l1 x41_2).f0) - 1))) (ji29)) - 1)))) l1 (l1.length : Int) (wrap64 (x41_2 + 1))) else (none)) else (none)) else (none)) else (branch_Count.l1 k2 y272 l1 (l1.length : Int) (wrap64 (x41_2 + 1)))) = some (r1, r2) := by first | (rw [hy272]; with_reducible exact H) | (have H2_ := (Option.bind_some _ _).symm.trans H; rw [hy272]; with_reducible exact H2_) | (have H2_ := (Option.bind_some _ _).symm.trans H; with_reducible exact H2_) | with_reducible exact H | (rw [hy272]; exact H) | exact H
         have Ny272 := Aside0.mk hy272
         clear hy272
         by_cases c34 : ((rd_T34 l1 x41_2).f0) > 0
         ·rw [if_pos c34] at H
          have c34b0 : decide (0 < ((rd_T34 l1 x41_2).f0)) = true := decide_eq_true c34
          clear c34
          obtain ⟨ji35, hji35⟩ : ∃ j_ : Int, (wrap64 (((rd_T34 l1 x41_2).f0) - 1)) = j_ := ⟨_, rfl⟩
          replace H : (if 0 ≤ (ji35) then (if (ji35) < (x8_2.length : Int) then (if (ji29) < ((rd_L3 y272 (ji35)).length : Int) then (branch_Count.l1 k2 (y272.set ((ji35) : Int).toNat ((rd_L3 y272 (ji35)).set ((ji29) : Int).toNat (wrap64 ((rd (rd_L3 y272 (ji35)) (ji29)) - 1)))) l1 (l1.length : Int) (wrap64 (x41_2 + 1))) else (none)) else (none)) else (none)) = some (r1, r2) := by first | (rw [hji35] at H; exact H) | (simp only [hji35] at H ⊢; exact H)
          have hji35w : (IntKind.i64.wrap (((rd_T34 l1 x41_2).f0) - 1)) = ji35 := (i64_w _).trans hji35
          obtain ⟨c36b0, H⟩ := fp_ H
          obtain ⟨c37b0, H⟩ := fp_ H
          obtain ⟨c38b0, H⟩ := fp_ H
          obtain ⟨y275, hy275⟩ : ∃ y_ : List Int, y_ = ((rd_L3 y272 (ji35)).set ((ji29) : Int).toNat (wrap64 ((rd (rd_L3 y272 (ji35)) (ji29)) - 1))) := ⟨_, rfl⟩
          replace H : (branch_Count.l1 k2 (y272.set ((ji35) : Int).toNat y275) l1 (l1.length : Int) (wrap64 (x41_2 + 1))) = some (r1, r2) := by first | (rw [hy275]; with_reducible exact H) | (have H2_ := (Option.bind_some _ _).symm.trans H; rw [hy275]; with_reducible exact H2_) | (have H2_ := (Option.bind_some _ _).symm.trans H; with_reducible exact H2_) | with_reducible exact H | (rw [hy275]; exact H) | exact H
          have Ny275 := Aside0.mk hy275
          clear hy275
          obtain ⟨y277, hy277⟩ : ∃ y_ : List (List Int), y_ = (y272.set ((ji35) : Int).toNat y275) := ⟨_, rfl⟩
          replace H : (branch_Count.l1 k2 y277 l1 (l1.length : Int) (wrap64 (x41_2 + 1))) = some (r1, r2) := by first | (rw [hy277]; with_reducible exact H) | (have H2_ := (Option.bind_some _ _).symm.trans H; rw [hy277]; with_reducible exact H2_) | (have H2_ := (Option.bind_some _ _).symm.trans H; with_reducible exact H2_) | with_reducible exact H | (rw [hy277]; exact H) | exact H
          have Ny277 := Aside0.mk hy277
          clear hy277
          have H' := Aside0.mk H
          clear H
          have p266 : 0 ≤ (x41_2 : Int) := od_
          have q266 : x41_2 < (l1.length : Int) := od_
          obtain ⟨ad266, e266, hx266_0, hx266_1, hx266_2⟩ := at_T34 HR1.out x41_2 p266 q266
          cases e266
          replace hx266_0 := hc_ HB hx266_0
          replace hx266_1 := hc_ HB hx266_1
          replace hx266_2 := hc_ HB hx266_2
          replace p266 := eq_true p266
          replace q266 := eq_true q266
          try go_wp2_with (first | ((with_reducible refine gate_dst (N := 11) rfl ?_); refine be_ #[.int .i64 0, .int .i64 0, .int .i64 0] 34 ?_; intro gb267 hg w40 hbox hb; replace HO_8 := Aside0.mk (Kd.S_below (ks_ HO_8.out) hb); have BK267 := Aside0.mk (hbox); have GW267 := gw_ hg; have GE267 := gw_ hg; replace HB := hb_ hb; have NB257_267 := nl_ hg BK257; have NB267_257 := sy_ NB257_267; replace BK257 := bb_ BK257 hb; clear hb hbox hg; have hnb41 := NB267_257.out; have hnc41 := NB257_267.out; have hcz42_0 := bc_ BK267 0 (.int .i64 0); have hcz42_1 := bc_ BK267 1 (.int .i64 0); have hcz42_2 := bc_ BK267 2 (.int .i64 0); have hfz42_0 := bz_ BK267 0; have hfz42_1 := bz_ BK267 1; have hfz42_2 := bz_ BK267 2))
          have n0_ : Aside0 (Kd.S (Kd.slice 3 (Kd.int .i64)) 24 (((w40.setCell ⟨gb267, 0, none⟩ (.int .i64 ((rd_T34 l1 x41_2).f0))).setCell ⟨gb267, 1, none⟩ (.int .i64 ((rd_T34 l1 x41_2).f1))).setCell ⟨gb267, 2, none⟩ (.int .i64 ((rd_T34 l1 x41_2).f2))) w.heap.size (fun _ => True) (.slice Ao12 x8_2.length co12) x8_2) := ⟨by refine ks_ ?_; exact Kd.S_mono (Kd.S_far (p := ⟨gb267, 2, none⟩) (Kd.S_far (p := ⟨gb267, 1, none⟩) (Kd.S_far (p := ⟨gb267, 0, none⟩) (Kd.S_types HO_8.out BK267.out (by decide)) (fun _ hk => hk.2) (.int .i64 ((rd_T34 l1 x41_2).f0))) (fun _ hk => hk.2) (.int .i64 ((rd_T34 l1 x41_2).f1))) (fun _ hk => hk.2) (.int .i64 ((rd_T34 l1 x41_2).f2))) (fun _ hk => trivial)⟩
          have n1_ : Aside0 ((((w40.setCell ⟨gb267, 0, none⟩ (.int .i64 ((rd_T34 l1 x41_2).f0))).setCell ⟨gb267, 1, none⟩ (.int .i64 ((rd_T34 l1 x41_2).f1))).setCell ⟨gb267, 2, none⟩ (.int .i64 ((rd_T34 l1 x41_2).f2))).heap[gb257]? = some (.cells #[.int .i64 a0, .slice (some ad266) l1.length c1, .map mt_] 60 (0, 0))) := ⟨by refine bk_ ?_; refine blk_far ?_ NB257_267.out _; refine bk_ ?_; refine blk_far ?_ NB257_267.out _; refine bk_ ?_; refine blk_far ?_ NB257_267.out _; refine bk_ ?_; exact BK257.out⟩
          have n2_ : Aside0 ((((w40.setCell ⟨gb267, 0, none⟩ (.int .i64 ((rd_T34 l1 x41_2).f0))).setCell ⟨gb267, 1, none⟩ (.int .i64 ((rd_T34 l1 x41_2).f1))).setCell ⟨gb267, 2, none⟩ (.int .i64 ((rd_T34 l1 x41_2).f2))).heap[gb267]? = some (.cells #[.int .i64 ((rd_T34 l1 x41_2).f0), .int .i64 ((rd_T34 l1 x41_2).f1), .int .i64 ((rd_T34 l1 x41_2).f2)] 34 (0, 0))) := ⟨by refine bk_ ?_; refine blk_put (cs := #[.int .i64 ((rd_T34 l1 x41_2).f0), .int .i64 ((rd_T34 l1 x41_2).f1), .int .i64 0]) ?_ 2 _ rfl; refine bk_ ?_; refine blk_put (cs := #[.int .i64 ((rd_T34 l1 x41_2).f0), .int .i64 0, .int .i64 0]) ?_ 1 _ rfl; refine bk_ ?_; refine blk_put (cs := #[.int .i64 0, .int .i64 0, .int .i64 0]) ?_ 0 _ rfl; refine bk_ ?_; exact BK267.out⟩
          have n3_ : Aside0 (Below w.heap.size w (((w40.setCell ⟨gb267, 0, none⟩ (.int .i64 ((rd_T34 l1 x41_2).f0))).setCell ⟨gb267, 1, none⟩ (.int .i64 ((rd_T34 l1 x41_2).f1))).setCell ⟨gb267, 2, none⟩ (.int .i64 ((rd_T34 l1 x41_2).f2)))) := ⟨bl_⟩
          (try clear HO_8)
          (try clear BK257)
          (try clear BK267)
          (try clear HB)
          generalize (((w40.setCell ⟨gb267, 0, none⟩ (.int .i64 ((rd_T34 l1 x41_2).f0))).setCell ⟨gb267, 1, none⟩ (.int .i64 ((rd_T34 l1 x41_2).f1))).setCell ⟨gb267, 2, none⟩ (.int .i64 ((rd_T34 l1 x41_2).f2))) = w43 at n0_ n1_ n2_ n3_ ⊢
          have HO_8 := n0_
          have BK257 := n1_
          have BK267 := n2_
          have HB := n3_
          clear n0_ n1_ n2_ n3_
          replace HO_8 := Aside0.mk (Kd.S_drew HO_8.out)
          replace BK257 := Aside0.mk (blk_drew BK257.out)
          replace BK267 := Aside0.mk (blk_drew BK267.out)
          replace HB := Aside0.mk (below_drew1 HB.out)
          have p268 : 0 ≤ ((ji29) : Int) := od_
          have q268 : (ji29) < (x8_2.length : Int) := od_
          obtain ⟨ad268, A268_0, c268_0, e268, hx268_0, hl268_0, hi268_0⟩ := at_L3 (Kd.S_reads' HO_8.out).2.2 (ji29) p268 q268
          cases e268
          obtain ⟨ce268, hce268, hMe268, hcc268⟩ := Kd.S_get HO_8.out [] (ji29) p268 (by first | exact q268 | exact od_ | (have e_ := (Kd.S_reads' HO_8.out).1; omega))
          obtain ⟨ve268_0, rfl, ge268_0⟩ := hMe268
          have hv268_0 := hcc268 0 _ rfl
          rw [Nat.add_zero, show ((Kd.slice 3 (Kd.int .i64))).sz = 1 from rfl, Nat.mul_one] at hv268_0
          replace hv268_0 := Option.some.inj (hv268_0.symm.trans hx268_0)
          rw [hv268_0] at ge268_0
          have HL268_0 := Aside0.mk (show Kd.R (Kd.int .i64) 3 _ _ _ _ (rd_L3 x8_2 (ji29)) from ge268_0)
          clear hv268_0 ge268_0
          have HX268_0 := Aside0.mk hx268_0
          clear hcc268 hce268
          have HR268_0 := Aside0.mk hi268_0
          have HC268_0 := Aside0.mk hl268_0
          clear hi268_0 hl268_0
          replace p268 := eq_true p268
          replace q268 := eq_true q268
          obtain ⟨ad269, e269, hx269_0, p269, q269⟩ := ai_ (by repeat (first | (with_reducible exact HR268_0.out) | (with_reducible refine Kd.C_alloc ?_ _) | (with_reducible refine Kd.C_drewN ?_ _) | (with_reducible refine Kd.C_drew ?_) | exact HR268_0.out)) (ji29)
          cases e269
          have p33 : 0 ≤ ((ji29) : Int) := od_
          have q33 : ((ji29) : Int) < (((rd_L3 x8_2 (ji29)).length : Int) : Int) := od_
          obtain ⟨go33, co33, eo33, gb33, gl33, cl33, HG33⟩ := Kd.R_form HL268_0.out (by omega)
          (first | cases eo33 | (injection eo33 with ea_ en_ ec_; (first | subst ea_ | (injection ea_ with ea_; subst ea_)); subst ec_; clear en_))
          have GB33 := Aside0.mk gb33
          have GG33 := Aside0.mk HG33
          clear gb33 gl33 HG33
          (first | simp only [add_plain] at hx269_0 | skip)
          obtain ⟨hx33_0, hf33_0⟩ := Kd.R_celln 0 HL268_0.out ((ji29) : Int) p33 q33
          replace p33 := eq_true p33
          replace q33 := eq_true q33
          have hq45 : ((ji29) : Int) < (x8_2.length : Int) := (by have h_ : ((ji29) : Int) < ((x8_2.length : Int) : Int) := od_; first | exact h_ | (have e_ := (Kd.S_reads' HO_8.out).1; omega) | simpa only [List.length_set, List.length_set] using h_)
          obtain ⟨oki45, ce45, hcl45, hM45, hcc45, hok45, hbk45⟩ := Kd.S_borrow HO_8.out [] ((ji29) : Int) (od_) (by first | exact hq45 | (have e_ := (Kd.S_reads' HO_8.out).1; omega))
          obtain ⟨ve45_0, rfl, ge45_0⟩ := hM45
          have hv45 := hcc45 0 _ rfl
          rw [Nat.add_zero, show ((Kd.slice 3 (Kd.int .i64))).sz = 1 from rfl, Nat.mul_one] at hv45
          replace hv45 := Option.some.inj (hv45.symm.trans HX268_0.out)
          subst hv45
          clear hcc45 hcl45
          replace ge45_0 := (show Kd.R (Kd.int .i64) 3 _ _ _ _ (rd_L3 x8_2 (ji29)) from ge45_0)
          have HP45 := Kd.R_putg ge45_0 ((ji29) : Int) (wrap64 ((rd (rd_L3 x8_2 (ji29)) (ji29)) + 1))
          rw [← Ny270.out] at HP45
          have HS45 := hbk45 HP45.2 (fun k_ e_ => by injection e_ with e_; subst e_; exact ge45_0.1 _ rfl) (x' := y270) (Kd.M_row HP45.1)
          rw [← Ny272.out] at HS45
          have HQ45 := Aside0.mk HS45
          clear HP45 HS45 hbk45 hok45
          refine start_ (n := 14) (S := fun w' => w'.cell? ⟨gb267, 0, none⟩ = some (.int .i64 ((rd_T34 l1 x41_2).f0)) ∧ w'.cell? ⟨gb267, 1, none⟩ = some (.int .i64 ((rd_T34 l1 x41_2).f1)) ∧ w'.cell? ⟨gb267, 2, none⟩ = some (.int .i64 ((rd_T34 l1 x41_2).f2)) ∧ w'.cell? (ad268.add ((ji29)).toNat) = some (.slice (some ⟨go33, 0, none⟩) (rd_L3 x8_2 (ji29)).length c268_0) ∧ w'.cell? ⟨go33, ((ji29)).toNat, none⟩ = some (.int .i64 (rd (rd_L3 x8_2 (ji29)) (ji29)))) (ds := [13]) #[false, false, false, false, false, false, false, false, false, false, false, false, false, false] (by kernel_rfl) rfl rfl ⟨(blk_cell BK267.out 0).trans rfl, (blk_cell BK267.out 1).trans rfl, (blk_cell BK267.out 2).trans rfl, hx268_0, hx269_0⟩ (fun hHeld => ?_); refine with_tabW branch_Count.tab14 branch_Count.bits14 (fun HT_ HW_ => ?_)
          generalize w43.drew = w44 at HO_8 BK257 BK267 HB GG33 HL268_0 HQ45 HR268_0 HX268_0 hf33_0 hx268_0 hx269_0 hx33_0 hHeld ⊢
          refine pu_ 0 48 HT_.out (h := ?_)
          refine pu_ 1 49 HT_.out (h := ?_)
          refine pu_ 6 54 HT_.out (h := ?_)
          refine ta_ 2 50 HT_.out HW_.out hHeld (h := ?_)
          refine pu_ 3 51 HT_.out (h := ?_)
          refine pu_ 4 52 HT_.out (h := ?_)
          refine ta_ 5 53 HT_.out HW_.out hHeld (h := ?_)
          refine ta_ 7 55 HT_.out HW_.out hHeld (h := ?_)
          refine pu_ 8 56 HT_.out (h := ?_)
          refine pu_ 9 57 HT_.out (h := ?_)
          refine ta_ 10 58 HT_.out HW_.out hHeld (h := ?_)
          refine pu_ 11 59 HT_.out (h := ?_)
          refine pu_ 12 60 HT_.out (h := ?_)
          refine last_ (i := 13) (N := none) #[true, true, true, true, true, true, true, true, true, true, true, true, true, true] rfl rfl (one_of HT_.out (by kernel_rfl)) (by decide) (fun K hK => ?_)
          refine skip_ (w1 := ?_) (by rfl) rfl ?_ ?_
          rotate_left
          ·go_simp
           rfl
          refine hK.out _ _ ?_
          clear hK K
          refine done_ (done_of HT_.out (by kernel_rfl)) ?_
          have BKf_ := Aside0.mk (blk_far (p := ⟨go33, ((ji29) : Int).toNat, none⟩) BK267.out (by have h_ := Kd.R_ne HL268_0.out BK267.out (by decide); intro e_; exact h_ (by rw [e_]; rfl)) (.int .i64 (wrap64 ((rd (rd_L3 x8_2 (ji29)) (ji29)) + 1))))
          have hcz47_0 := bc_ BKf_ 0 (.int .i64 ((rd_T34 l1 x41_2).f0))
          have hcz47_1 := bc_ BKf_ 1 (.int .i64 ((rd_T34 l1 x41_2).f1))
          have hcz47_2 := bc_ BKf_ 2 (.int .i64 ((rd_T34 l1 x41_2).f2))
          have hfz47_0 := bz_ BKf_ 0
          have hfz47_1 := bz_ BKf_ 1
          have hfz47_2 := bz_ BKf_ 2
          try go_wp2
          have n0_ : Aside0 (Kd.S (Kd.slice 3 (Kd.int .i64)) 24 (w44.setCell ⟨go33, ((ji29) : Int).toNat, none⟩ (.int .i64 (wrap64 ((rd (rd_L3 x8_2 (ji29)) (ji29)) + 1)))) w.heap.size (fun _ => True) (.slice (some ad268) x8_2.length co12) y272) := ⟨ks_ HQ45.out⟩
          have n1_ : Aside0 ((w44.setCell ⟨go33, ((ji29) : Int).toNat, none⟩ (.int .i64 (wrap64 ((rd (rd_L3 x8_2 (ji29)) (ji29)) + 1)))).heap[gb257]? = some (.cells #[.int .i64 a0, .slice (some ad266) l1.length c1, .map mt_] 60 (0, 0))) := ⟨by refine bk_ ?_; refine blk_far ?_ (by have h_ := Kd.R_ne HL268_0.out BK257.out (by decide); intro e_; exact h_ (by rw [e_]; rfl)) _; refine bk_ ?_; exact BK257.out⟩
          have n2_ : Aside0 ((w44.setCell ⟨go33, ((ji29) : Int).toNat, none⟩ (.int .i64 (wrap64 ((rd (rd_L3 x8_2 (ji29)) (ji29)) + 1)))).heap[gb267]? = some (.cells #[.int .i64 ((rd_T34 l1 x41_2).f0), .int .i64 ((rd_T34 l1 x41_2).f1), .int .i64 ((rd_T34 l1 x41_2).f2)] 34 (0, 0))) := ⟨by refine bk_ ?_; refine blk_far ?_ (by have h_ := Kd.R_ne HL268_0.out BK267.out (by decide); intro e_; exact h_ (by rw [e_]; rfl)) _; refine bk_ ?_; exact BK267.out⟩
          have n3_ : Aside0 (Below w.heap.size w (w44.setCell ⟨go33, ((ji29) : Int).toNat, none⟩ (.int .i64 (wrap64 ((rd (rd_L3 x8_2 (ji29)) (ji29)) + 1))))) := ⟨bl_⟩
          (try clear HO_8)
          (try clear BK257)
          (try clear BK267)
          (try clear HB)
          generalize (w44.setCell ⟨go33, ((ji29) : Int).toNat, none⟩ (.int .i64 (wrap64 ((rd (rd_L3 x8_2 (ji29)) (ji29)) + 1)))) = w48 at n0_ n1_ n2_ n3_ ⊢
          have HO_8 := n0_
          have BK257 := n1_
          have BK267 := n2_
          have HB := n3_
          clear n0_ n1_ n2_ n3_
          replace HO_8 := Aside0.mk (Kd.S_drew HO_8.out)
          replace BK257 := Aside0.mk (blk_drew BK257.out)
          replace BK267 := Aside0.mk (blk_drew BK267.out)
          replace HB := Aside0.mk (below_drew1 HB.out)
          have p273 : 0 ≤ ((ji35) : Int) := od_
          have q273 : (ji35) < (y272.length : Int) := (by have h_ : ((ji35) : Int) < ((x8_2.length : Int) : Int) := od_; first | (have e_ := (Kd.S_reads' HO_8.out).1; omega) | simpa only [Ny272.out, List.length_set] using h_)
          have ql273 : (((ji35) : Int) < ((x8_2.length : Int) : Int)) = True := eq_true (od_)
          obtain ⟨ad273, A273_0, c273_0, e273, hx273_0, hl273_0, hi273_0⟩ := at_L3 (Kd.S_reads' HO_8.out).2.2 (ji35) p273 q273
          obtain rfl : ad268 = ad273 := (by injection e273)
          obtain ⟨ce273, hce273, hMe273, hcc273⟩ := Kd.S_get HO_8.out [] (ji35) p273 (by first | exact q273 | exact od_ | (have e_ := (Kd.S_reads' HO_8.out).1; omega))
          obtain ⟨ve273_0, rfl, ge273_0⟩ := hMe273
          have hv273_0 := hcc273 0 _ rfl
          rw [Nat.add_zero, show ((Kd.slice 3 (Kd.int .i64))).sz = 1 from rfl, Nat.mul_one] at hv273_0
          replace hv273_0 := Option.some.inj (hv273_0.symm.trans hx273_0)
          rw [hv273_0] at ge273_0
          have HL273_0 := Aside0.mk (show Kd.R (Kd.int .i64) 3 _ _ _ _ (rd_L3 y272 (ji35)) from ge273_0)
          clear hv273_0 ge273_0
          have HX273_0 := Aside0.mk hx273_0
          clear hcc273 hce273
          have HR273_0 := Aside0.mk hi273_0
          have HC273_0 := Aside0.mk hl273_0
          clear hi273_0 hl273_0
          replace p273 := eq_true p273
          replace q273 := eq_true q273
          obtain ⟨ad274, e274, hx274_0, p274, q274⟩ := ai_ (by repeat (first | (with_reducible exact HR273_0.out) | (with_reducible refine Kd.C_alloc ?_ _) | (with_reducible refine Kd.C_drewN ?_ _) | (with_reducible refine Kd.C_drew ?_) | exact HR273_0.out)) (ji29)
          cases e274
          have p39 : 0 ≤ ((ji29) : Int) := od_
          have q39 : ((ji29) : Int) < (((rd_L3 y272 (ji35)).length : Int) : Int) := od_
          obtain ⟨go39, co39, eo39, gb39, gl39, cl39, HG39⟩ := Kd.R_form HL273_0.out (by omega)
          (first | cases eo39 | (injection eo39 with ea_ en_ ec_; (first | subst ea_ | (injection ea_ with ea_; subst ea_)); subst ec_; clear en_))
          have GB39 := Aside0.mk gb39
          have GG39 := Aside0.mk HG39
          clear gb39 gl39 HG39
          (first | simp only [add_plain] at hx274_0 | skip)
          obtain ⟨hx39_0, hf39_0⟩ := Kd.R_celln 0 HL273_0.out ((ji29) : Int) p39 q39
          replace p39 := eq_true p39
          replace q39 := eq_true q39
          have hq50 : ((ji35) : Int) < (y272.length : Int) := (by have h_ : ((ji35) : Int) < ((x8_2.length : Int) : Int) := od_; first | exact h_ | (have e_ := (Kd.S_reads' HO_8.out).1; omega) | simpa only [Ny272.out, List.length_set] using h_)
          obtain ⟨oki50, ce50, hcl50, hM50, hcc50, hok50, hbk50⟩ := Kd.S_borrow HO_8.out [] ((ji35) : Int) (od_) (by first | exact hq50 | (have e_ := (Kd.S_reads' HO_8.out).1; omega))
          obtain ⟨ve50_0, rfl, ge50_0⟩ := hM50
          have hv50 := hcc50 0 _ rfl
          rw [Nat.add_zero, show ((Kd.slice 3 (Kd.int .i64))).sz = 1 from rfl, Nat.mul_one] at hv50
          replace hv50 := Option.some.inj (hv50.symm.trans HX273_0.out)
          subst hv50
          clear hcc50 hcl50
          replace ge50_0 := (show Kd.R (Kd.int .i64) 3 _ _ _ _ (rd_L3 y272 (ji35)) from ge50_0)
          have HP50 := Kd.R_putg ge50_0 ((ji29) : Int) (wrap64 ((rd (rd_L3 y272 (ji35)) (ji29)) - 1))
          rw [← Ny275.out] at HP50
          have HS50 := hbk50 HP50.2 (fun k_ e_ => by injection e_ with e_; subst e_; exact ge50_0.1 _ rfl) (x' := y275) (Kd.M_row HP50.1)
          rw [← Ny277.out] at HS50
          have HQ50 := Aside0.mk HS50
          clear HP50 HS50 hbk50 hok50
          refine start_ (n := 14) (S := fun w' => w'.cell? ⟨gb267, 0, none⟩ = some (.int .i64 ((rd_T34 l1 x41_2).f0)) ∧ w'.cell? ⟨gb267, 1, none⟩ = some (.int .i64 ((rd_T34 l1 x41_2).f1)) ∧ w'.cell? ⟨gb267, 2, none⟩ = some (.int .i64 ((rd_T34 l1 x41_2).f2)) ∧ w'.cell? (ad268.add ((ji35)).toNat) = some (.slice (some ⟨go39, 0, none⟩) (rd_L3 y272 (ji35)).length c273_0) ∧ w'.cell? ⟨go39, ((ji29)).toNat, none⟩ = some (.int .i64 (rd (rd_L3 y272 (ji35)) (ji29)))) (ds := [13]) #[false, false, false, false, false, false, false, false, false, false, false, false, false, false] (by kernel_rfl) rfl rfl ⟨(blk_cell BK267.out 0).trans rfl, (blk_cell BK267.out 1).trans rfl, (blk_cell BK267.out 2).trans rfl, hx273_0, hx274_0⟩ (fun hHeld => ?_); refine with_tabW branch_Count.tab16 branch_Count.bits16 (fun HT_ HW_ => ?_)
          generalize w48.drew = w49 at HO_8 BK257 BK267 HB GG39 HL273_0 HQ45 HQ50 HR273_0 HX273_0 hf39_0 hx273_0 hx274_0 hx39_0 hHeld ⊢
          refine pu_ 0 64 HT_.out (h := ?_)
          refine pu_ 1 65 HT_.out (h := ?_)
          refine pu_ 6 70 HT_.out (h := ?_)
          refine ta_ 2 66 HT_.out HW_.out hHeld (h := ?_)
          refine pu_ 3 67 HT_.out (h := ?_)
          refine pu_ 4 68 HT_.out (h := ?_)
          refine ta_ 5 69 HT_.out HW_.out hHeld (h := ?_)
          refine ta_ 7 71 HT_.out HW_.out hHeld (h := ?_)
          refine pu_ 8 72 HT_.out (h := ?_)
          refine pu_ 9 73 HT_.out (h := ?_)
          refine ta_ 10 74 HT_.out HW_.out hHeld (h := ?_)
          refine pu_ 11 75 HT_.out (h := ?_)
          refine pu_ 12 76 HT_.out (h := ?_)
          refine last_ (i := 13) (N := none) #[true, true, true, true, true, true, true, true, true, true, true, true, true, true] rfl rfl (one_of HT_.out (by kernel_rfl)) (by decide) (fun K hK => ?_)
          refine skip_ (w1 := ?_) (by rfl) rfl ?_ ?_
          rotate_left
          ·go_simp
           rfl
          refine hK.out _ _ ?_
          clear hK K
          refine done_ (done_of HT_.out (by kernel_rfl)) ?_
          try go_wp2
          (try simp only [← hl8_2])
          go_roundg k2
          case measure => have := HK1.out; have := HK2.out; omega
          case rel => exact ⟨(y277), (wrap64 (x41_2 + 1)), rs_, H', ⟨by have := HK1.out; have := HK2.out; omega⟩, ⟨by (try simp only [hl8_1]); (try simp only [hl8_2]); refine ks_ ?_; exact HQ50.out⟩, ⟨by (try simp only [hl8_1]); (try simp only [hl8_2]); refine bk_ ?_; refine blk_far ?_ (by have h_ := Kd.R_ne HL273_0.out BK257.out (by decide); intro e_; exact h_ (by rw [e_]; rfl)) _; refine bk_ ?_; exact BK257.out⟩, ⟨bl_⟩⟩
         ·rw [if_neg c34] at H
          have c34b0 : decide (0 < ((rd_T34 l1 x41_2).f0)) = false := decide_eq_false c34
          clear c34
          have H' := Aside0.mk H
          clear H
          have p266 : 0 ≤ (x41_2 : Int) := od_
          have q266 : x41_2 < (l1.length : Int) := od_
          obtain ⟨ad266, e266, hx266_0, hx266_1, hx266_2⟩ := at_T34 HR1.out x41_2 p266 q266
          cases e266
          replace hx266_0 := hc_ HB hx266_0
          replace hx266_1 := hc_ HB hx266_1
          replace hx266_2 := hc_ HB hx266_2
          replace p266 := eq_true p266
          replace q266 := eq_true q266
          try go_wp2_with (first | ((with_reducible refine gate_dst (N := 11) rfl ?_); refine be_ #[.int .i64 0, .int .i64 0, .int .i64 0] 34 ?_; intro gb267 hg w52 hbox hb; replace HO_8 := Aside0.mk (Kd.S_below (ks_ HO_8.out) hb); have BK267 := Aside0.mk (hbox); have GW267 := gw_ hg; have GE267 := gw_ hg; replace HB := hb_ hb; have NB257_267 := nl_ hg BK257; have NB267_257 := sy_ NB257_267; replace BK257 := bb_ BK257 hb; clear hb hbox hg; have hnb53 := NB267_257.out; have hnc53 := NB257_267.out; have hcz54_0 := bc_ BK267 0 (.int .i64 0); have hcz54_1 := bc_ BK267 1 (.int .i64 0); have hcz54_2 := bc_ BK267 2 (.int .i64 0); have hfz54_0 := bz_ BK267 0; have hfz54_1 := bz_ BK267 1; have hfz54_2 := bz_ BK267 2))
          have n0_ : Aside0 (Kd.S (Kd.slice 3 (Kd.int .i64)) 24 (((w52.setCell ⟨gb267, 0, none⟩ (.int .i64 ((rd_T34 l1 x41_2).f0))).setCell ⟨gb267, 1, none⟩ (.int .i64 ((rd_T34 l1 x41_2).f1))).setCell ⟨gb267, 2, none⟩ (.int .i64 ((rd_T34 l1 x41_2).f2))) w.heap.size (fun _ => True) (.slice Ao12 x8_2.length co12) x8_2) := ⟨by refine ks_ ?_; exact Kd.S_mono (Kd.S_far (p := ⟨gb267, 2, none⟩) (Kd.S_far (p := ⟨gb267, 1, none⟩) (Kd.S_far (p := ⟨gb267, 0, none⟩) (Kd.S_types HO_8.out BK267.out (by decide)) (fun _ hk => hk.2) (.int .i64 ((rd_T34 l1 x41_2).f0))) (fun _ hk => hk.2) (.int .i64 ((rd_T34 l1 x41_2).f1))) (fun _ hk => hk.2) (.int .i64 ((rd_T34 l1 x41_2).f2))) (fun _ hk => trivial)⟩
          have n1_ : Aside0 ((((w52.setCell ⟨gb267, 0, none⟩ (.int .i64 ((rd_T34 l1 x41_2).f0))).setCell ⟨gb267, 1, none⟩ (.int .i64 ((rd_T34 l1 x41_2).f1))).setCell ⟨gb267, 2, none⟩ (.int .i64 ((rd_T34 l1 x41_2).f2))).heap[gb257]? = some (.cells #[.int .i64 a0, .slice (some ad266) l1.length c1, .map mt_] 60 (0, 0))) := ⟨by refine bk_ ?_; refine blk_far ?_ NB257_267.out _; refine bk_ ?_; refine blk_far ?_ NB257_267.out _; refine bk_ ?_; refine blk_far ?_ NB257_267.out _; refine bk_ ?_; exact BK257.out⟩
          have n2_ : Aside0 ((((w52.setCell ⟨gb267, 0, none⟩ (.int .i64 ((rd_T34 l1 x41_2).f0))).setCell ⟨gb267, 1, none⟩ (.int .i64 ((rd_T34 l1 x41_2).f1))).setCell ⟨gb267, 2, none⟩ (.int .i64 ((rd_T34 l1 x41_2).f2))).heap[gb267]? = some (.cells #[.int .i64 ((rd_T34 l1 x41_2).f0), .int .i64 ((rd_T34 l1 x41_2).f1), .int .i64 ((rd_T34 l1 x41_2).f2)] 34 (0, 0))) := ⟨by refine bk_ ?_; refine blk_put (cs := #[.int .i64 ((rd_T34 l1 x41_2).f0), .int .i64 ((rd_T34 l1 x41_2).f1), .int .i64 0]) ?_ 2 _ rfl; refine bk_ ?_; refine blk_put (cs := #[.int .i64 ((rd_T34 l1 x41_2).f0), .int .i64 0, .int .i64 0]) ?_ 1 _ rfl; refine bk_ ?_; refine blk_put (cs := #[.int .i64 0, .int .i64 0, .int .i64 0]) ?_ 0 _ rfl; refine bk_ ?_; exact BK267.out⟩
          have n3_ : Aside0 (Below w.heap.size w (((w52.setCell ⟨gb267, 0, none⟩ (.int .i64 ((rd_T34 l1 x41_2).f0))).setCell ⟨gb267, 1, none⟩ (.int .i64 ((rd_T34 l1 x41_2).f1))).setCell ⟨gb267, 2, none⟩ (.int .i64 ((rd_T34 l1 x41_2).f2)))) := ⟨bl_⟩
          (try clear HO_8)
          (try clear BK257)
          (try clear BK267)
          (try clear HB)
          generalize (((w52.setCell ⟨gb267, 0, none⟩ (.int .i64 ((rd_T34 l1 x41_2).f0))).setCell ⟨gb267, 1, none⟩ (.int .i64 ((rd_T34 l1 x41_2).f1))).setCell ⟨gb267, 2, none⟩ (.int .i64 ((rd_T34 l1 x41_2).f2))) = w55 at n0_ n1_ n2_ n3_ ⊢
          have HO_8 := n0_
          have BK257 := n1_
          have BK267 := n2_
          have HB := n3_
          clear n0_ n1_ n2_ n3_
          replace HO_8 := Aside0.mk (Kd.S_drew HO_8.out)
          replace BK257 := Aside0.mk (blk_drew BK257.out)
          replace BK267 := Aside0.mk (blk_drew BK267.out)
          replace HB := Aside0.mk (below_drew1 HB.out)
          have p268 : 0 ≤ ((ji29) : Int) := od_
          have q268 : (ji29) < (x8_2.length : Int) := od_
          obtain ⟨ad268, A268_0, c268_0, e268, hx268_0, hl268_0, hi268_0⟩ := at_L3 (Kd.S_reads' HO_8.out).2.2 (ji29) p268 q268
          cases e268
          obtain ⟨ce268, hce268, hMe268, hcc268⟩ := Kd.S_get HO_8.out [] (ji29) p268 (by first | exact q268 | exact od_ | (have e_ := (Kd.S_reads' HO_8.out).1; omega))
          obtain ⟨ve268_0, rfl, ge268_0⟩ := hMe268
          have hv268_0 := hcc268 0 _ rfl
          rw [Nat.add_zero, show ((Kd.slice 3 (Kd.int .i64))).sz = 1 from rfl, Nat.mul_one] at hv268_0
          replace hv268_0 := Option.some.inj (hv268_0.symm.trans hx268_0)
          rw [hv268_0] at ge268_0
          have HL268_0 := Aside0.mk (show Kd.R (Kd.int .i64) 3 _ _ _ _ (rd_L3 x8_2 (ji29)) from ge268_0)
          clear hv268_0 ge268_0
          have HX268_0 := Aside0.mk hx268_0
          clear hcc268 hce268
          have HR268_0 := Aside0.mk hi268_0
          have HC268_0 := Aside0.mk hl268_0
          clear hi268_0 hl268_0
          replace p268 := eq_true p268
          replace q268 := eq_true q268
          obtain ⟨ad269, e269, hx269_0, p269, q269⟩ := ai_ (by repeat (first | (with_reducible exact HR268_0.out) | (with_reducible refine Kd.C_alloc ?_ _) | (with_reducible refine Kd.C_drewN ?_ _) | (with_reducible refine Kd.C_drew ?_) | exact HR268_0.out)) (ji29)
          cases e269
          have p33 : 0 ≤ ((ji29) : Int) := od_
          have q33 : ((ji29) : Int) < (((rd_L3 x8_2 (ji29)).length : Int) : Int) := od_
          obtain ⟨go33, co33, eo33, gb33, gl33, cl33, HG33⟩ := Kd.R_form HL268_0.out (by omega)
          (first | cases eo33 | (injection eo33 with ea_ en_ ec_; (first | subst ea_ | (injection ea_ with ea_; subst ea_)); subst ec_; clear en_))
          have GB33 := Aside0.mk gb33
          have GG33 := Aside0.mk HG33
          clear gb33 gl33 HG33
          (first | simp only [add_plain] at hx269_0 | skip)
          obtain ⟨hx33_0, hf33_0⟩ := Kd.R_celln 0 HL268_0.out ((ji29) : Int) p33 q33
          replace p33 := eq_true p33
          replace q33 := eq_true q33
          have hq57 : ((ji29) : Int) < (x8_2.length : Int) := (by have h_ : ((ji29) : Int) < ((x8_2.length : Int) : Int) := od_; first | exact h_ | (have e_ := (Kd.S_reads' HO_8.out).1; omega) | simpa only [List.length_set, List.length_set] using h_)
          obtain ⟨oki57, ce57, hcl57, hM57, hcc57, hok57, hbk57⟩ := Kd.S_borrow HO_8.out [] ((ji29) : Int) (od_) (by first | exact hq57 | (have e_ := (Kd.S_reads' HO_8.out).1; omega))
          obtain ⟨ve57_0, rfl, ge57_0⟩ := hM57
          have hv57 := hcc57 0 _ rfl
          rw [Nat.add_zero, show ((Kd.slice 3 (Kd.int .i64))).sz = 1 from rfl, Nat.mul_one] at hv57
          replace hv57 := Option.some.inj (hv57.symm.trans HX268_0.out)
          subst hv57
          clear hcc57 hcl57
          replace ge57_0 := (show Kd.R (Kd.int .i64) 3 _ _ _ _ (rd_L3 x8_2 (ji29)) from ge57_0)
          have HP57 := Kd.R_putg ge57_0 ((ji29) : Int) (wrap64 ((rd (rd_L3 x8_2 (ji29)) (ji29)) + 1))
          rw [← Ny270.out] at HP57
          have HS57 := hbk57 HP57.2 (fun k_ e_ => by injection e_ with e_; subst e_; exact ge57_0.1 _ rfl) (x' := y270) (Kd.M_row HP57.1)
          rw [← Ny272.out] at HS57
          have HQ57 := Aside0.mk HS57
          clear HP57 HS57 hbk57 hok57
          refine start_ (n := 14) (S := fun w' => w'.cell? ⟨gb267, 0, none⟩ = some (.int .i64 ((rd_T34 l1 x41_2).f0)) ∧ w'.cell? ⟨gb267, 1, none⟩ = some (.int .i64 ((rd_T34 l1 x41_2).f1)) ∧ w'.cell? ⟨gb267, 2, none⟩ = some (.int .i64 ((rd_T34 l1 x41_2).f2)) ∧ w'.cell? (ad268.add ((ji29)).toNat) = some (.slice (some ⟨go33, 0, none⟩) (rd_L3 x8_2 (ji29)).length c268_0) ∧ w'.cell? ⟨go33, ((ji29)).toNat, none⟩ = some (.int .i64 (rd (rd_L3 x8_2 (ji29)) (ji29)))) (ds := [13]) #[false, false, false, false, false, false, false, false, false, false, false, false, false, false] (by kernel_rfl) rfl rfl ⟨(blk_cell BK267.out 0).trans rfl, (blk_cell BK267.out 1).trans rfl, (blk_cell BK267.out 2).trans rfl, hx268_0, hx269_0⟩ (fun hHeld => ?_); refine with_tabW branch_Count.tab14 branch_Count.bits14 (fun HT_ HW_ => ?_)
          generalize w55.drew = w56 at HO_8 BK257 BK267 HB GG33 HL268_0 HQ57 HR268_0 HX268_0 hf33_0 hx268_0 hx269_0 hx33_0 hHeld ⊢
          refine pu_ 0 48 HT_.out (h := ?_)
          refine pu_ 1 49 HT_.out (h := ?_)
          refine pu_ 6 54 HT_.out (h := ?_)
          refine ta_ 2 50 HT_.out HW_.out hHeld (h := ?_)
          refine pu_ 3 51 HT_.out (h := ?_)
          refine pu_ 4 52 HT_.out (h := ?_)
          refine ta_ 5 53 HT_.out HW_.out hHeld (h := ?_)
          refine ta_ 7 55 HT_.out HW_.out hHeld (h := ?_)
          refine pu_ 8 56 HT_.out (h := ?_)
          refine pu_ 9 57 HT_.out (h := ?_)
          refine ta_ 10 58 HT_.out HW_.out hHeld (h := ?_)
          refine pu_ 11 59 HT_.out (h := ?_)
          refine pu_ 12 60 HT_.out (h := ?_)
          refine last_ (i := 13) (N := none) #[true, true, true, true, true, true, true, true, true, true, true, true, true, true] rfl rfl (one_of HT_.out (by kernel_rfl)) (by decide) (fun K hK => ?_)
          refine skip_ (w1 := ?_) (by rfl) rfl ?_ ?_
          rotate_left
          ·go_simp
           rfl
          refine hK.out _ _ ?_
          clear hK K
          refine done_ (done_of HT_.out (by kernel_rfl)) ?_
          have BKf_ := Aside0.mk (blk_far (p := ⟨go33, ((ji29) : Int).toNat, none⟩) BK267.out (by have h_ := Kd.R_ne HL268_0.out BK267.out (by decide); intro e_; exact h_ (by rw [e_]; rfl)) (.int .i64 (wrap64 ((rd (rd_L3 x8_2 (ji29)) (ji29)) + 1))))
          have hcz59_0 := bc_ BKf_ 0 (.int .i64 ((rd_T34 l1 x41_2).f0))
          have hcz59_1 := bc_ BKf_ 1 (.int .i64 ((rd_T34 l1 x41_2).f1))
          have hcz59_2 := bc_ BKf_ 2 (.int .i64 ((rd_T34 l1 x41_2).f2))
          have hfz59_0 := bz_ BKf_ 0
          have hfz59_1 := bz_ BKf_ 1
          have hfz59_2 := bz_ BKf_ 2
          try go_wp2
          (try simp only [← hl8_2])
          go_roundg k2
          case measure => have := HK1.out; have := HK2.out; omega
          case rel => exact ⟨(y272), (wrap64 (x41_2 + 1)), rs_, H', ⟨by have := HK1.out; have := HK2.out; omega⟩, ⟨by (try simp only [hl8_1]); (try simp only [hl8_2]); refine ks_ ?_; exact HQ57.out⟩, ⟨by (try simp only [hl8_1]); (try simp only [hl8_2]); refine bk_ ?_; refine blk_far ?_ (by have h_ := Kd.R_ne HL268_0.out BK257.out (by decide); intro e_; exact h_ (by rw [e_]; rfl)) _; refine bk_ ?_; exact BK257.out⟩, ⟨bl_⟩⟩
        ·rw [if_neg c28] at H
         have c28b0 : decide (0 < ((rd_T34 l1 x41_2).f1)) = false := decide_eq_false c28
         clear c28
         have H' := Aside0.mk H
         clear H
         have p266 : 0 ≤ (x41_2 : Int) := od_
         have q266 : x41_2 < (l1.length : Int) := od_
         obtain ⟨ad266, e266, hx266_0, hx266_1, hx266_2⟩ := at_T34 HR1.out x41_2 p266 q266
         cases e266
         replace hx266_0 := hc_ HB hx266_0
         replace hx266_1 := hc_ HB hx266_1
         replace hx266_2 := hc_ HB hx266_2
         replace p266 := eq_true p266
         replace q266 := eq_true q266
         go_wp2_with (first | ((with_reducible refine gate_dst (N := 11) rfl ?_); refine be_ #[.int .i64 0, .int .i64 0, .int .i64 0] 34 ?_; intro gb267 hg w60 hbox hb; replace HO_8 := Aside0.mk (Kd.S_below (ks_ HO_8.out) hb); have BK267 := Aside0.mk (hbox); have GW267 := gw_ hg; have GE267 := gw_ hg; replace HB := hb_ hb; have NB257_267 := nl_ hg BK257; have NB267_257 := sy_ NB257_267; replace BK257 := bb_ BK257 hb; clear hb hbox hg; have hnb61 := NB267_257.out; have hnc61 := NB257_267.out; have hcz62_0 := bc_ BK267 0 (.int .i64 0); have hcz62_1 := bc_ BK267 1 (.int .i64 0); have hcz62_2 := bc_ BK267 2 (.int .i64 0); have hfz62_0 := bz_ BK267 0; have hfz62_1 := bz_ BK267 1; have hfz62_2 := bz_ BK267 2))
         (try simp only [← hl8_2])
         go_roundg k2
         case measure => have := HK1.out; have := HK2.out; omega
         case rel => exact ⟨(x8_2), (wrap64 (x41_2 + 1)), rs_, H', ⟨by have := HK1.out; have := HK2.out; omega⟩, ⟨by (try simp only [hl8_1]); (try simp only [hl8_2]); refine ks_ ?_; exact Kd.S_mono (Kd.S_far (p := ⟨gb267, 2, none⟩) (Kd.S_far (p := ⟨gb267, 1, none⟩) (Kd.S_far (p := ⟨gb267, 0, none⟩) (Kd.S_types HO_8.out BK267.out (by decide)) (fun _ hk => hk.2) (.int .i64 ((rd_T34 l1 x41_2).f0))) (fun _ hk => hk.2) (.int .i64 ((rd_T34 l1 x41_2).f1))) (fun _ hk => hk.2) (.int .i64 ((rd_T34 l1 x41_2).f2))) (fun _ hk => trivial)⟩, ⟨by (try simp only [hl8_1]); (try simp only [hl8_2]); refine bk_ ?_; refine blk_far ?_ NB257_267.out _; refine bk_ ?_; refine blk_far ?_ NB257_267.out _; refine bk_ ?_; refine blk_far ?_ NB257_267.out _; refine bk_ ?_; exact BK257.out⟩, ⟨bl_⟩⟩
       ·rw [if_neg c25] at H
        have c25b0 : decide (x41_2 < (l1.length : Int)) = false := decide_eq_false c25
        clear c25
        obtain ⟨t265, A63, H⟩ := bi_ H
        replace H : (some (t265, 0)) = some (r1, r2) := H
        simp only [Option.some.injEq, Prod.mk.injEq] at H
        obtain ⟨rfl, rfl⟩ := H
        go_wp2_with (first | ((with_reducible refine gate_callee (f := 17) rfl ?_); refine goesL_ (some 79) rfl rfl Try.func17 (by kernel_rfl) rfl #[.slice Ao12 x8_2.length co12] rfl (as_) ?_; (with_reducible refine (branch_determinant.calls k2 _ _ x8_2 t265 _ ?side1 ?side2 A63.out).mono ?_); (case side1 => repeat (first | exact (Kd.S_reads' HO_8.out).2.2 | (with_reducible refine Kd.C_alloc ?_ _) | (with_reducible refine Kd.C_drewN ?_ _) | (with_reducible refine Kd.C_drew ?_))); (case side2 => exact (Kd.S_reads' HO_8.out).2.1); rintro e w64 ⟨rfl, hb⟩; refine ⟨_, rfl, ?_⟩; replace HO_8 := Aside0.mk (Kd.S_below (ks_ HO_8.out) hb); replace BK257 := bb_ BK257 hb; replace HB := hb_ hb; clear hb))
        go_ret2
        exact ⟨by first | rfl | (simp [errW_none, errW_some] <;> rfl) | (simp only [← hji5]; first | rfl | (simp [errW_none, errW_some] <;> rfl)) | (simp [*, errW_none, errW_some] <;> rfl), bl_⟩
 ·rw [if_neg c4] at H
  have c4b0 : (t256 == 0) = false := beq_eq_false_iff_ne.mpr c4
  have c4b1 : (t256 != 0) = true := bne_iff_ne.mpr c4
  simp only [Option.some.injEq, Prod.mk.injEq] at H
  obtain ⟨rfl, rfl⟩ := H
  go_enter Try.func12, Try.ntmps12
  go_wp2_with (first | ((with_reducible refine gate_callee (f := 13) rfl ?_); refine goesL_ (some 15) rfl rfl Try.func13 (by kernel_rfl) rfl #[.int .i64 a0, .slice A1 l1.length c1] rfl (as_) ?_; (with_reducible refine (branch_read.calls k a0 _ _ l1 t256 _ ?side1 ?side2 A3.out).mono ?_); (case side1 => repeat (first | exact HR1.out | (with_reducible refine Kd.C_alloc ?_ _) | (with_reducible refine Kd.C_drewN ?_ _) | (with_reducible refine Kd.C_drew ?_))); (case side2 => exact HC1.out); rintro e w65 ⟨vt_, rfl, ht_, hb⟩; refine ⟨_, rfl, ?_⟩; replace HB := hb_ hb; clear hb))
  go_ret2
  exact ⟨er_, bl_⟩

end Go.Proofs.Ytlcgoacmlbeliaa.P
