-- Written by wip/tools/myprint.py of this session's repo, over the kit's printer and hand texts.
import Derived.Test.YtgobffgogmnmpaaDoorPx0
import Derived.Test.YtgobffgogmnmpaaDoorPre
import Derived.Test.YtgobffgogmnmpaaDoorPx10
import Derived.Test.YtgobffgogmnmpaaDoorPx11
import Derived.Test.YtgobffgogmnmpaaDoorPx12
namespace Go.Proofs.YtgobffgogmnmpaaDoor.P
open Go.RowKit Go.Proofs.YtgobffgogmnmpaaDoorW.PrintWords Go.Proofs.YtgobffgogmnmpaaDoorW.PrintLast Go.Proofs.YtgobffgogmnmpaaDoorW.PrintMore
attribute [local go_sem] max2_int min2_int max_two min_two max_three min_three max_four min_four   -- for this text's walks alone
set_option linter.unusedVariables false
set_option linter.unusedSimpArgs false

/-! ### trishawref01_least: function 45 -/
def trishawref01_least.l0 : Nat → List Int → Int → Int → Option (Int)
  | 0, _, _, _ => none
  | k + 1, x0, x1, x5 => (trishawref01_windows.f k x0 x1 x5).bind fun t330 => (if 0 ≤ (x0.length : Int) then (if ((x0.length : Int) : Int).toNat ≤ 35184372088832 then ((trishawref01_goes.f k t330 (List.replicate ((x0.length : Int) : Int).toNat 0) 0 x1).bind fun t336 => (if t336 = true then (some x5) else (trishawref01_least.l0 k x0 x1 (wrap64 (x5 + 1))))) else (none)) else (none))
def trishawref01_least.f (k : Nat) (l0 : List Int) (a1 : Int) : Option (Int) := trishawref01_least.l0 k l0 a1 0
theorem trishawref01_least.mono_l : ∀ k, (∀ y0 y1 y2, LeO (trishawref01_least.l0 k y0 y1 y2) (trishawref01_least.l0 (k + 1) y0 y1 y2))
  | 0 => fun _ _ _ r h => by simp [trishawref01_least.l0] at h
  | k + 1 => by
    have ih0 := trishawref01_least.mono_l k
    · intro y0 y1 y2
      unfold trishawref01_least.l0
      repeat' first
      | (with_reducible exact ih0 _ _ _)
      | (with_reducible exact trishawref01_goes.mono _ _ _ _ _)
      | (with_reducible exact trishawref01_windows.mono _ _ _ _)
      | (with_reducible exact LeO.refl _)
      | (with_reducible exact LeO.none _)
      | (with_reducible refine LeO.ite ?_ ?_)
      | (with_reducible refine LeO.bind ?_ (fun _ => ?_))
      | exact ih0 _ _ _
      | exact trishawref01_goes.mono _ _ _ _ _
      | exact trishawref01_windows.mono _ _ _ _
      | exact LeO.none _
      | refine LeO.ite ?_ ?_
      | refine LeO.bind ?_ (fun _ => ?_)
theorem trishawref01_least.mono : ∀ a0 a1 k, LeO (trishawref01_least.f k a0 a1) (trishawref01_least.f (k + 1) a0 a1) := by
  intro a0 a1 k
  have ih0 := trishawref01_least.mono_l k
  unfold trishawref01_least.f
  repeat' first
      | (with_reducible exact ih0 _ _ _)
      | (with_reducible exact trishawref01_goes.mono _ _ _ _ _)
      | (with_reducible exact trishawref01_windows.mono _ _ _ _)
      | (with_reducible exact LeO.refl _)
      | (with_reducible exact LeO.none _)
      | (with_reducible refine LeO.ite ?_ ?_)
      | (with_reducible refine LeO.bind ?_ (fun _ => ?_))
      | exact ih0 _ _ _
      | exact trishawref01_goes.mono _ _ _ _ _
      | exact trishawref01_windows.mono _ _ _ _
      | exact LeO.none _
      | refine LeO.ite ?_ ?_
      | refine LeO.bind ?_ (fun _ => ?_)
def trishawref01_least.T2 : Bool × List (List Nat × List Nat) := (true, [([], []), ([], []), ([], []), ([0, 1, 2], [0, 1, 2]), ([], []), ([4], [4]), ([5, 5], [5]), ([], []), ([3, 6, 7, 3], [3, 6, 7]), ([8], [8])])
def trishawref01_least.B2 : List Nat := [0, 0, 0, 7, 0, 16, 48, 0, 255, 511]
theorem trishawref01_least.tab2 : rtab .any (opsOf Tryd.f45 2) = trishawref01_least.T2 := by kernel_rfl
theorem trishawref01_least.bits2 : waitsOk trishawref01_least.T2.2 trishawref01_least.B2 = true := by kernel_rfl
set_option maxHeartbeats 8000000 in
set_option maxRecDepth 100000 in
theorem trishawref01_least.calls (k : Nat) (A0 : Option Addr) (c0 : Nat) (l0 : List Int) (a1 : Int) (r : Int) (w : World) (hr0 : Kd.C (Kd.int .i64) w A0 l0.length l0) (hc0 : l0.length ≤ c0) (h : trishawref01_least.f k l0 a1 = some r) :
    Calls Tryd.prog 45 #[.slice A0 l0.length c0, .int .i64 a1] w fun e w' => e = .returned (.int .i64 r) ∧ Below w.heap.size w w' := by
 have HR0 := Aside0.mk hr0
 have HC0 := Aside0.mk hc0
 clear hr0 hc0
 have HB := Aside0.mk (Below.refl w.heap.size w)
 have H : (trishawref01_least.l0 k l0 a1 0) = some r := h
 clear h
 have H' := Aside0.mk H
 clear H
 go_enter Tryd.func45, Tryd.ntmps45
 go_wp2
 go_loopg [5] k (fun kq v5 w' => ∃ (x5_1 : Int), v5 = .int .i64 x5_1 ∧ Aside0 (trishawref01_least.l0 kq l0 a1 x5_1 = some r) ∧ Aside0 (kq ≤ k) ∧ Aside0 (Below w.heap.size w w'))
 case atStart => exact ⟨(0), (by first | rfl | (simp; done) | (simp [*]; done)), H', ⟨Nat.le_refl _⟩, ⟨bl_⟩⟩
 case round =>
  clear H'
  try clear p2
  obtain ⟨x5_1, rfl, HA, HK1, HB⟩ := hrel
  cases gk with
  | zero => exact absurd HA.out (by simp [trishawref01_least.l0])
  | succ k1 =>
   have H := HA.out
   clear HA
   simp only [trishawref01_least.l0] at H
   replace H := Option.bind_eq_some_iff.mp H
   obtain ⟨t330, A30, H⟩ := H
   replace H : (if 0 ≤ (l0.length : Int) then (if ((l0.length : Int) : Int).toNat ≤ 35184372088832 then ((trishawref01_goes.f k1 t330 (List.replicate ((l0.length : Int) : Int).toNat 0) 0 a1).bind fun t336 => (if t336 = true then (some x5_1) else (trishawref01_least.l0 k1 l0 a1 (wrap64 (x5_1 + 1))))) else (none)) else (none)) = some r := H
   have A3 := Aside0.mk A30
   clear A30
   have c4 : 0 ≤ (l0.length : Int) := fl_ fun c4 => by rw [if_neg c4] at H; exact absurd H (by simp)
   rw [if_pos c4] at H
   have c4b0 := eq_true c4
   have c4b1 : decide (0 ≤ (l0.length : Int)) = true := decide_eq_true c4
   clear c4
   have c5 : ((l0.length : Int) : Int).toNat ≤ 35184372088832 := fl_ fun c5 => by rw [if_neg c5] at H; exact absurd H (by simp)
   rw [if_pos c5] at H
   have c5b0 := eq_true c5
   have c5b1 : decide (((l0.length : Int) : Int).toNat ≤ 35184372088832) = true := decide_eq_true c5
   clear c5
   obtain ⟨y333, hy333⟩ : ∃ y_ : List Int, y_ = (List.replicate ((l0.length : Int) : Int).toNat 0) := ⟨_, rfl⟩
   replace H : ((trishawref01_goes.f k1 t330 y333 0 a1).bind fun t336 => (if t336 = true then (some x5_1) else (trishawref01_least.l0 k1 l0 a1 (wrap64 (x5_1 + 1))))) = some r := by first | (rw [hy333]; with_reducible exact H) | (have H2_ := (Option.bind_some _ _).symm.trans H; rw [hy333]; with_reducible exact H2_) | (have H2_ := (Option.bind_some _ _).symm.trans H; with_reducible exact H2_) | with_reducible exact H | (rw [hy333]; exact H) | exact H
   have Ny333 := Aside0.mk hy333
   clear hy333
   replace H := Option.bind_eq_some_iff.mp H
   obtain ⟨t336, A60, H⟩ := H
   replace H : (if t336 = true then (some x5_1) else (trishawref01_least.l0 k1 l0 a1 (wrap64 (x5_1 + 1)))) = some r := H
   have A6 := Aside0.mk A60
   clear A60
   by_cases c7 : t336 = true
   ·subst c7
    have H1 : (some x5_1) = some r := by rw [if_pos rfl] at H; exact H
    clear H
    have H := H1
    clear H1
    obtain rfl := Option.some.inj H
    try go_wp2
    have n0_ := Aside0.mk (below_drew1 HB.out)
    clear HB
    have HB := n0_
    clear n0_
    refine start_ (n := 10) (S := fun w' => True) (ds := []) #[false, false, false, false, false, false, false, false, false, false] (by kernel_rfl) rfl rfl trivial (fun hHeld => ?_); refine with_tabW trishawref01_least.tab2 trishawref01_least.bits2 (fun HT_ HW_ => ?_)
    generalize wr.drew = w8 at HB hHeld ⊢
    refine pu_ 0 6 HT_.out (h := ?_)
    refine pu_ 1 7 HT_.out (h := ?_)
    refine pu_ 2 8 HT_.out (h := ?_)
    refine pu_ 4 10 HT_.out (h := ?_)
    refine pu_ 5 11 HT_.out (h := ?_)
    refine pu_ 7 13 HT_.out (h := ?_)
    refine join_ (σ := Value × Value) 2 #[true, true, true, true, true, true, true, true, false, false] (fun s_ => [(9, s_.1), (12, s_.2)]) (fun s_ w' => (Kd.S (Kd.slice 51 k51) 49 w' w.heap.size (fun _ => True) s_.1 t330) ∧ (Kd.R (Kd.int .i64) 3 w' w.heap.size (fun _ => True) s_.2 y333) ∧ (Below w.heap.size w w')) ?_ ?_
    rotate_left
    ·intro hCont
     refine two_ (i := 3) (j := 6) (Ni := some 9) (Nj := some 12) #[true, true, true, true, true, true, false, true, false, false] #[true, true, true, false, true, true, true, true, false, false] rfl rfl rfl rfl (two_of HT_.out (by kernel_rfl)) (by decide) (by decide) (fun K hK => ?_) (fun K hK => ?_)
     ·skip
      refine goes_ Tryd.func48 (by kernel_rfl) rfl #[.slice A0 l0.length c0, .int .i64 a1, .int .i64 x5_1] (by rfl) rfl rfl (as_) ?_
      with_reducible refine (trishawref01_windows.calls k1 _ _ l0 a1 x5_1 t330 _ ?side1 ?side2 A3.out).mono ?_
      (case side1 => repeat (first | exact (Kd.C_below HR0.out HB.out) | (with_reducible refine Kd.C_alloc ?_ _) | (with_reducible refine Kd.C_drewN ?_ _) | (with_reducible refine Kd.C_drew ?_)))
      (case side2 => exact HC0.out)
      rintro e w9 ⟨v331, rfl, ho0, hb⟩
      refine ⟨_, rfl, ?_⟩
      have n0_ := Aside0.mk (Kd.S_lower ho0 (below_size (bl_)))
      have n1_ := Aside0.mk (below_step (bl_) hb)
      clear HB
      have HO332 := n0_
      have HB := n1_
      clear n0_ n1_
      (try clear hb)
      (try clear hb2)
      (try clear hk)
      (try clear hi)
      (try clear ho0)
      refine hK.out _ _ trivial (fun hHeld => ?_)
      clear hK K
      refine norm_ (a' := ?_) ?_ ?_
      rotate_left
      ·show Act.put _ (some 9) _ = _
       simp only [Act.put, List.setIfInBounds_toArray, List.set_cons_zero, List.set_cons_succ, i64_w, i32_w]
       rfl
      refine one_ (i := 6) (N := some 12) #[true, true, true, true, true, true, true, true, false, false] rfl rfl (one_of HT_.out (by kernel_rfl)) (by decide) (fun K hK => ?_)
      refine Kd.R_make_step (Kd.int .i64) _ 3 (by rfl) (N := 12) rfl 22 _ _ rfl (l0.length : Int) rfl rfl Tryd.underlying22 (.int .i64 0) 8 info3 rfl (by decide) (by omega) 0 (ok := fun _ => True) (okp := fun _ => True) rfl (fun _ hk => hk) trivial (od_) (Nat.le_trans (Nat.mul_le_mul_right _ (od_ : (l0.length : Int).toNat ≤ 35184372088832)) (by omega)) (Below.refl _ _) (Nat.le_refl _) ?_
      intro v334 w10 ho11 hb hg_ hnew_
      clear hg_ hnew_
      (first | rw [← Ny333.out] at ho11 | (simp only [Int.reduceToNat] at ho11; rw [← Ny333.out] at ho11))
      have n0_ := Aside0.mk (Kd.S_below (ks_ HO332.out) hb)
      have n1_ := Aside0.mk (Kd.R_lower ho11 (below_size (bl_)))
      have n2_ := Aside0.mk (below_step (bl_) hb)
      clear HO332
      clear HB
      have HO332 := n0_
      have HO335 := n1_
      have HB := n2_
      clear n0_ n1_ n2_
      clear hb ho11
      refine hK.out _ _ trivial (fun hHeld => ?_)
      clear hK K
      refine norm_ (a' := ?_) ?_ ?_
      rotate_left
      ·show Act.put _ (some 12) _ = _
       simp only [Act.put, List.setIfInBounds_toArray, List.set_cons_zero, List.set_cons_succ, i64_w, i32_w]
       rfl
      exact norm_ (by simp only [putAll, Act.put, List.setIfInBounds_toArray, List.set_cons_zero, List.set_cons_succ]) (hCont (v331, v334) _ ⟨(ks_ HO332.out), (kr_ HO335.out), (bl_)⟩)
     ·skip
      refine Kd.R_make_step (Kd.int .i64) _ 3 (by rfl) (N := 12) rfl 22 _ _ rfl (l0.length : Int) rfl rfl Tryd.underlying22 (.int .i64 0) 8 info3 rfl (by decide) (by omega) 0 (ok := fun _ => True) (okp := fun _ => True) rfl (fun _ hk => hk) trivial (od_) (Nat.le_trans (Nat.mul_le_mul_right _ (od_ : (l0.length : Int).toNat ≤ 35184372088832)) (by omega)) (Below.refl _ _) (Nat.le_refl _) ?_
      intro v334 w9 ho10 hb hg_ hnew_
      clear hg_ hnew_
      (first | rw [← Ny333.out] at ho10 | (simp only [Int.reduceToNat] at ho10; rw [← Ny333.out] at ho10))
      have n0_ := Aside0.mk (Kd.R_lower ho10 (below_size (bl_)))
      have n1_ := Aside0.mk (below_step (bl_) hb)
      clear HB
      have HO335 := n0_
      have HB := n1_
      clear n0_ n1_
      clear hb ho10
      refine hK.out _ _ trivial (fun hHeld => ?_)
      clear hK K
      refine norm_ (a' := ?_) ?_ ?_
      rotate_left
      ·show Act.put _ (some 12) _ = _
       simp only [Act.put, List.setIfInBounds_toArray, List.set_cons_zero, List.set_cons_succ, i64_w, i32_w]
       rfl
      refine one_ (i := 3) (N := some 9) #[true, true, true, true, true, true, true, true, false, false] rfl rfl (one_of HT_.out (by kernel_rfl)) (by decide) (fun K hK => ?_)
      refine goes_ Tryd.func48 (by kernel_rfl) rfl #[.slice A0 l0.length c0, .int .i64 a1, .int .i64 x5_1] (by rfl) rfl rfl (as_) ?_
      with_reducible refine (trishawref01_windows.calls k1 _ _ l0 a1 x5_1 t330 _ ?side1 ?side2 A3.out).mono ?_
      (case side1 => repeat (first | exact (Kd.C_below HR0.out HB.out) | (with_reducible refine Kd.C_alloc ?_ _) | (with_reducible refine Kd.C_drewN ?_ _) | (with_reducible refine Kd.C_drew ?_)))
      (case side2 => exact HC0.out)
      rintro e w11 ⟨v331, rfl, ho0, hb⟩
      refine ⟨_, rfl, ?_⟩
      have n0_ := Aside0.mk (Kd.R_below (kr_ HO335.out) hb)
      have n1_ := Aside0.mk (Kd.S_lower ho0 (below_size (bl_)))
      have n2_ := Aside0.mk (below_step (bl_) hb)
      clear HO335
      clear HB
      have HO335 := n0_
      have HO332 := n1_
      have HB := n2_
      clear n0_ n1_ n2_
      (try clear hb)
      (try clear hb2)
      (try clear hk)
      (try clear hi)
      (try clear ho0)
      refine hK.out _ _ trivial (fun hHeld => ?_)
      clear hK K
      refine norm_ (a' := ?_) ?_ ?_
      rotate_left
      ·show Act.put _ (some 9) _ = _
       simp only [Act.put, List.setIfInBounds_toArray, List.set_cons_zero, List.set_cons_succ, i64_w, i32_w]
       rfl
      exact norm_ (by simp only [putAll, Act.put, List.setIfInBounds_toArray, List.set_cons_zero, List.set_cons_succ]) (hCont (v331, v334) _ ⟨(ks_ HO332.out), (kr_ HO335.out), (bl_)⟩)
    rintro ⟨v331, v334⟩ w12 ⟨h0_, h1_, h2_⟩
    have n0_ : Aside0 (Kd.S (Kd.slice 51 k51) 49 w12 w.heap.size (fun _ => True) v331 t330) := ⟨h0_⟩
    have n1_ : Aside0 (Kd.R (Kd.int .i64) 3 w12 w.heap.size (fun _ => True) v334 y333) := ⟨h1_⟩
    have n2_ : Aside0 (Below w.heap.size w w12) := ⟨h2_⟩
    clear HB
    clear h0_ h1_ h2_
    have HO332 := n0_
    have HO335 := n1_
    have HB := n2_
    clear n0_ n1_ n2_
    have hHeld := trivial
    obtain ⟨Ao13, co13, eo13⟩ := Kd.S_slice HO332.out
    (first | subst eo13 | (injection eo13 with f1_ f2_ f3_; have f4_ := f1_.symm; have f5_ := f3_.symm; clear f1_ f2_ f3_; subst f4_; subst f5_))
    obtain ⟨Ao14, co14, eo14⟩ := Kd.R_slice HO335.out
    (first | subst eo14 | (injection eo14 with f1_ f2_ f3_; have f4_ := f1_.symm; have f5_ := f3_.symm; clear f1_ f2_ f3_; subst f4_; subst f5_))
    refine norm_ (a' := ?_) ?_ ?_
    rotate_left
    ·simp only [putAll, Act.put, List.setIfInBounds_toArray, List.set_cons_zero, List.set_cons_succ]
     rfl
    refine one_ (i := 8) (N := some 14) #[true, true, true, true, true, true, true, true, true, false] rfl rfl (one_of HT_.out (by kernel_rfl)) (by decide) (fun K hK => ?_)
    refine goes_ Tryd.func49 (by kernel_rfl) rfl #[.slice Ao13 t330.length co13, .slice Ao14 y333.length co14, .int .i64 0, .int .i64 a1] (by rfl) rfl rfl (as_) ?_
    with_reducible refine (trishawref01_goes.calls k1 _ _ t330 _ _ y333 0 a1 true _ ?side1 ?side2 ?side3 ?side4 A6.out).mono ?_
    (case side1 => repeat (first | exact (Kd.S_reads' HO332.out).2.2 | (with_reducible refine Kd.C_alloc ?_ _) | (with_reducible refine Kd.C_drewN ?_ _) | (with_reducible refine Kd.C_drew ?_)))
    (case side2 => exact (Kd.S_reads' HO332.out).2.1)
    (case side3 => repeat (first | exact (Kd.R_reads' HO335.out).2.2 | (with_reducible refine Kd.C_alloc ?_ _) | (with_reducible refine Kd.C_drewN ?_ _) | (with_reducible refine Kd.C_drew ?_)))
    (case side4 => exact (Kd.R_reads' HO335.out).2.1)
    rintro e w15 ⟨rfl, hb⟩
    refine ⟨_, rfl, ?_⟩
    have n0_ := Aside0.mk (Kd.S_below (ks_ HO332.out) hb)
    have n1_ := Aside0.mk (Kd.R_below (kr_ HO335.out) hb)
    have n2_ := Aside0.mk (below_step (bl_) hb)
    clear HO332
    clear HO335
    clear HB
    have HO332 := n0_
    have HO335 := n1_
    have HB := n2_
    clear n0_ n1_ n2_
    (try clear hb)
    (try clear hb2)
    (try clear hk)
    (try clear hi)
    refine hK.out _ _ trivial (fun hHeld => ?_)
    clear hK K
    refine norm_ (a' := ?_) ?_ ?_
    rotate_left
    ·show Act.put _ (some 14) _ = _
     simp only [Act.put, List.setIfInBounds_toArray, List.set_cons_zero, List.set_cons_succ, i64_w, i32_w]
     rfl
    refine pu_ 9 15 HT_.out (h := ?_)
    refine done_ (done_of HT_.out (by kernel_rfl)) ?_
    try go_wp2
    go_ret
    exact ⟨by first | rfl | (simp [errW_none, errW_some] <;> rfl) | (simp [*, errW_none, errW_some] <;> rfl), bl_⟩
   ·replace c7 := Bool.eq_false_iff.mpr c7
    subst c7
    have H1 : (trishawref01_least.l0 k1 l0 a1 (wrap64 (x5_1 + 1))) = some r := by rw [if_neg (show ¬ (false = true) by decide)] at H; exact H
    clear H
    have H := H1
    clear H1
    have H' := Aside0.mk H
    clear H
    try go_wp2
    have n0_ := Aside0.mk (below_drew1 HB.out)
    clear HB
    have HB := n0_
    clear n0_
    refine start_ (n := 10) (S := fun w' => True) (ds := []) #[false, false, false, false, false, false, false, false, false, false] (by kernel_rfl) rfl rfl trivial (fun hHeld => ?_); refine with_tabW trishawref01_least.tab2 trishawref01_least.bits2 (fun HT_ HW_ => ?_)
    generalize wr.drew = w16 at HB hHeld ⊢
    refine pu_ 0 6 HT_.out (h := ?_)
    refine pu_ 1 7 HT_.out (h := ?_)
    refine pu_ 2 8 HT_.out (h := ?_)
    refine pu_ 4 10 HT_.out (h := ?_)
    refine pu_ 5 11 HT_.out (h := ?_)
    refine pu_ 7 13 HT_.out (h := ?_)
    refine join_ (σ := Value × Value) 2 #[true, true, true, true, true, true, true, true, false, false] (fun s_ => [(9, s_.1), (12, s_.2)]) (fun s_ w' => (Kd.S (Kd.slice 51 k51) 49 w' w.heap.size (fun _ => True) s_.1 t330) ∧ (Kd.R (Kd.int .i64) 3 w' w.heap.size (fun _ => True) s_.2 y333) ∧ (Below w.heap.size w w')) ?_ ?_
    rotate_left
    ·intro hCont
     refine two_ (i := 3) (j := 6) (Ni := some 9) (Nj := some 12) #[true, true, true, true, true, true, false, true, false, false] #[true, true, true, false, true, true, true, true, false, false] rfl rfl rfl rfl (two_of HT_.out (by kernel_rfl)) (by decide) (by decide) (fun K hK => ?_) (fun K hK => ?_)
     ·skip
      refine goes_ Tryd.func48 (by kernel_rfl) rfl #[.slice A0 l0.length c0, .int .i64 a1, .int .i64 x5_1] (by rfl) rfl rfl (as_) ?_
      with_reducible refine (trishawref01_windows.calls k1 _ _ l0 a1 x5_1 t330 _ ?side1 ?side2 A3.out).mono ?_
      (case side1 => repeat (first | exact (Kd.C_below HR0.out HB.out) | (with_reducible refine Kd.C_alloc ?_ _) | (with_reducible refine Kd.C_drewN ?_ _) | (with_reducible refine Kd.C_drew ?_)))
      (case side2 => exact HC0.out)
      rintro e w17 ⟨v331, rfl, ho0, hb⟩
      refine ⟨_, rfl, ?_⟩
      have n0_ := Aside0.mk (Kd.S_lower ho0 (below_size (bl_)))
      have n1_ := Aside0.mk (below_step (bl_) hb)
      clear HB
      have HO332 := n0_
      have HB := n1_
      clear n0_ n1_
      (try clear hb)
      (try clear hb2)
      (try clear hk)
      (try clear hi)
      (try clear ho0)
      refine hK.out _ _ trivial (fun hHeld => ?_)
      clear hK K
      refine norm_ (a' := ?_) ?_ ?_
      rotate_left
      ·show Act.put _ (some 9) _ = _
       simp only [Act.put, List.setIfInBounds_toArray, List.set_cons_zero, List.set_cons_succ, i64_w, i32_w]
       rfl
      refine one_ (i := 6) (N := some 12) #[true, true, true, true, true, true, true, true, false, false] rfl rfl (one_of HT_.out (by kernel_rfl)) (by decide) (fun K hK => ?_)
      refine Kd.R_make_step (Kd.int .i64) _ 3 (by rfl) (N := 12) rfl 22 _ _ rfl (l0.length : Int) rfl rfl Tryd.underlying22 (.int .i64 0) 8 info3 rfl (by decide) (by omega) 0 (ok := fun _ => True) (okp := fun _ => True) rfl (fun _ hk => hk) trivial (od_) (Nat.le_trans (Nat.mul_le_mul_right _ (od_ : (l0.length : Int).toNat ≤ 35184372088832)) (by omega)) (Below.refl _ _) (Nat.le_refl _) ?_
      intro v334 w18 ho19 hb hg_ hnew_
      clear hg_ hnew_
      (first | rw [← Ny333.out] at ho19 | (simp only [Int.reduceToNat] at ho19; rw [← Ny333.out] at ho19))
      have n0_ := Aside0.mk (Kd.S_below (ks_ HO332.out) hb)
      have n1_ := Aside0.mk (Kd.R_lower ho19 (below_size (bl_)))
      have n2_ := Aside0.mk (below_step (bl_) hb)
      clear HO332
      clear HB
      have HO332 := n0_
      have HO335 := n1_
      have HB := n2_
      clear n0_ n1_ n2_
      clear hb ho19
      refine hK.out _ _ trivial (fun hHeld => ?_)
      clear hK K
      refine norm_ (a' := ?_) ?_ ?_
      rotate_left
      ·show Act.put _ (some 12) _ = _
       simp only [Act.put, List.setIfInBounds_toArray, List.set_cons_zero, List.set_cons_succ, i64_w, i32_w]
       rfl
      exact norm_ (by simp only [putAll, Act.put, List.setIfInBounds_toArray, List.set_cons_zero, List.set_cons_succ]) (hCont (v331, v334) _ ⟨(ks_ HO332.out), (kr_ HO335.out), (bl_)⟩)
     ·skip
      refine Kd.R_make_step (Kd.int .i64) _ 3 (by rfl) (N := 12) rfl 22 _ _ rfl (l0.length : Int) rfl rfl Tryd.underlying22 (.int .i64 0) 8 info3 rfl (by decide) (by omega) 0 (ok := fun _ => True) (okp := fun _ => True) rfl (fun _ hk => hk) trivial (od_) (Nat.le_trans (Nat.mul_le_mul_right _ (od_ : (l0.length : Int).toNat ≤ 35184372088832)) (by omega)) (Below.refl _ _) (Nat.le_refl _) ?_
      intro v334 w17 ho18 hb hg_ hnew_
      clear hg_ hnew_
      (first | rw [← Ny333.out] at ho18 | (simp only [Int.reduceToNat] at ho18; rw [← Ny333.out] at ho18))
      have n0_ := Aside0.mk (Kd.R_lower ho18 (below_size (bl_)))
      have n1_ := Aside0.mk (below_step (bl_) hb)
      clear HB
      have HO335 := n0_
      have HB := n1_
      clear n0_ n1_
      clear hb ho18
      refine hK.out _ _ trivial (fun hHeld => ?_)
      clear hK K
      refine norm_ (a' := ?_) ?_ ?_
      rotate_left
      ·show Act.put _ (some 12) _ = _
       simp only [Act.put, List.setIfInBounds_toArray, List.set_cons_zero, List.set_cons_succ, i64_w, i32_w]
       rfl
      refine one_ (i := 3) (N := some 9) #[true, true, true, true, true, true, true, true, false, false] rfl rfl (one_of HT_.out (by kernel_rfl)) (by decide) (fun K hK => ?_)
      refine goes_ Tryd.func48 (by kernel_rfl) rfl #[.slice A0 l0.length c0, .int .i64 a1, .int .i64 x5_1] (by rfl) rfl rfl (as_) ?_
      with_reducible refine (trishawref01_windows.calls k1 _ _ l0 a1 x5_1 t330 _ ?side1 ?side2 A3.out).mono ?_
      (case side1 => repeat (first | exact (Kd.C_below HR0.out HB.out) | (with_reducible refine Kd.C_alloc ?_ _) | (with_reducible refine Kd.C_drewN ?_ _) | (with_reducible refine Kd.C_drew ?_)))
      (case side2 => exact HC0.out)
      rintro e w19 ⟨v331, rfl, ho0, hb⟩
      refine ⟨_, rfl, ?_⟩
      have n0_ := Aside0.mk (Kd.R_below (kr_ HO335.out) hb)
      have n1_ := Aside0.mk (Kd.S_lower ho0 (below_size (bl_)))
      have n2_ := Aside0.mk (below_step (bl_) hb)
      clear HO335
      clear HB
      have HO335 := n0_
      have HO332 := n1_
      have HB := n2_
      clear n0_ n1_ n2_
      (try clear hb)
      (try clear hb2)
      (try clear hk)
      (try clear hi)
      (try clear ho0)
      refine hK.out _ _ trivial (fun hHeld => ?_)
      clear hK K
      refine norm_ (a' := ?_) ?_ ?_
      rotate_left
      ·show Act.put _ (some 9) _ = _
       simp only [Act.put, List.setIfInBounds_toArray, List.set_cons_zero, List.set_cons_succ, i64_w, i32_w]
       rfl
      exact norm_ (by simp only [putAll, Act.put, List.setIfInBounds_toArray, List.set_cons_zero, List.set_cons_succ]) (hCont (v331, v334) _ ⟨(ks_ HO332.out), (kr_ HO335.out), (bl_)⟩)
    rintro ⟨v331, v334⟩ w20 ⟨h0_, h1_, h2_⟩
    have n0_ : Aside0 (Kd.S (Kd.slice 51 k51) 49 w20 w.heap.size (fun _ => True) v331 t330) := ⟨h0_⟩
    have n1_ : Aside0 (Kd.R (Kd.int .i64) 3 w20 w.heap.size (fun _ => True) v334 y333) := ⟨h1_⟩
    have n2_ : Aside0 (Below w.heap.size w w20) := ⟨h2_⟩
    clear HB
    clear h0_ h1_ h2_
    have HO332 := n0_
    have HO335 := n1_
    have HB := n2_
    clear n0_ n1_ n2_
    have hHeld := trivial
    obtain ⟨Ao21, co21, eo21⟩ := Kd.S_slice HO332.out
    (first | subst eo21 | (injection eo21 with f1_ f2_ f3_; have f4_ := f1_.symm; have f5_ := f3_.symm; clear f1_ f2_ f3_; subst f4_; subst f5_))
    obtain ⟨Ao22, co22, eo22⟩ := Kd.R_slice HO335.out
    (first | subst eo22 | (injection eo22 with f1_ f2_ f3_; have f4_ := f1_.symm; have f5_ := f3_.symm; clear f1_ f2_ f3_; subst f4_; subst f5_))
    refine norm_ (a' := ?_) ?_ ?_
    rotate_left
    ·simp only [putAll, Act.put, List.setIfInBounds_toArray, List.set_cons_zero, List.set_cons_succ]
     rfl
    refine one_ (i := 8) (N := some 14) #[true, true, true, true, true, true, true, true, true, false] rfl rfl (one_of HT_.out (by kernel_rfl)) (by decide) (fun K hK => ?_)
    refine goes_ Tryd.func49 (by kernel_rfl) rfl #[.slice Ao21 t330.length co21, .slice Ao22 y333.length co22, .int .i64 0, .int .i64 a1] (by rfl) rfl rfl (as_) ?_
    with_reducible refine (trishawref01_goes.calls k1 _ _ t330 _ _ y333 0 a1 false _ ?side1 ?side2 ?side3 ?side4 A6.out).mono ?_
    (case side1 => repeat (first | exact (Kd.S_reads' HO332.out).2.2 | (with_reducible refine Kd.C_alloc ?_ _) | (with_reducible refine Kd.C_drewN ?_ _) | (with_reducible refine Kd.C_drew ?_)))
    (case side2 => exact (Kd.S_reads' HO332.out).2.1)
    (case side3 => repeat (first | exact (Kd.R_reads' HO335.out).2.2 | (with_reducible refine Kd.C_alloc ?_ _) | (with_reducible refine Kd.C_drewN ?_ _) | (with_reducible refine Kd.C_drew ?_)))
    (case side4 => exact (Kd.R_reads' HO335.out).2.1)
    rintro e w23 ⟨rfl, hb⟩
    refine ⟨_, rfl, ?_⟩
    have n0_ := Aside0.mk (Kd.S_below (ks_ HO332.out) hb)
    have n1_ := Aside0.mk (Kd.R_below (kr_ HO335.out) hb)
    have n2_ := Aside0.mk (below_step (bl_) hb)
    clear HO332
    clear HO335
    clear HB
    have HO332 := n0_
    have HO335 := n1_
    have HB := n2_
    clear n0_ n1_ n2_
    (try clear hb)
    (try clear hb2)
    (try clear hk)
    (try clear hi)
    refine hK.out _ _ trivial (fun hHeld => ?_)
    clear hK K
    refine norm_ (a' := ?_) ?_ ?_
    rotate_left
    ·show Act.put _ (some 14) _ = _
     simp only [Act.put, List.setIfInBounds_toArray, List.set_cons_zero, List.set_cons_succ, i64_w, i32_w]
     rfl
    refine pu_ 9 15 HT_.out (h := ?_)
    refine done_ (done_of HT_.out (by kernel_rfl)) ?_
    try go_wp2
    go_roundg k1
    case measure => have := HK1.out; omega
    case rel => exact ⟨(wrap64 (x5_1 + 1)), (by first | rfl | (simp; done) | (simp [*]; done)), H', ⟨by have := HK1.out; omega⟩, ⟨bl_⟩⟩

/-! ### trishawref01_Least: function 19 -/
def trishawref01_Least.f (k : Nat) (l0 : List Int) : Option (Int × Int × Int) := (trishawref01_Shares.f k l0).bind fun bt338 => (if bt338.2 = 0 then ((trishawref01_least.f k l0 bt338.1).bind fun t340 => ((trishawref01_Ratio.f k t340 bt338.1).bind fun bt341 => (some (bt341.1, bt341.2, 0)))) else (some (0, 0, bt338.2)))
theorem trishawref01_Least.mono : ∀ a0 k, LeO (trishawref01_Least.f k a0) (trishawref01_Least.f (k + 1) a0) := by
  intro a0 k
  unfold trishawref01_Least.f
  repeat' first
      | (with_reducible exact trishawref01_Ratio.mono _ _ _)
      | (with_reducible exact trishawref01_Shares.mono _ _)
      | (with_reducible exact trishawref01_least.mono _ _ _)
      | (with_reducible exact LeO.refl _)
      | (with_reducible exact LeO.none _)
      | (with_reducible refine LeO.ite ?_ ?_)
      | (with_reducible refine LeO.bind ?_ (fun _ => ?_))
      | exact trishawref01_Ratio.mono _ _ _
      | exact trishawref01_Shares.mono _ _
      | exact trishawref01_least.mono _ _ _
      | exact LeO.none _
      | refine LeO.ite ?_ ?_
      | refine LeO.bind ?_ (fun _ => ?_)
set_option maxHeartbeats 8000000 in
set_option maxRecDepth 100000 in
theorem trishawref01_Least.calls (k : Nat) (A0 : Option Addr) (c0 : Nat) (l0 : List Int) (r1 : Int) (r2 : Int) (r3 : Int) (w : World) (hr0 : Kd.C (Kd.int .i64) w A0 l0.length l0) (hc0 : l0.length ≤ c0) (h : trishawref01_Least.f k l0 = some (r1, r2, r3)) :
    Calls Tryd.prog 19 #[.slice A0 l0.length c0] w fun e w' => e = .returned (.tuple #[.agg #[.int .i64 r1, .int .i64 r2], .int .i64 r3]) ∧ Below w.heap.size w w' := by
 have hu26 := Tryd.underlying26
 have HR0 := Aside0.mk hr0
 have HC0 := Aside0.mk hc0
 clear hr0 hc0
 have HB := Aside0.mk (Below.refl w.heap.size w)
 have H : ((trishawref01_Shares.f k l0).bind fun bt338 => (if bt338.2 = 0 then ((trishawref01_least.f k l0 bt338.1).bind fun t340 => ((trishawref01_Ratio.f k t340 bt338.1).bind fun bt341 => (some (bt341.1, bt341.2, 0)))) else (some (0, 0, bt338.2)))) = some (r1, r2, r3) := h
 clear h
 replace H := Option.bind_eq_some_iff.mp H
 obtain ⟨⟨t338, t339⟩, A20, H⟩ := H
 replace H : (if t339 = 0 then ((trishawref01_least.f k l0 t338).bind fun t340 => ((trishawref01_Ratio.f k t340 t338).bind fun bt341 => (some (bt341.1, bt341.2, 0)))) else (some (0, 0, t339))) = some (r1, r2, r3) := H
 have A2 := Aside0.mk A20
 clear A20
 by_cases c3 : t339 = 0
 ·rw [if_pos c3] at H
  have c3b0 : (t339 == 0) = true := beq_iff_eq.mpr c3
  have c3b1 : (t339 != 0) = false := bne_eq_false_iff_eq.mpr c3
  clear c3
  replace H := Option.bind_eq_some_iff.mp H
  obtain ⟨t340, A40, H⟩ := H
  replace H : ((trishawref01_Ratio.f k t340 t338).bind fun bt341 => (some (bt341.1, bt341.2, 0))) = some (r1, r2, r3) := H
  have A4 := Aside0.mk A40
  clear A40
  replace H := Option.bind_eq_some_iff.mp H
  obtain ⟨⟨t341, t342⟩, A50, H⟩ := H
  replace H : (some (t341, t342, 0)) = some (r1, r2, r3) := H
  have A5 := Aside0.mk A50
  clear A50
  simp only [Option.some.injEq, Prod.mk.injEq] at H
  obtain ⟨rfl, rfl, rfl⟩ := H
  go_enter Tryd.func19, Tryd.ntmps19
  go_wp2_with (first | ((with_reducible refine gate_dst (N := 2) rfl ?_); refine box_event ?hg (N := 2) ?hd (cs := #[.int .i64 0, .int .i64 0]) (t := 26) ?hr ?_; (case hd => rfl); (case hg => rfl); (case hr => first | (go_simp; done) | (go_simp; rfl)); intro gb337 hg w6 hbox hb; have n0_ := Aside0.mk (below_step (bl_) hb); have n1_ := Aside0.mk (hbox); have n2_ := Aside0.mk ((by rw [hg]; exact (below_size (bl_)) : w.heap.size ≤ gb337)); have n3_ := Aside0.mk ((by rw [hg]; exact (below_size (bl_)) : w.heap.size ≤ gb337)); clear HB; have HB := n0_; have BK337 := n1_; have GW337 := n2_; have GE337 := n3_; clear n0_ n1_ n2_ n3_; clear hb hbox hg) | ((with_reducible refine gate_callee (f := 23) rfl ?_); refine goesL_ (some 8) rfl rfl Tryd.func23 (by kernel_rfl) rfl #[.slice A0 l0.length c0] rfl (as_) ?_; (with_reducible refine (trishawref01_Shares.calls k _ _ l0 t338 t339 _ ?side1 ?side2 A2.out).mono ?_); (case side1 => repeat (first | exact (Kd.C_below HR0.out HB.out) | (with_reducible refine Kd.C_alloc ?_ _) | (with_reducible refine Kd.C_drewN ?_ _) | (with_reducible refine Kd.C_drew ?_))); (case side2 => exact HC0.out); rintro e w' ⟨rfl, ⟨nd, rfl⟩⟩; refine ⟨_, rfl, ?_⟩; (try (rw [drewN_self w6]; generalize hq_ : World.drewN w6 _ = w6; have n0_ : Aside0 (w6.heap[gb337]? = some (.cells #[.int .i64 0, .int .i64 0] 26 (0, 0))) := ⟨by rw [← hq_]; exact (bk_ BK337.out)⟩; have n1_ : Aside0 (Below w.heap.size w w6) := ⟨by rw [← hq_]; exact (bl_)⟩; clear BK337 HB hq_; have BK337 := n0_; have HB := n1_; clear n0_ n1_))) | ((with_reducible refine gate_callee (f := 45) rfl ?_); refine goesL_ (some 17) rfl rfl Tryd.func45 (by kernel_rfl) rfl #[.slice A0 l0.length c0, .int .i64 t338] rfl (as_) ?_; (with_reducible refine (trishawref01_least.calls k _ _ l0 t338 t340 _ ?side1 ?side2 A4.out).mono ?_); (case side1 => repeat (first | exact (Kd.C_below HR0.out HB.out) | (with_reducible refine Kd.C_alloc ?_ _) | (with_reducible refine Kd.C_drewN ?_ _) | (with_reducible refine Kd.C_drew ?_))); (case side2 => exact HC0.out); rintro e w7 ⟨rfl, hb⟩; refine ⟨_, rfl, ?_⟩; have n0_ := Aside0.mk (blk_below (g := gb337) (o := .cells #[.int .i64 0, .int .i64 0] 26 (0, 0)) (bk_ BK337.out) hb); have n1_ := Aside0.mk (below_step (bl_) hb); clear BK337; clear HB; have BK337 := n0_; have HB := n1_; clear n0_ n1_; (try clear hb); (try clear hb2); (try clear hk); (try clear hi)) | ((with_reducible refine gate_callee (f := 38) rfl ?_); refine goesL_ (some 19) rfl rfl Tryd.func38 (by kernel_rfl) rfl #[.int .i64 t340, .int .i64 t338] rfl (as_) ?_; (with_reducible refine (trishawref01_Ratio.calls k t340 t338 t341 t342 _ A5.out).mono ?_); rintro e w8 ⟨rfl, hb⟩; refine ⟨_, rfl, ?_⟩; have n0_ := Aside0.mk (blk_below (g := gb337) (o := .cells #[.int .i64 0, .int .i64 0] 26 (0, 0)) (bk_ BK337.out) hb); have n1_ := Aside0.mk (below_step (bl_) hb); clear BK337; clear HB; have BK337 := n0_; have HB := n1_; clear n0_ n1_; (try clear hb); (try clear hb2); (try clear hk); (try clear hi); have hcz9_0 : w8.cell? ⟨gb337, 0, none⟩ = some (.int .i64 0) := (blk_cell BK337.out 0).trans rfl; have hcz9_1 : w8.cell? ⟨gb337, 1, none⟩ = some (.int .i64 0) := (blk_cell BK337.out 1).trans rfl; have hfz9_0 := blk_frozen BK337.out 0; have hfz9_1 := blk_frozen BK337.out 1))
  refine bodyPost_ret (results_ct rfl _ _ gb337 26 #[.int .i64 t341, .int .i64 t342] (0, 0) _ rfl (by (with_reducible repeat (first | refine blk_drewN ?_ _ | refine blk_drew ?_ | refine blk_alloc ?_ _)); refine blk_put (cs := #[.int .i64 t341, .int .i64 0]) ?_ 1 _ rfl; (with_reducible repeat (first | refine blk_drewN ?_ _ | refine blk_drew ?_ | refine blk_alloc ?_ _)); refine blk_put (cs := #[.int .i64 0, .int .i64 0]) ?_ 0 _ rfl; (with_reducible repeat (first | refine blk_drewN ?_ _ | refine blk_drew ?_ | refine blk_alloc ?_ _)); exact BK337.out) Tryd.underlying26 rfl (by kernel_rfl)) rfl ?_
  exact ⟨by first | rfl | (simp [errW_none, errW_some] <;> rfl) | (simp [*, errW_none, errW_some] <;> rfl), bl_⟩
 ·rw [if_neg c3] at H
  have c3b0 : (t339 == 0) = false := beq_eq_false_iff_ne.mpr c3
  have c3b1 : (t339 != 0) = true := bne_iff_ne.mpr c3
  simp only [Option.some.injEq, Prod.mk.injEq] at H
  obtain ⟨rfl, rfl, rfl⟩ := H
  go_enter Tryd.func19, Tryd.ntmps19
  go_wp2_with (first | ((with_reducible refine gate_dst (N := 2) rfl ?_); refine box_event ?hg (N := 2) ?hd (cs := #[.int .i64 0, .int .i64 0]) (t := 26) ?hr ?_; (case hd => rfl); (case hg => rfl); (case hr => first | (go_simp; done) | (go_simp; rfl)); intro gb337 hg w10 hbox hb; have n0_ := Aside0.mk (below_step (bl_) hb); have n1_ := Aside0.mk (hbox); have n2_ := Aside0.mk ((by rw [hg]; exact (below_size (bl_)) : w.heap.size ≤ gb337)); have n3_ := Aside0.mk ((by rw [hg]; exact (below_size (bl_)) : w.heap.size ≤ gb337)); clear HB; have HB := n0_; have BK337 := n1_; have GW337 := n2_; have GE337 := n3_; clear n0_ n1_ n2_ n3_; clear hb hbox hg) | ((with_reducible refine gate_callee (f := 23) rfl ?_); refine goesL_ (some 8) rfl rfl Tryd.func23 (by kernel_rfl) rfl #[.slice A0 l0.length c0] rfl (as_) ?_; (with_reducible refine (trishawref01_Shares.calls k _ _ l0 t338 t339 _ ?side1 ?side2 A2.out).mono ?_); (case side1 => repeat (first | exact (Kd.C_below HR0.out HB.out) | (with_reducible refine Kd.C_alloc ?_ _) | (with_reducible refine Kd.C_drewN ?_ _) | (with_reducible refine Kd.C_drew ?_))); (case side2 => exact HC0.out); rintro e w' ⟨rfl, ⟨nd, rfl⟩⟩; refine ⟨_, rfl, ?_⟩; (try (rw [drewN_self w10]; generalize hq_ : World.drewN w10 _ = w10; have n0_ : Aside0 (w10.heap[gb337]? = some (.cells #[.int .i64 0, .int .i64 0] 26 (0, 0))) := ⟨by rw [← hq_]; exact (bk_ BK337.out)⟩; have n1_ : Aside0 (Below w.heap.size w w10) := ⟨by rw [← hq_]; exact (bl_)⟩; clear BK337 HB hq_; have BK337 := n0_; have HB := n1_; clear n0_ n1_)); have hcz11_0 : w10.cell? ⟨gb337, 0, none⟩ = some (.int .i64 0) := (blk_cell BK337.out 0).trans rfl; have hcz11_1 : w10.cell? ⟨gb337, 1, none⟩ = some (.int .i64 0) := (blk_cell BK337.out 1).trans rfl; have hfz11_0 := blk_frozen BK337.out 0; have hfz11_1 := blk_frozen BK337.out 1))
  refine bodyPost_ret (results_ct rfl _ _ gb337 26 #[.int .i64 0, .int .i64 0] (0, 0) _ rfl (by (with_reducible repeat (first | refine blk_drewN ?_ _ | refine blk_drew ?_ | refine blk_alloc ?_ _)); refine blk_put (cs := #[.int .i64 0, .int .i64 0]) ?_ 1 _ rfl; (with_reducible repeat (first | refine blk_drewN ?_ _ | refine blk_drew ?_ | refine blk_alloc ?_ _)); refine blk_put (cs := #[.int .i64 0, .int .i64 0]) ?_ 0 _ rfl; (with_reducible repeat (first | refine blk_drewN ?_ _ | refine blk_drew ?_ | refine blk_alloc ?_ _)); exact BK337.out) Tryd.underlying26 rfl (by kernel_rfl)) rfl ?_
  exact ⟨by first | rfl | (simp [errW_none, errW_some] <;> rfl) | (simp [*, errW_none, errW_some] <;> rfl), bl_⟩

end Go.Proofs.YtgobffgogmnmpaaDoor.P
