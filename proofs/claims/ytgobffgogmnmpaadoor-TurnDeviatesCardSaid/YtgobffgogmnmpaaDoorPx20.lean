-- Written by wip/tools/myprint.py of this session's repo, over the kit's printer and hand texts.
import Derived.Test.YtgobffgogmnmpaaDoorPx0
import Derived.Test.YtgobffgogmnmpaaDoorPre
import Derived.Test.YtgobffgogmnmpaaDoorPx1
import Derived.Test.YtgobffgogmnmpaaDoorPx3
import Derived.Test.YtgobffgogmnmpaaDoorPx4
import Derived.Test.YtgobffgogmnmpaaDoorPx8
import Derived.Test.YtgobffgogmnmpaaDoorPx9
import Derived.Test.YtgobffgogmnmpaaDoorPx10
import Derived.Test.YtgobffgogmnmpaaDoorPx18
import Derived.Test.YtgobffgogmnmpaaDoorPx19
namespace Go.Proofs.YtgobffgogmnmpaaDoor.P
open Go.RowKit Go.Proofs.YtgobffgogmnmpaaDoorW.PrintWords Go.Proofs.YtgobffgogmnmpaaDoorW.PrintLast Go.Proofs.YtgobffgogmnmpaaDoorW.PrintMore
attribute [local go_sem] max2_int min2_int max_two min_two max_three min_three max_four min_four   -- for this text's walks alone
set_option linter.unusedVariables false
set_option linter.unusedSimpArgs false

attribute [local go_sem high] eqA26
/-! ### trishawlaw01_TurnDeviates: function 5 -/
def trishawlaw01_TurnDeviates.j0 : Nat → List Int → List Int → List Int → List Int → Bool → Option (Bool)
  | 0, _, _, _, _, _ => none
  | k + 1, x0, x1, x5, x6, x43 => if x43 = true then (some false) else ((turn_Quota.f k x5 x6).bind fun bt485 => ((trishawref01_Quota.f k x0 x1).bind fun bt487 => (if (bt485.1 == bt487.1) = true then (if bt485.2 = bt487.2 then ((trishawlaw01_same.f k x5 x0).bind fun t489 => (if t489 = true then ((trishawlaw01_same.f k x6 x1).bind fun t490 => (if t490 = true then ((trishawlaw01_alive.f k).bind fun t491 => (some t491)) else (some false))) else (some false))) else (some false)) else (some false))))
def trishawlaw01_TurnDeviates.f (k : Nat) (l0 : List Int) (l1 : List Int) : Option (Bool) := (trishawlaw01_few.f l0 l1).bind fun t463 => (if t463 = true then ((some (([] : List Int) : List Int)).bind fun y465 => (if y465.length + l0.length < 17592186044416 then ((some (y465 ++ l0 : List Int)).bind fun y468 => ((some (([] : List Int) : List Int)).bind fun y471 => (if y471.length + l1.length < 17592186044416 then ((some (y471 ++ l1 : List Int)).bind fun y474 => ((turn_Deviation.f k y468 y474).bind fun bt477 => ((trishawref01_Deviation.f k l0 l1).bind fun bt481 => (if (!(bt477.1 == bt481.1) || (!(bt477.2.1 == bt481.2.1))) = true then (trishawlaw01_TurnDeviates.j0 k l0 l1 y468 y474 true) else (trishawlaw01_TurnDeviates.j0 k l0 l1 y468 y474 (bt477.2.2 != bt481.2.2)))))) else (none)))) else (none))) else ((trishawlaw01_alive.f k).bind fun t464 => (some t464)))
theorem trishawlaw01_TurnDeviates.mono_l : ∀ k, (∀ y0 y1 y2 y3 y4, LeO (trishawlaw01_TurnDeviates.j0 k y0 y1 y2 y3 y4) (trishawlaw01_TurnDeviates.j0 (k + 1) y0 y1 y2 y3 y4))
  | 0 => fun _ _ _ _ _ r h => by simp [trishawlaw01_TurnDeviates.j0] at h
  | k + 1 => by
    have ih0 := trishawlaw01_TurnDeviates.mono_l k
    · intro y0 y1 y2 y3 y4
      unfold trishawlaw01_TurnDeviates.j0
      repeat' first
      | (with_reducible exact ih0 _ _ _ _ _)
      | (with_reducible exact trishawlaw01_alive.mono _)
      | (with_reducible exact trishawlaw01_same.mono _ _ _)
      | (with_reducible exact trishawref01_Deviation.mono _ _ _)
      | (with_reducible exact trishawref01_Quota.mono _ _ _)
      | (with_reducible exact turn_Deviation.mono _ _ _)
      | (with_reducible exact turn_Quota.mono _ _ _)
      | (with_reducible exact LeO.refl _)
      | (with_reducible exact LeO.none _)
      | (with_reducible refine LeO.ite ?_ ?_)
      | (with_reducible refine LeO.bind ?_ (fun _ => ?_))
      | exact ih0 _ _ _ _ _
      | exact trishawlaw01_alive.mono _
      | exact trishawlaw01_same.mono _ _ _
      | exact trishawref01_Deviation.mono _ _ _
      | exact trishawref01_Quota.mono _ _ _
      | exact turn_Deviation.mono _ _ _
      | exact turn_Quota.mono _ _ _
      | exact LeO.none _
      | refine LeO.ite ?_ ?_
      | refine LeO.bind ?_ (fun _ => ?_)
theorem trishawlaw01_TurnDeviates.mono : ∀ a0 a1 k, LeO (trishawlaw01_TurnDeviates.f k a0 a1) (trishawlaw01_TurnDeviates.f (k + 1) a0 a1) := by
  intro a0 a1 k
  have ih0 := trishawlaw01_TurnDeviates.mono_l k
  unfold trishawlaw01_TurnDeviates.f
  repeat' first
      | (with_reducible exact ih0 _ _ _ _ _)
      | (with_reducible exact trishawlaw01_alive.mono _)
      | (with_reducible exact trishawlaw01_same.mono _ _ _)
      | (with_reducible exact trishawref01_Deviation.mono _ _ _)
      | (with_reducible exact trishawref01_Quota.mono _ _ _)
      | (with_reducible exact turn_Deviation.mono _ _ _)
      | (with_reducible exact turn_Quota.mono _ _ _)
      | (with_reducible exact LeO.refl _)
      | (with_reducible exact LeO.none _)
      | (with_reducible refine LeO.ite ?_ ?_)
      | (with_reducible refine LeO.bind ?_ (fun _ => ?_))
      | exact ih0 _ _ _ _ _
      | exact trishawlaw01_alive.mono _
      | exact trishawlaw01_same.mono _ _ _
      | exact trishawref01_Deviation.mono _ _ _
      | exact trishawref01_Quota.mono _ _ _
      | exact turn_Deviation.mono _ _ _
      | exact turn_Quota.mono _ _ _
      | exact LeO.none _
      | refine LeO.ite ?_ ?_
      | refine LeO.bind ?_ (fun _ => ?_)
set_option maxHeartbeats 8000000 in
set_option maxRecDepth 100000 in
theorem trishawlaw01_TurnDeviates.calls (k : Nat) (A0 : Option Addr) (c0 : Nat) (l0 : List Int) (A1 : Option Addr) (c1 : Nat) (l1 : List Int) (r : Bool) (w : World) (hr0 : Kd.C (Kd.int .i64) w A0 l0.length l0) (hc0 : l0.length ≤ c0) (hr1 : Kd.C (Kd.int .i64) w A1 l1.length l1) (hc1 : l1.length ≤ c1) (h : trishawlaw01_TurnDeviates.f k l0 l1 = some r) (hN0 : NoneLaid w) (hr_ : r = true) :
    Calls Tryd.prog 5 #[.slice A0 l0.length c0, .slice A1 l1.length c1] w fun e w' => e = .returned (.bool r) ∧ Below w.heap.size w w' := by
 have HN := Aside0.mk hN0
 clear hN0
 have hr := Aside0.mk hr_
 clear hr_
 have hu26 := Tryd.underlying26
 have HR0 := Aside0.mk hr0
 have HC0 := Aside0.mk hc0
 clear hr0 hc0
 have HR1 := Aside0.mk hr1
 have HC1 := Aside0.mk hc1
 clear hr1 hc1
 have HB := Aside0.mk (Below.refl w.heap.size w)
 have H : ((trishawlaw01_few.f l0 l1).bind fun t463 => (if t463 = true then ((some (([] : List Int) : List Int)).bind fun y465 => (if y465.length + l0.length < 17592186044416 then ((some (y465 ++ l0 : List Int)).bind fun y468 => ((some (([] : List Int) : List Int)).bind fun y471 => (if y471.length + l1.length < 17592186044416 then ((some (y471 ++ l1 : List Int)).bind fun y474 => ((turn_Deviation.f k y468 y474).bind fun bt477 => ((trishawref01_Deviation.f k l0 l1).bind fun bt481 => (if (!(bt477.1 == bt481.1) || (!(bt477.2.1 == bt481.2.1))) = true then (trishawlaw01_TurnDeviates.j0 k l0 l1 y468 y474 true) else (trishawlaw01_TurnDeviates.j0 k l0 l1 y468 y474 (bt477.2.2 != bt481.2.2)))))) else (none)))) else (none))) else ((trishawlaw01_alive.f k).bind fun t464 => (some t464)))) = some r := h
 clear h
 replace H := Option.bind_eq_some_iff.mp H
 obtain ⟨t463, A30, H⟩ := H
 replace H : (if t463 = true then ((some (([] : List Int) : List Int)).bind fun y465 => (if y465.length + l0.length < 17592186044416 then ((some (y465 ++ l0 : List Int)).bind fun y468 => ((some (([] : List Int) : List Int)).bind fun y471 => (if y471.length + l1.length < 17592186044416 then ((some (y471 ++ l1 : List Int)).bind fun y474 => ((turn_Deviation.f k y468 y474).bind fun bt477 => ((trishawref01_Deviation.f k l0 l1).bind fun bt481 => (if (!(bt477.1 == bt481.1) || (!(bt477.2.1 == bt481.2.1))) = true then (trishawlaw01_TurnDeviates.j0 k l0 l1 y468 y474 true) else (trishawlaw01_TurnDeviates.j0 k l0 l1 y468 y474 (bt477.2.2 != bt481.2.2)))))) else (none)))) else (none))) else ((trishawlaw01_alive.f k).bind fun t464 => (some t464))) = some r := H
 have A3 := Aside0.mk A30
 clear A30
 by_cases c4 : t463 = true
 ·subst c4
  have H1 : ((some (([] : List Int) : List Int)).bind fun y465 => (if y465.length + l0.length < 17592186044416 then ((some (y465 ++ l0 : List Int)).bind fun y468 => ((some (([] : List Int) : List Int)).bind fun y471 => (if y471.length + l1.length < 17592186044416 then ((some (y471 ++ l1 : List Int)).bind fun y474 => ((turn_Deviation.f k y468 y474).bind fun bt477 => ((trishawref01_Deviation.f k l0 l1).bind fun bt481 => (if (!(bt477.1 == bt481.1) || (!(bt477.2.1 == bt481.2.1))) = true then (trishawlaw01_TurnDeviates.j0 k l0 l1 y468 y474 true) else (trishawlaw01_TurnDeviates.j0 k l0 l1 y468 y474 (bt477.2.2 != bt481.2.2)))))) else (none)))) else (none))) = some r := by rw [if_pos rfl] at H; exact H
  clear H
  have H := H1
  clear H1
  obtain ⟨y465, hy465⟩ : ∃ y_ : List Int, y_ = (([] : List Int)) := ⟨_, rfl⟩
  replace H : (if y465.length + l0.length < 17592186044416 then ((some (y465 ++ l0 : List Int)).bind fun y468 => ((some (([] : List Int) : List Int)).bind fun y471 => (if y471.length + l1.length < 17592186044416 then ((some (y471 ++ l1 : List Int)).bind fun y474 => ((turn_Deviation.f k y468 y474).bind fun bt477 => ((trishawref01_Deviation.f k l0 l1).bind fun bt481 => (if (!(bt477.1 == bt481.1) || (!(bt477.2.1 == bt481.2.1))) = true then (trishawlaw01_TurnDeviates.j0 k l0 l1 y468 y474 true) else (trishawlaw01_TurnDeviates.j0 k l0 l1 y468 y474 (bt477.2.2 != bt481.2.2)))))) else (none)))) else (none)) = some r := by first | (rw [hy465]; with_reducible exact H) | (have H2_ := (Option.bind_some _ _).symm.trans H; rw [hy465]; with_reducible exact H2_) | (have H2_ := (Option.bind_some _ _).symm.trans H; with_reducible exact H2_) | with_reducible exact H | (rw [hy465]; exact H) | exact H
  have Ny465 := Aside0.mk hy465
  clear hy465
  have c5 : y465.length + l0.length < 17592186044416 := fl_ fun c5 => by rw [if_neg c5] at H; exact absurd H (by simp)
  rw [if_pos c5] at H
  have LMc5 := Aside0.mk c5
  clear c5
  obtain ⟨y468, hy468⟩ : ∃ y_ : List Int, y_ = (y465 ++ l0) := ⟨_, rfl⟩
  replace H : ((some (([] : List Int) : List Int)).bind fun y471 => (if y471.length + l1.length < 17592186044416 then ((some (y471 ++ l1 : List Int)).bind fun y474 => ((turn_Deviation.f k y468 y474).bind fun bt477 => ((trishawref01_Deviation.f k l0 l1).bind fun bt481 => (if (!(bt477.1 == bt481.1) || (!(bt477.2.1 == bt481.2.1))) = true then (trishawlaw01_TurnDeviates.j0 k l0 l1 y468 y474 true) else (trishawlaw01_TurnDeviates.j0 k l0 l1 y468 y474 (bt477.2.2 != bt481.2.2)))))) else (none))) = some r := by first | (rw [hy468]; with_reducible exact H) | (have H2_ := (Option.bind_some _ _).symm.trans H; rw [hy468]; with_reducible exact H2_) | (have H2_ := (Option.bind_some _ _).symm.trans H; with_reducible exact H2_) | with_reducible exact H | (rw [hy468]; exact H) | exact H
  have Ny468 := Aside0.mk hy468
  clear hy468
  obtain ⟨y471, hy471⟩ : ∃ y_ : List Int, y_ = (([] : List Int)) := ⟨_, rfl⟩
  replace H : (if y471.length + l1.length < 17592186044416 then ((some (y471 ++ l1 : List Int)).bind fun y474 => ((turn_Deviation.f k y468 y474).bind fun bt477 => ((trishawref01_Deviation.f k l0 l1).bind fun bt481 => (if (!(bt477.1 == bt481.1) || (!(bt477.2.1 == bt481.2.1))) = true then (trishawlaw01_TurnDeviates.j0 k l0 l1 y468 y474 true) else (trishawlaw01_TurnDeviates.j0 k l0 l1 y468 y474 (bt477.2.2 != bt481.2.2)))))) else (none)) = some r := by first | (rw [hy471]; with_reducible exact H) | (have H2_ := (Option.bind_some _ _).symm.trans H; rw [hy471]; with_reducible exact H2_) | (have H2_ := (Option.bind_some _ _).symm.trans H; with_reducible exact H2_) | with_reducible exact H | (rw [hy471]; exact H) | exact H
  have Ny471 := Aside0.mk hy471
  clear hy471
  have c6 : y471.length + l1.length < 17592186044416 := fl_ fun c6 => by rw [if_neg c6] at H; exact absurd H (by simp)
  rw [if_pos c6] at H
  have LMc6 := Aside0.mk c6
  clear c6
  obtain ⟨y474, hy474⟩ : ∃ y_ : List Int, y_ = (y471 ++ l1) := ⟨_, rfl⟩
  replace H : ((turn_Deviation.f k y468 y474).bind fun bt477 => ((trishawref01_Deviation.f k l0 l1).bind fun bt481 => (if (!(bt477.1 == bt481.1) || (!(bt477.2.1 == bt481.2.1))) = true then (trishawlaw01_TurnDeviates.j0 k l0 l1 y468 y474 true) else (trishawlaw01_TurnDeviates.j0 k l0 l1 y468 y474 (bt477.2.2 != bt481.2.2))))) = some r := by first | (rw [hy474]; with_reducible exact H) | (have H2_ := (Option.bind_some _ _).symm.trans H; rw [hy474]; with_reducible exact H2_) | (have H2_ := (Option.bind_some _ _).symm.trans H; with_reducible exact H2_) | with_reducible exact H | (rw [hy474]; exact H) | exact H
  have Ny474 := Aside0.mk hy474
  clear hy474
  replace H := Option.bind_eq_some_iff.mp H
  obtain ⟨⟨t477, t478, t479⟩, A70, H⟩ := H
  replace H : ((trishawref01_Deviation.f k l0 l1).bind fun bt481 => (if (!(t477 == bt481.1) || (!(t478 == bt481.2.1))) = true then (trishawlaw01_TurnDeviates.j0 k l0 l1 y468 y474 true) else (trishawlaw01_TurnDeviates.j0 k l0 l1 y468 y474 (t479 != bt481.2.2)))) = some r := H
  have A7 := Aside0.mk A70
  clear A70
  replace H := Option.bind_eq_some_iff.mp H
  obtain ⟨⟨t481, t482, t483⟩, A80, H⟩ := H
  replace H : (if (!(t477 == t481) || (!(t478 == t482))) = true then (trishawlaw01_TurnDeviates.j0 k l0 l1 y468 y474 true) else (trishawlaw01_TurnDeviates.j0 k l0 l1 y468 y474 (t479 != t483))) = some r := H
  have A8 := Aside0.mk A80
  clear A80
  have HC9 := Aside0.mk H
  clear H
  go_enter Tryd.func5, Tryd.ntmps5
  go_upto_region 6 with (first | ((with_reducible refine gate_callee (f := 16) rfl ?_); refine goesL_ (some 15) rfl rfl Tryd.func16 (by kernel_rfl) rfl #[.slice A0 l0.length c0, .slice A1 l1.length c1] rfl (as_) ?_; (with_reducible refine (trishawlaw01_few.calls _ _ l0 _ _ l1 true _ ?side1 ?side2 ?side3 ?side4 A3.out).mono ?_); (case side1 => repeat (first | exact HR0.out | (with_reducible refine Kd.C_alloc ?_ _) | (with_reducible refine Kd.C_drewN ?_ _) | (with_reducible refine Kd.C_drew ?_))); (case side2 => exact HC0.out); (case side3 => repeat (first | exact HR1.out | (with_reducible refine Kd.C_alloc ?_ _) | (with_reducible refine Kd.C_drewN ?_ _) | (with_reducible refine Kd.C_drew ?_))); (case side4 => exact HC1.out); rintro e w' ⟨rfl, ⟨nd, rfl⟩⟩; refine ⟨_, rfl, ?_⟩) | ((with_reducible refine gate_dst (N := 18) rfl ?_); refine Kd.R_lit (Kd.int .i64) _ 3 ?hg (N := 18) ?hd (xs := ([] : List Int)) (inner := []) (ok := fun _ => True) (okp := fun _ => True) ?hr ?hp (fun _ hk => hk) trivial (Below.refl _ _) (Nat.le_refl _) (by simp) ?_; (case hd => rfl); (case hg => rfl); (case hr => first | (go_simp; done) | (go_simp; rfl)); (case hp => exact (Reps.none _ _)); intro v466 w10 ho11 hb hg_ hnew_; clear hg_ hnew_; (first | rw [← Ny465.out] at ho11 | (simp only [Int.reduceToNat] at ho11; rw [← Ny465.out] at ho11)); have n0_ := Aside0.mk (Kd.R_lower ho11 (below_size (bl_))); have n1_ := Aside0.mk (below_step (bl_) hb); clear HB; have HO467 := n0_; have HB := n1_; clear n0_ n1_; clear hb ho11) | ((with_reducible refine gate_builtin (b := .append) (xs := #[.tmp 18, .tmp 19]) rfl ?_); at_builtin; refine Kd.R_append_rows (Kd.int .i64) (w0 := w) w.heap.size rfl (.tmp 18) (.tmp 19) 22 3 (.int .i64 0) 8 rfl Tryd.underlying22 info3 rfl (by decide) (by omega) v466 y465 l0 _ _ _ (fun _ => True) (fun _ => False) rfl rfl ?aO ?aR (fun _ _ h => h) (fun _ h => h.elim) ?aF ?aB ?aS ?aL ?_; (case aR => repeat (first | exact (Kd.C_below HR0.out HB.out) | (with_reducible refine Kd.C_alloc ?_ _) | (with_reducible refine Kd.C_drewN ?_ _) | (with_reducible refine Kd.C_drew ?_))); (case aB => exact (bl_)); (case aF => exact (fun _ _ => trivial)); (case aO => exact (kr_ HO467.out)); (case aS => exact (below_size (bl_))); (case aL => have := LMc5.out; omega); intro v469 w12 ho hb hg hat; rw [← Ny468.out] at ho; have n0_ := Aside0.mk (hb); have n1_ := Aside0.mk (ho); clear HB; clear HO467; have HB := n0_; have HO470 := n1_; clear n0_ n1_; clear ho hb hg hat) | ((with_reducible refine gate_dst (N := 21) rfl ?_); refine Kd.R_lit (Kd.int .i64) _ 3 ?hg (N := 21) ?hd (xs := ([] : List Int)) (inner := []) (ok := fun _ => True) (okp := fun _ => True) ?hr ?hp (fun _ hk => hk) trivial (Below.refl _ _) (Nat.le_refl _) (by simp) ?_; (case hd => rfl); (case hg => rfl); (case hr => first | (go_simp; done) | (go_simp; rfl)); (case hp => exact (Reps.none _ _)); intro v472 w13 ho14 hb hg_ hnew_; clear hg_ hnew_; (first | rw [← Ny471.out] at ho14 | (simp only [Int.reduceToNat] at ho14; rw [← Ny471.out] at ho14)); have n0_ := Aside0.mk (Kd.R_elder' (kr_ HO470.out) (Kd.R_base ho14) hb); have n1_ := Aside0.mk (Kd.R_lower (Kd.R_new' ho14 (Kd.R_lt (kr_ HO470.out))) (below_size (bl_))); have n2_ := Aside0.mk (below_step (bl_) hb); clear HO470; clear HB; have HO470 := n0_; have HO473 := n1_; have HB := n2_; clear n0_ n1_ n2_; clear hb ho14) | ((with_reducible refine gate_builtin (b := .append) (xs := #[.tmp 21, .tmp 22]) rfl ?_); at_builtin; refine Kd.R_append_rows (Kd.int .i64) (w0 := w) w.heap.size rfl (.tmp 21) (.tmp 22) 22 3 (.int .i64 0) 8 rfl Tryd.underlying22 info3 rfl (by decide) (by omega) v472 y471 l1 _ _ _ (fun k_ => some k_ ≠ (v469 : Value).ownBlock) (fun _ => False) rfl rfl ?aO ?aR (fun _ _ h => h) (fun _ h => h.elim) ?aF ?aB ?aS ?aL ?_; (case aR => repeat (first | exact (Kd.C_below HR1.out HB.out) | (with_reducible refine Kd.C_alloc ?_ _) | (with_reducible refine Kd.C_drewN ?_ _) | (with_reducible refine Kd.C_drew ?_))); (case aB => exact (bl_)); (case aF => exact (fun k_ hk => Kd.fresh' (Kd.R_lt (kr_ HO470.out)) k_ hk)); (case aO => exact (by (with_reducible repeat (first | apply Kd.R_alloc | apply Kd.R_drewN | apply Kd.R_drew)); exact Kd.R_mono HO473.out (fun _ hk => hk.2))); (case aS => exact (below_size (bl_))); (case aL => have := LMc6.out; omega); intro v475 w15 ho hb hg hat; rw [← Ny474.out] at ho; have n0_ := Aside0.mk (Kd.R_after (ok := (fun _ => True)) (kr_ HO470.out) hg hat); have n1_ := Aside0.mk (hb); have n2_ := Aside0.mk (ho); clear HO470; clear HB; clear HO473; have HO470 := n0_; have HB := n1_; have HO476 := n2_; clear n0_ n1_ n2_; clear ho hb hg hat; obtain ⟨Ao16, co16, eo16⟩ := Kd.R_slice HO470.out; subst eo16; obtain ⟨Ao17, co17, eo17⟩ := Kd.R_slice HO476.out; subst eo17) | ((with_reducible refine gate_callee (f := 25) rfl ?_); refine goesL_ (some 27) rfl rfl Tryd.func25 (by kernel_rfl) rfl #[.slice Ao16 y468.length co16, .slice Ao17 y474.length co17] rfl (as_) ?_; (with_reducible refine (turn_Deviation.calls k _ _ y468 _ _ y474 t477 t478 t479 _ ?side1 ?side2 ?side3 ?side4 A7.out).mono ?_); (case side1 => repeat (first | exact (Kd.R_reads' HO470.out).2.2 | (with_reducible refine Kd.C_alloc ?_ _) | (with_reducible refine Kd.C_drewN ?_ _) | (with_reducible refine Kd.C_drew ?_))); (case side2 => exact (Kd.R_reads' HO470.out).2.1); (case side3 => repeat (first | exact (Kd.R_reads' HO476.out).2.2 | (with_reducible refine Kd.C_alloc ?_ _) | (with_reducible refine Kd.C_drewN ?_ _) | (with_reducible refine Kd.C_drew ?_))); (case side4 => exact (Kd.R_reads' HO476.out).2.1); rintro e w18 ⟨rfl, hb⟩; refine ⟨_, rfl, ?_⟩; have n0_ := Aside0.mk (Kd.R_below (kr_ HO470.out) hb); have n1_ := Aside0.mk (Kd.R_below (kr_ HO476.out) hb); have n2_ := Aside0.mk (below_step (bl_) hb); clear HO470; clear HO476; clear HB; have HO470 := n0_; have HO476 := n1_; have HB := n2_; clear n0_ n1_ n2_; (try clear hb); (try clear hb2); (try clear hk); (try clear hi)) | ((with_reducible refine gate_dst (N := 7) rfl ?_); refine box_event ?hg (N := 7) ?hd (cs := #[.int .i64 0, .int .i64 0]) (t := 26) ?hr ?_; (case hd => rfl); (case hg => rfl); (case hr => first | (go_simp; done) | (go_simp; rfl)); intro gb480 hg w19 hbox hb; have n0_ := Aside0.mk (Kd.R_below (kr_ HO470.out) hb); have n1_ := Aside0.mk (Kd.R_below (kr_ HO476.out) hb); have n2_ := Aside0.mk (below_step (bl_) hb); have n3_ := Aside0.mk (hbox); have n4_ := Aside0.mk ((by rw [hg]; exact (below_size (bl_)) : w.heap.size ≤ gb480)); have n5_ := Aside0.mk ((by rw [hg]; exact (below_size (bl_)) : w.heap.size ≤ gb480)); clear HO470; clear HO476; clear HB; have HO470 := n0_; have HO476 := n1_; have HB := n2_; have BK480 := n3_; have GW480 := n4_; have GE480 := n5_; clear n0_ n1_ n2_ n3_ n4_ n5_; clear hb hbox hg; have hcz20_0 : w19.cell? ⟨gb480, 0, none⟩ = some (.int .i64 0) := (blk_cell BK480.out 0).trans rfl; have hcz20_1 : w19.cell? ⟨gb480, 1, none⟩ = some (.int .i64 0) := (blk_cell BK480.out 1).trans rfl; have hfz20_0 := blk_frozen BK480.out 0; have hfz20_1 := blk_frozen BK480.out 1) | ((with_reducible refine gate_callee (f := 28) rfl ?_); refine goesL_ (some 33) rfl rfl Tryd.func28 (by kernel_rfl) rfl #[.slice A0 l0.length c0, .slice A1 l1.length c1] rfl (as_) ?_; (with_reducible refine (trishawref01_Deviation.calls k _ _ l0 _ _ l1 t481 t482 t483 _ ?side1 ?side2 ?side3 ?side4 A8.out).mono ?_); (case side1 => exact Kd.C_below HR0.out (bl_)); (case side2 => exact HC0.out); (case side3 => exact Kd.C_below HR1.out (bl_)); (case side4 => exact HC1.out); rintro e w21 ⟨rfl, hb⟩; refine ⟨_, rfl, ?_⟩; have n0_ := Aside0.mk (Kd.R_below (by (with_reducible repeat (first | apply Kd.R_alloc | apply Kd.R_drewN | apply Kd.R_drew)); exact (Kd.R_mono (Kd.R_far (p := ⟨gb480, 1, none⟩) (Kd.R_far (p := ⟨gb480, 0, none⟩) (Kd.R_types HO470.out BK480.out (by decide)) (fun _ hk => hk.2) (.int .i64 t477)) (fun _ hk => hk.2) (.int .i64 t478)) (fun _ h_ => h_.1))) hb); have n1_ := Aside0.mk (Kd.R_below (by (with_reducible repeat (first | apply Kd.R_alloc | apply Kd.R_drewN | apply Kd.R_drew)); exact (Kd.R_mono (Kd.R_far (p := ⟨gb480, 1, none⟩) (Kd.R_far (p := ⟨gb480, 0, none⟩) (Kd.R_types HO476.out BK480.out (by decide)) (fun _ hk => hk.2) (.int .i64 t477)) (fun _ hk => hk.2) (.int .i64 t478)) (fun _ h_ => h_.1))) hb); have n2_ := Aside0.mk (blk_below (g := gb480) (o := .cells #[.int .i64 t477, .int .i64 t478] 26 (0, 0)) (by (with_reducible repeat (first | refine blk_drewN ?_ _ | refine blk_drew ?_ | refine blk_alloc ?_ _)); refine blk_put (cs := #[.int .i64 t477, .int .i64 0]) ?_ 1 _ rfl; (with_reducible repeat (first | refine blk_drewN ?_ _ | refine blk_drew ?_ | refine blk_alloc ?_ _)); refine blk_put (cs := #[.int .i64 0, .int .i64 0]) ?_ 0 _ rfl; (with_reducible repeat (first | refine blk_drewN ?_ _ | refine blk_drew ?_ | refine blk_alloc ?_ _)); exact BK480.out) hb); have n3_ := Aside0.mk (below_step (bl_) hb); clear HO470; clear HO476; clear BK480; clear HB; have HO470 := n0_; have HO476 := n1_; have BK480 := n2_; have HB := n3_; clear n0_ n1_ n2_ n3_; (try clear hb); (try clear hb2); (try clear hk); (try clear hi)) | ((with_reducible refine gate_dst (N := 9) rfl ?_); refine box_event ?hg (N := 9) ?hd (cs := #[.int .i64 0, .int .i64 0]) (t := 26) ?hr ?_; (case hd => rfl); (case hg => rfl); (case hr => first | (go_simp; done) | (go_simp; rfl)); intro gb484 hg w22 hbox hb; have n0_ := Aside0.mk (Kd.R_below (kr_ HO470.out) hb); have n1_ := Aside0.mk (Kd.R_below (kr_ HO476.out) hb); have n2_ := Aside0.mk (blk_below (g := gb480) (o := .cells #[.int .i64 t477, .int .i64 t478] 26 (0, 0)) (bk_ BK480.out) hb); have n3_ := Aside0.mk (below_step (bl_) hb); have n4_ := Aside0.mk (hbox); have n5_ := Aside0.mk ((by rw [hg]; exact (below_size (bl_)) : w.heap.size ≤ gb484)); have n6_ := Aside0.mk ((by rw [hg]; exact (below_size (bl_)) : w.heap.size ≤ gb484)); have n7_ := Aside0.mk ((by rw [hg]; exact Nat.ne_of_lt (blk_lt (g := gb480) (o := .cells #[.int .i64 t477, .int .i64 t478] 26 (0, 0)) (bk_ BK480.out)) : gb480 ≠ gb484)); have n8_ := Aside0.mk ((by rw [hg]; exact Nat.ne_of_gt (blk_lt (g := gb480) (o := .cells #[.int .i64 t477, .int .i64 t478] 26 (0, 0)) (bk_ BK480.out)) : gb484 ≠ gb480)); clear HO470; clear HO476; clear BK480; clear HB; have HO470 := n0_; have HO476 := n1_; have BK480 := n2_; have HB := n3_; have BK484 := n4_; have GW484 := n5_; have GE484 := n6_; have NB480_484 := n7_; have NB484_480 := n8_; clear n0_ n1_ n2_ n3_ n4_ n5_ n6_ n7_ n8_; clear hb hbox hg; have hnb23 := NB484_480.out; have hnc23 := NB480_484.out; have hcz24_0 : w22.cell? ⟨gb484, 0, none⟩ = some (.int .i64 0) := (blk_cell BK484.out 0).trans rfl; have hcz24_1 : w22.cell? ⟨gb484, 1, none⟩ = some (.int .i64 0) := (blk_cell BK484.out 1).trans rfl; have hfz24_0 := blk_frozen BK484.out 0; have hfz24_1 := blk_frozen BK484.out 1))
  (try simp only [Act.put, List.setIfInBounds_toArray, List.set_cons_zero, List.set_cons_succ])
  go_cut [43] (fun v43 wc => ∃ (kq : Nat) (x43_8 : Bool), v43 = .bool x43_8 ∧ Aside0 (trishawlaw01_TurnDeviates.j0 kq l0 l1 y468 y474 x43_8 = some r) ∧ Aside0 (kq ≤ k) ∧ Aside0 (Kd.R (Kd.int .i64) 3 wc w.heap.size (fun k_ => some k_ ≠ ((.slice Ao17 y474.length co17) : Value).ownBlock) (.slice Ao16 y468.length co16) y468) ∧ Aside0 (Kd.R (Kd.int .i64) 3 wc w.heap.size (fun k_ => some k_ ≠ ((.slice Ao16 y468.length co16) : Value).ownBlock) (.slice Ao17 y474.length co17) y474) ∧ Aside0 (wc.heap[gb480]? = some (.cells #[.int .i64 t477, .int .i64 t478] 26 (0, 0))) ∧ Aside0 (wc.heap[gb484]? = some (.cells #[.int .i64 t481, .int .i64 t482] 26 (0, 0))) ∧ Aside0 (Below w.heap.size w wc))
  case first =>
   have H := HC9.out
   clear HC9
   by_cases c25 : (!(t477 == t481) || (!(t478 == t482))) = true
   ·rw [if_pos c25] at H
    have c25b0 : (!(t477 == t481) || (!(t478 == t482))) = true := c25
    clear c25
    (first | rw [c25b0] | (simp only [i64_w, i32_w]; rw [c25b0]) | skip)
    have H' := Aside0.mk H
    clear H
    have hnb26 := NB480_484.out
    have hnc26 := NB484_480.out
    have hcz27_0 : w22.cell? ⟨gb480, 0, none⟩ = some (.int .i64 t477) := (blk_cell BK480.out 0).trans rfl
    have hcz27_1 : w22.cell? ⟨gb480, 1, none⟩ = some (.int .i64 t478) := (blk_cell BK480.out 1).trans rfl
    have hfz27_0 := blk_frozen BK480.out 0
    have hfz27_1 := blk_frozen BK480.out 1
    have hcz28_0 : w22.cell? ⟨gb484, 0, none⟩ = some (.int .i64 0) := (blk_cell BK484.out 0).trans rfl
    have hcz28_1 : w22.cell? ⟨gb484, 1, none⟩ = some (.int .i64 0) := (blk_cell BK484.out 1).trans rfl
    have hfz28_0 := blk_frozen BK484.out 0
    have hfz28_1 := blk_frozen BK484.out 1
    go_wp2
    go_meet
    case rel => exact ⟨_, (true), (by first | rfl | (simp; done) | (simp [*]; done)), H', ⟨by first | omega | exact Nat.le_refl _⟩, ⟨by (with_reducible repeat (first | apply Kd.R_alloc | apply Kd.R_drewN | apply Kd.R_drew)); exact Kd.R_mono (Kd.R_far (p := ⟨gb484, 1, none⟩) (Kd.R_far (p := ⟨gb484, 0, none⟩) (Kd.R_types HO470.out BK484.out (by decide)) (fun _ hk => hk.2) (.int .i64 t481)) (fun _ hk => hk.2) (.int .i64 t482)) (fun _ hk => hk.1.2)⟩, ⟨by (with_reducible repeat (first | apply Kd.R_alloc | apply Kd.R_drewN | apply Kd.R_drew)); exact Kd.R_mono (Kd.R_far (p := ⟨gb484, 1, none⟩) (Kd.R_far (p := ⟨gb484, 0, none⟩) (Kd.R_types HO476.out BK484.out (by decide)) (fun _ hk => hk.2) (.int .i64 t481)) (fun _ hk => hk.2) (.int .i64 t482)) (fun _ hk => hk.1)⟩, ⟨by (with_reducible repeat (first | refine blk_drewN ?_ _ | refine blk_drew ?_ | refine blk_alloc ?_ _)); refine blk_far ?_ NB480_484.out _; (with_reducible repeat (first | refine blk_drewN ?_ _ | refine blk_drew ?_ | refine blk_alloc ?_ _)); refine blk_far ?_ NB480_484.out _; (with_reducible repeat (first | refine blk_drewN ?_ _ | refine blk_drew ?_ | refine blk_alloc ?_ _)); exact BK480.out⟩, ⟨by (with_reducible repeat (first | refine blk_drewN ?_ _ | refine blk_drew ?_ | refine blk_alloc ?_ _)); refine blk_put (cs := #[.int .i64 t481, .int .i64 0]) ?_ 1 _ rfl; (with_reducible repeat (first | refine blk_drewN ?_ _ | refine blk_drew ?_ | refine blk_alloc ?_ _)); refine blk_put (cs := #[.int .i64 0, .int .i64 0]) ?_ 0 _ rfl; (with_reducible repeat (first | refine blk_drewN ?_ _ | refine blk_drew ?_ | refine blk_alloc ?_ _)); exact BK484.out⟩, ⟨bl_⟩⟩
   ·rw [if_neg c25] at H
    have c25b0 : (!(t477 == t481) || (!(t478 == t482))) = false := by simpa using c25
    clear c25
    (first | rw [c25b0] | (simp only [i64_w, i32_w]; rw [c25b0]) | skip)
    have H' := Aside0.mk H
    clear H
    have hnb29 := NB480_484.out
    have hnc29 := NB484_480.out
    have hcz30_0 : w22.cell? ⟨gb480, 0, none⟩ = some (.int .i64 t477) := (blk_cell BK480.out 0).trans rfl
    have hcz30_1 : w22.cell? ⟨gb480, 1, none⟩ = some (.int .i64 t478) := (blk_cell BK480.out 1).trans rfl
    have hfz30_0 := blk_frozen BK480.out 0
    have hfz30_1 := blk_frozen BK480.out 1
    have hcz31_0 : w22.cell? ⟨gb484, 0, none⟩ = some (.int .i64 0) := (blk_cell BK484.out 0).trans rfl
    have hcz31_1 : w22.cell? ⟨gb484, 1, none⟩ = some (.int .i64 0) := (blk_cell BK484.out 1).trans rfl
    have hfz31_0 := blk_frozen BK484.out 0
    have hfz31_1 := blk_frozen BK484.out 1
    go_wp2
    go_meet
    case rel => exact ⟨_, ((t479 != t483)), (by first | rfl | (simp; done) | (simp [*]; done)), H', ⟨by first | omega | exact Nat.le_refl _⟩, ⟨by (with_reducible repeat (first | apply Kd.R_alloc | apply Kd.R_drewN | apply Kd.R_drew)); exact Kd.R_mono (Kd.R_far (p := ⟨gb484, 1, none⟩) (Kd.R_far (p := ⟨gb484, 0, none⟩) (Kd.R_types HO470.out BK484.out (by decide)) (fun _ hk => hk.2) (.int .i64 t481)) (fun _ hk => hk.2) (.int .i64 t482)) (fun _ hk => hk.1.2)⟩, ⟨by (with_reducible repeat (first | apply Kd.R_alloc | apply Kd.R_drewN | apply Kd.R_drew)); exact Kd.R_mono (Kd.R_far (p := ⟨gb484, 1, none⟩) (Kd.R_far (p := ⟨gb484, 0, none⟩) (Kd.R_types HO476.out BK484.out (by decide)) (fun _ hk => hk.2) (.int .i64 t481)) (fun _ hk => hk.2) (.int .i64 t482)) (fun _ hk => hk.1)⟩, ⟨by (with_reducible repeat (first | refine blk_drewN ?_ _ | refine blk_drew ?_ | refine blk_alloc ?_ _)); refine blk_far ?_ NB480_484.out _; (with_reducible repeat (first | refine blk_drewN ?_ _ | refine blk_drew ?_ | refine blk_alloc ?_ _)); refine blk_far ?_ NB480_484.out _; (with_reducible repeat (first | refine blk_drewN ?_ _ | refine blk_drew ?_ | refine blk_alloc ?_ _)); exact BK480.out⟩, ⟨by (with_reducible repeat (first | refine blk_drewN ?_ _ | refine blk_drew ?_ | refine blk_alloc ?_ _)); refine blk_put (cs := #[.int .i64 t481, .int .i64 0]) ?_ 1 _ rfl; (with_reducible repeat (first | refine blk_drewN ?_ _ | refine blk_drew ?_ | refine blk_alloc ?_ _)); refine blk_put (cs := #[.int .i64 0, .int .i64 0]) ?_ 0 _ rfl; (with_reducible repeat (first | refine blk_drewN ?_ _ | refine blk_drew ?_ | refine blk_alloc ?_ _)); exact BK484.out⟩, ⟨bl_⟩⟩
  case rest =>
   clear HC9
   try clear c1
   try clear c2
   try clear p2
   try clear c4
   try clear c5
   try clear c6
   try clear c16
   try clear c23
   try clear c25
   try clear c25b0
   try clear c26
   try clear c28
   try clear c29
   try clear hcz20_0
   try clear hcz20_1
   try clear hcz24_0
   try clear hcz24_1
   try clear hcz27_0
   try clear hcz27_1
   try clear hcz28_0
   try clear hcz28_1
   try clear hcz30_0
   try clear hcz30_1
   try clear hcz31_0
   try clear hcz31_1
   try clear hfz20_0
   try clear hfz20_1
   try clear hfz24_0
   try clear hfz24_1
   try clear hfz27_0
   try clear hfz27_1
   try clear hfz28_0
   try clear hfz28_1
   try clear hfz30_0
   try clear hfz30_1
   try clear hfz31_0
   try clear hfz31_1
   obtain ⟨kq, x43_8, rfl, HA, HJ8, HO_5, HO_6, BK480, BK484, HB⟩ := hcut
   cases kq with
   | zero => exact absurd HA.out (by simp [trishawlaw01_TurnDeviates.j0])
   | succ kj8 =>
    have H := HA.out
    clear HA
    simp only [trishawlaw01_TurnDeviates.j0] at H
    by_cases c32 : x43_8 = true
    ·subst c32
     have H1 : (some false) = some r := by rw [if_pos rfl] at H; exact H
     clear H
     have H := H1
     clear H1
     exact absurd (Option.some.inj (H.trans (congrArg some hr.out))) (by decide)
    ·replace c32 := Bool.eq_false_iff.mpr c32
     subst c32
     have H1 : ((turn_Quota.f kj8 y468 y474).bind fun bt485 => ((trishawref01_Quota.f kj8 l0 l1).bind fun bt487 => (if (bt485.1 == bt487.1) = true then (if bt485.2 = bt487.2 then ((trishawlaw01_same.f kj8 y468 l0).bind fun t489 => (if t489 = true then ((trishawlaw01_same.f kj8 y474 l1).bind fun t490 => (if t490 = true then ((trishawlaw01_alive.f kj8).bind fun t491 => (some t491)) else (some false))) else (some false))) else (some false)) else (some false)))) = some r := by rw [if_neg (show ¬ (false = true) by decide)] at H; exact H
     clear H
     have H := H1
     clear H1
     replace H := Option.bind_eq_some_iff.mp H
     obtain ⟨⟨t485, t486⟩, A330, H⟩ := H
     replace H : ((trishawref01_Quota.f kj8 l0 l1).bind fun bt487 => (if (t485 == bt487.1) = true then (if t486 = bt487.2 then ((trishawlaw01_same.f kj8 y468 l0).bind fun t489 => (if t489 = true then ((trishawlaw01_same.f kj8 y474 l1).bind fun t490 => (if t490 = true then ((trishawlaw01_alive.f kj8).bind fun t491 => (some t491)) else (some false))) else (some false))) else (some false)) else (some false))) = some r := H
     have A33 := Aside0.mk A330
     clear A330
     replace H := Option.bind_eq_some_iff.mp H
     obtain ⟨⟨t487, t488⟩, A340, H⟩ := H
     replace H : (if (t485 == t487) = true then (if t486 = t488 then ((trishawlaw01_same.f kj8 y468 l0).bind fun t489 => (if t489 = true then ((trishawlaw01_same.f kj8 y474 l1).bind fun t490 => (if t490 = true then ((trishawlaw01_alive.f kj8).bind fun t491 => (some t491)) else (some false))) else (some false))) else (some false)) else (some false)) = some r := H
     have A34 := Aside0.mk A340
     clear A340
     by_cases c35 : (t485 == t487) = true
     ·rw [if_pos c35] at H
      have c35b0 : (t485 == t487) = true := c35
      (try (have c35b1 : decide (t485 = t487) = true := by simpa using c35))
      (try (have c35b2 : (t485 == t487) = true := by simpa using c35))
      clear c35
      by_cases c36 : t486 = t488
      ·rw [if_pos c36] at H
       have c36b0 : (t486 == t488) = true := beq_iff_eq.mpr c36
       have c36b1 : (t486 != t488) = false := bne_eq_false_iff_eq.mpr c36
       clear c36
       replace H := Option.bind_eq_some_iff.mp H
       obtain ⟨t489, A370, H⟩ := H
       replace H : (if t489 = true then ((trishawlaw01_same.f kj8 y474 l1).bind fun t490 => (if t490 = true then ((trishawlaw01_alive.f kj8).bind fun t491 => (some t491)) else (some false))) else (some false)) = some r := H
       have A37 := Aside0.mk A370
       clear A370
       by_cases c38 : t489 = true
       ·subst c38
        have H1 : ((trishawlaw01_same.f kj8 y474 l1).bind fun t490 => (if t490 = true then ((trishawlaw01_alive.f kj8).bind fun t491 => (some t491)) else (some false))) = some r := by rw [if_pos rfl] at H; exact H
        clear H
        have H := H1
        clear H1
        replace H := Option.bind_eq_some_iff.mp H
        obtain ⟨t490, A390, H⟩ := H
        replace H : (if t490 = true then ((trishawlaw01_alive.f kj8).bind fun t491 => (some t491)) else (some false)) = some r := H
        have A39 := Aside0.mk A390
        clear A390
        by_cases c40 : t490 = true
        ·subst c40
         have H1 : ((trishawlaw01_alive.f kj8).bind fun t491 => (some t491)) = some r := by rw [if_pos rfl] at H; exact H
         clear H
         have H := H1
         clear H1
         replace H := Option.bind_eq_some_iff.mp H
         obtain ⟨t491, A410, H⟩ := H
         replace H : (some t491) = some r := H
         have A41 := Aside0.mk A410
         clear A410
         obtain rfl := Option.some.inj H
         go_wp2_with (first | ((with_reducible refine gate_callee (f := 29) rfl ?_); refine goesL_ (some 47) rfl rfl Tryd.func29 (by kernel_rfl) rfl #[.slice Ao16 y468.length co16, .slice Ao17 y474.length co17] rfl (as_) ?_; (with_reducible refine (turn_Quota.calls kj8 _ _ y468 _ _ y474 t485 t486 _ ?side1 ?side2 ?side3 ?side4 A33.out).mono ?_); (case side1 => repeat (first | exact (Kd.R_reads' HO_5.out).2.2 | (with_reducible refine Kd.C_alloc ?_ _) | (with_reducible refine Kd.C_drewN ?_ _) | (with_reducible refine Kd.C_drew ?_))); (case side2 => exact (Kd.R_reads' HO_5.out).2.1); (case side3 => repeat (first | exact (Kd.R_reads' HO_6.out).2.2 | (with_reducible refine Kd.C_alloc ?_ _) | (with_reducible refine Kd.C_drewN ?_ _) | (with_reducible refine Kd.C_drew ?_))); (case side4 => exact (Kd.R_reads' HO_6.out).2.1); rintro e w42 ⟨rfl, hb⟩; refine ⟨_, rfl, ?_⟩; have n0_ := Aside0.mk (Kd.R_below (kr_ HO_5.out) hb); have n1_ := Aside0.mk (Kd.R_below (kr_ HO_6.out) hb); have n2_ := Aside0.mk (blk_below (g := gb480) (o := .cells #[.int .i64 t477, .int .i64 t478] 26 (0, 0)) (bk_ BK480.out) hb); have n3_ := Aside0.mk (blk_below (g := gb484) (o := .cells #[.int .i64 t481, .int .i64 t482] 26 (0, 0)) (bk_ BK484.out) hb); have n4_ := Aside0.mk (below_step (bl_) hb); clear HO_5; clear HO_6; clear BK480; clear BK484; clear HB; have HO_5 := n0_; have HO_6 := n1_; have BK480 := n2_; have BK484 := n3_; have HB := n4_; clear n0_ n1_ n2_ n3_ n4_; (try clear hb); (try clear hb2); (try clear hk); (try clear hi)) | ((with_reducible refine gate_callee (f := 30) rfl ?_); refine goesL_ (some 53) rfl rfl Tryd.func30 (by kernel_rfl) rfl #[.slice A0 l0.length c0, .slice A1 l1.length c1] rfl (as_) ?_; (with_reducible refine (trishawref01_Quota.calls kj8 _ _ l0 _ _ l1 t487 t488 _ ?side1 ?side2 ?side3 ?side4 A34.out).mono ?_); (case side1 => repeat (first | exact (Kd.C_below HR0.out HB.out) | (with_reducible refine Kd.C_alloc ?_ _) | (with_reducible refine Kd.C_drewN ?_ _) | (with_reducible refine Kd.C_drew ?_))); (case side2 => exact HC0.out); (case side3 => repeat (first | exact (Kd.C_below HR1.out HB.out) | (with_reducible refine Kd.C_alloc ?_ _) | (with_reducible refine Kd.C_drewN ?_ _) | (with_reducible refine Kd.C_drew ?_))); (case side4 => exact HC1.out); rintro e w43 ⟨rfl, hb⟩; refine ⟨_, rfl, ?_⟩; have n0_ := Aside0.mk (Kd.R_below (kr_ HO_5.out) hb); have n1_ := Aside0.mk (Kd.R_below (kr_ HO_6.out) hb); have n2_ := Aside0.mk (blk_below (g := gb480) (o := .cells #[.int .i64 t477, .int .i64 t478] 26 (0, 0)) (bk_ BK480.out) hb); have n3_ := Aside0.mk (blk_below (g := gb484) (o := .cells #[.int .i64 t481, .int .i64 t482] 26 (0, 0)) (bk_ BK484.out) hb); have n4_ := Aside0.mk (below_step (bl_) hb); clear HO_5; clear HO_6; clear BK480; clear BK484; clear HB; have HO_5 := n0_; have HO_6 := n1_; have BK480 := n2_; have BK484 := n3_; have HB := n4_; clear n0_ n1_ n2_ n3_ n4_; (try clear hb); (try clear hb2); (try clear hk); (try clear hi)) | (go_at_call 22; (with_reducible refine (trishawlaw01_same.calls kj8 _ _ y468 _ _ l0 true _ ?side1 ?side2 ?side3 ?side4 A37.out).mono ?_); (case side1 => repeat (first | exact (Kd.R_reads' HO_5.out).2.2 | (with_reducible refine Kd.C_alloc ?_ _) | (with_reducible refine Kd.C_drewN ?_ _) | (with_reducible refine Kd.C_drew ?_))); (case side2 => exact (Kd.R_reads' HO_5.out).2.1); (case side3 => repeat (first | exact (Kd.C_below HR0.out HB.out) | (with_reducible refine Kd.C_alloc ?_ _) | (with_reducible refine Kd.C_drewN ?_ _) | (with_reducible refine Kd.C_drew ?_))); (case side4 => exact HC0.out); rintro e w' ⟨rfl, ⟨nd, rfl⟩⟩) | (go_at_call 22; (with_reducible refine (trishawlaw01_same.calls kj8 _ _ y474 _ _ l1 true _ ?side1 ?side2 ?side3 ?side4 A39.out).mono ?_); (case side1 => repeat (first | exact (Kd.R_reads' HO_6.out).2.2 | (with_reducible refine Kd.C_alloc ?_ _) | (with_reducible refine Kd.C_drewN ?_ _) | (with_reducible refine Kd.C_drew ?_))); (case side2 => exact (Kd.R_reads' HO_6.out).2.1); (case side3 => repeat (first | exact (Kd.C_below HR1.out (bl_)) | (with_reducible refine Kd.C_alloc ?_ _) | (with_reducible refine Kd.C_drewN ?_ _) | (with_reducible refine Kd.C_drew ?_))); (case side4 => exact HC1.out); rintro e w' ⟨rfl, ⟨nd, rfl⟩⟩) | (go_at_call 17; (with_reducible refine (trishawlaw01_alive.calls kj8  t491 _ A41.out (HN.out.of (bl_))).mono ?_); rintro e w44 ⟨rfl, hb⟩; have n0_ := Aside0.mk (Kd.R_below (kr_ HO_5.out) hb); have n1_ := Aside0.mk (Kd.R_below (kr_ HO_6.out) hb); have n2_ := Aside0.mk (blk_below (g := gb480) (o := .cells #[.int .i64 t477, .int .i64 t478] 26 (0, 0)) (bk_ BK480.out) hb); have n3_ := Aside0.mk (blk_below (g := gb484) (o := .cells #[.int .i64 t481, .int .i64 t482] 26 (0, 0)) (bk_ BK484.out) hb); have n4_ := Aside0.mk (below_step (bl_) hb); clear HO_5; clear HO_6; clear BK480; clear BK484; clear HB; have HO_5 := n0_; have HO_6 := n1_; have BK480 := n2_; have BK484 := n3_; have HB := n4_; clear n0_ n1_ n2_ n3_ n4_; (try clear hb); (try clear hb2); (try clear hk); (try clear hi)))
         go_ret
         exact ⟨by first | rfl | (simp [errW_none, errW_some] <;> rfl) | (simp [*, errW_none, errW_some] <;> rfl), bl_⟩
        ·replace c40 := Bool.eq_false_iff.mpr c40
         subst c40
         have H1 : (some false) = some r := by rw [if_neg (show ¬ (false = true) by decide)] at H; exact H
         clear H
         have H := H1
         clear H1
         exact absurd (Option.some.inj (H.trans (congrArg some hr.out))) (by decide)
       ·replace c38 := Bool.eq_false_iff.mpr c38
        subst c38
        have H1 : (some false) = some r := by rw [if_neg (show ¬ (false = true) by decide)] at H; exact H
        clear H
        have H := H1
        clear H1
        exact absurd (Option.some.inj (H.trans (congrArg some hr.out))) (by decide)
      ·rw [if_neg c36] at H
       have c36b0 : (t486 == t488) = false := beq_eq_false_iff_ne.mpr c36
       have c36b1 : (t486 != t488) = true := bne_iff_ne.mpr c36
       exact absurd (Option.some.inj (H.trans (congrArg some hr.out))) (by decide)
     ·rw [if_neg c35] at H
      have c35b0 : (t485 == t487) = false := by simpa using c35
      (try (have c35b1 : decide (t485 = t487) = false := by simpa using c35))
      (try (have c35b2 : (t485 == t487) = false := by simpa using c35))
      (try (have c35b3 : ¬ (t485 = t487) := by simpa using c35))
      clear c35
      exact absurd (Option.some.inj (H.trans (congrArg some hr.out))) (by decide)
 ·replace c4 := Bool.eq_false_iff.mpr c4
  subst c4
  have H1 : ((trishawlaw01_alive.f k).bind fun t464 => (some t464)) = some r := by rw [if_neg (show ¬ (false = true) by decide)] at H; exact H
  clear H
  have H := H1
  clear H1
  replace H := Option.bind_eq_some_iff.mp H
  obtain ⟨t464, A530, H⟩ := H
  replace H : (some t464) = some r := H
  have A53 := Aside0.mk A530
  clear A530
  obtain rfl := Option.some.inj H
  go_enter Tryd.func5, Tryd.ntmps5
  go_wp2_with (first | ((with_reducible refine gate_callee (f := 16) rfl ?_); refine goesL_ (some 15) rfl rfl Tryd.func16 (by kernel_rfl) rfl #[.slice A0 l0.length c0, .slice A1 l1.length c1] rfl (as_) ?_; (with_reducible refine (trishawlaw01_few.calls _ _ l0 _ _ l1 false _ ?side1 ?side2 ?side3 ?side4 A3.out).mono ?_); (case side1 => repeat (first | exact HR0.out | (with_reducible refine Kd.C_alloc ?_ _) | (with_reducible refine Kd.C_drewN ?_ _) | (with_reducible refine Kd.C_drew ?_))); (case side2 => exact HC0.out); (case side3 => repeat (first | exact HR1.out | (with_reducible refine Kd.C_alloc ?_ _) | (with_reducible refine Kd.C_drewN ?_ _) | (with_reducible refine Kd.C_drew ?_))); (case side4 => exact HC1.out); rintro e w' ⟨rfl, ⟨nd, rfl⟩⟩; refine ⟨_, rfl, ?_⟩) | ((with_reducible refine gate_callee (f := 17) rfl ?_); refine goesL_ (some 17) rfl rfl Tryd.func17 (by kernel_rfl) rfl #[] rfl (as_) ?_; (with_reducible refine (trishawlaw01_alive.calls k  t464 _ A53.out (HN.out.of (bl_))).mono ?_); rintro e w54 ⟨rfl, hb⟩; refine ⟨_, rfl, ?_⟩; have n0_ := Aside0.mk (below_step (bl_) hb); clear HB; have HB := n0_; clear n0_; (try clear hb); (try clear hb2); (try clear hk); (try clear hi)))
  go_ret
  exact ⟨by first | rfl | (simp [errW_none, errW_some] <;> rfl) | (simp [*, errW_none, errW_some] <;> rfl), bl_⟩

/-- THE ONE PURE STATEMENT of trishawlaw01_TurnDeviates: yours. -/
def trishawlaw01_TurnDeviates.Pure : Prop := ∀ (l0 : List Int) (l1 : List Int), l0.length ≤ maxLen → l0.length * 8 ≤ 140737488351232 → (∀ x ∈ l0, (Lit.int .i64 x).wf = true) → l1.length ≤ maxLen → l1.length * 8 ≤ 140737488351232 → (∀ x ∈ l1, (Lit.int .i64 x).wf = true) → ∃ k, trishawlaw01_TurnDeviates.f k l0 l1 = some true
theorem trishawlaw01_TurnDeviates.walk (P : trishawlaw01_TurnDeviates.Pure) (a0 : Option Addr) (len0 cap0 : Nat) (z0 : List Int) (a1 : Option Addr) (len1 cap1 : Nat) (z1 : List Int) (w : World) (w0 : (a0 = none ∧ len0 = 0 ∧ cap0 = 0 ∧ z0 = []) ∨ ∃ x, a0 = some x ∧ len0 ≤ cap0 ∧ cap0 ≤ maxLen ∧ z0.length = cap0 ∧ (∀ i, i < z0.length → w.cell? (x.add i) = some (.int .i64 (z0.getD i 0))) ∧ ∀ n ∈ z0, (Lit.int .i64 n).wf = true) (y0 : len0 * 8 ≤ 140737488351232) (w1 : (a1 = none ∧ len1 = 0 ∧ cap1 = 0 ∧ z1 = []) ∨ ∃ x, a1 = some x ∧ len1 ≤ cap1 ∧ cap1 ≤ maxLen ∧ z1.length = cap1 ∧ (∀ i, i < z1.length → w.cell? (x.add i) = some (.int .i64 (z1.getD i 0))) ∧ ∀ n ∈ z1, (Lit.int .i64 n).wf = true) (y1 : len1 * 8 ≤ 140737488351232) (hN0 : NoneLaid w) :
    Calls Tryd.prog 5 #[.slice a0 len0 cap0, .slice a1 len1 cap1] w fun e w' => e = .returned (.bool true) ∧ Below w.heap.size w w' := by
 obtain ⟨l0, rfl, hr0, hm0, hw0, hc0⟩ := ReadsInt.ofRowC w0
 obtain ⟨l1, rfl, hr1, hm1, hw1, hc1⟩ := ReadsInt.ofRowC w1
 obtain ⟨k, h⟩ := P l0 l1 hm0 y0 hw0 hm1 y1 hw1
 refine (trishawlaw01_TurnDeviates.calls k _ _ l0 _ _ l1 true w (Kd.C_of_reads (d := (0 : Int)) (h1 := fun _ => rfl) hr0) hc0 (Kd.C_of_reads (d := (0 : Int)) (h1 := fun _ => rfl) hr1) hc1 h hN0 rfl).mono ?_
 rintro e w' ⟨rfl, hd⟩
 exact ⟨rfl, hd⟩

end Go.Proofs.YtgobffgogmnmpaaDoor.P
