-- Written by wip/tools/myprint.py of this session's repo, over the kit's printer and hand texts.
import Derived.Test.YtgobffgogmnmpaaDoorPx0
import Derived.Test.YtgobffgogmnmpaaDoorPre
import Derived.Test.YtgobffgogmnmpaaDoorPx3
import Derived.Test.YtgobffgogmnmpaaDoorPx4
import Derived.Test.YtgobffgogmnmpaaDoorPx8
import Derived.Test.YtgobffgogmnmpaaDoorPx10
import Derived.Test.YtgobffgogmnmpaaDoorPx32
namespace Go.Proofs.YtgobffgogmnmpaaDoor.P
open Go.RowKit Go.Proofs.YtgobffgogmnmpaaDoorW.PrintWords Go.Proofs.YtgobffgogmnmpaaDoorW.PrintLast Go.Proofs.YtgobffgogmnmpaaDoorW.PrintMore
attribute [local go_sem] max2_int min2_int max_two min_two max_three min_three max_four min_four   -- for this text's walks alone
set_option linter.unusedVariables false
set_option linter.unusedSimpArgs false

/-! ### trishawlaw01_TurnMerges: function 13 -/
def trishawlaw01_TurnMerges.f (k : Nat) (l0 : List Int) (a1 : Int) (a2 : Int) : Option (Bool) := (trishawlaw01_few.f ([] : List Int) l0).bind fun t829 => (if t829 = true then ((some (([] : List Int) : List Int)).bind fun y831 => (if y831.length + l0.length < 17592186044416 then ((some (y831 ++ l0 : List Int)).bind fun y834 => ((turn_Merged.f k y834 a1 a2).bind fun bt837 => ((trishawref01_Merged.f k l0 a1 a2).bind fun bt841 => ((trishawlaw01_same.f k bt837.1 bt841.1).bind fun t845 => (if t845 = true then (if bt837.2 = bt841.2 then ((trishawlaw01_same.f k y834 l0).bind fun t846 => (if t846 = true then ((trishawlaw01_alive.f k).bind fun t847 => (some t847)) else (some false))) else (some false)) else (some false)))))) else (none))) else ((trishawlaw01_alive.f k).bind fun t830 => (some t830)))
theorem trishawlaw01_TurnMerges.mono : ∀ a0 a1 a2 k, LeO (trishawlaw01_TurnMerges.f k a0 a1 a2) (trishawlaw01_TurnMerges.f (k + 1) a0 a1 a2) := by
  intro a0 a1 a2 k
  unfold trishawlaw01_TurnMerges.f
  repeat' first
      | (with_reducible exact trishawlaw01_alive.mono _)
      | (with_reducible exact trishawlaw01_same.mono _ _ _)
      | (with_reducible exact trishawref01_Merged.mono _ _ _ _)
      | (with_reducible exact turn_Merged.mono _ _ _ _)
      | (with_reducible exact LeO.refl _)
      | (with_reducible exact LeO.none _)
      | (with_reducible refine LeO.ite ?_ ?_)
      | (with_reducible refine LeO.bind ?_ (fun _ => ?_))
      | exact trishawlaw01_alive.mono _
      | exact trishawlaw01_same.mono _ _ _
      | exact trishawref01_Merged.mono _ _ _ _
      | exact turn_Merged.mono _ _ _ _
      | exact LeO.none _
      | refine LeO.ite ?_ ?_
      | refine LeO.bind ?_ (fun _ => ?_)
set_option maxHeartbeats 8000000 in
set_option maxRecDepth 100000 in
theorem trishawlaw01_TurnMerges.calls (k : Nat) (A0 : Option Addr) (c0 : Nat) (l0 : List Int) (a1 : Int) (a2 : Int) (r : Bool) (w : World) (hr0 : Kd.C (Kd.int .i64) w A0 l0.length l0) (hc0 : l0.length ≤ c0) (h : trishawlaw01_TurnMerges.f k l0 a1 a2 = some r) (hN0 : NoneLaid w) (hr_ : r = true) :
    Calls Tryd.prog 13 #[.slice A0 l0.length c0, .int .i64 a1, .int .i64 a2] w fun e w' => e = .returned (.bool r) ∧ Below w.heap.size w w' := by
 have HN := Aside0.mk hN0
 clear hN0
 have hr := Aside0.mk hr_
 clear hr_
 have HR0 := Aside0.mk hr0
 have HC0 := Aside0.mk hc0
 clear hr0 hc0
 have HB := Aside0.mk (Below.refl w.heap.size w)
 have H : ((trishawlaw01_few.f ([] : List Int) l0).bind fun t829 => (if t829 = true then ((some (([] : List Int) : List Int)).bind fun y831 => (if y831.length + l0.length < 17592186044416 then ((some (y831 ++ l0 : List Int)).bind fun y834 => ((turn_Merged.f k y834 a1 a2).bind fun bt837 => ((trishawref01_Merged.f k l0 a1 a2).bind fun bt841 => ((trishawlaw01_same.f k bt837.1 bt841.1).bind fun t845 => (if t845 = true then (if bt837.2 = bt841.2 then ((trishawlaw01_same.f k y834 l0).bind fun t846 => (if t846 = true then ((trishawlaw01_alive.f k).bind fun t847 => (some t847)) else (some false))) else (some false)) else (some false)))))) else (none))) else ((trishawlaw01_alive.f k).bind fun t830 => (some t830)))) = some r := h
 clear h
 replace H := Option.bind_eq_some_iff.mp H
 obtain ⟨t829, A40, H⟩ := H
 replace H : (if t829 = true then ((some (([] : List Int) : List Int)).bind fun y831 => (if y831.length + l0.length < 17592186044416 then ((some (y831 ++ l0 : List Int)).bind fun y834 => ((turn_Merged.f k y834 a1 a2).bind fun bt837 => ((trishawref01_Merged.f k l0 a1 a2).bind fun bt841 => ((trishawlaw01_same.f k bt837.1 bt841.1).bind fun t845 => (if t845 = true then (if bt837.2 = bt841.2 then ((trishawlaw01_same.f k y834 l0).bind fun t846 => (if t846 = true then ((trishawlaw01_alive.f k).bind fun t847 => (some t847)) else (some false))) else (some false)) else (some false)))))) else (none))) else ((trishawlaw01_alive.f k).bind fun t830 => (some t830))) = some r := H
 have A4 := Aside0.mk A40
 clear A40
 by_cases c5 : t829 = true
 ·subst c5
  have H1 : ((some (([] : List Int) : List Int)).bind fun y831 => (if y831.length + l0.length < 17592186044416 then ((some (y831 ++ l0 : List Int)).bind fun y834 => ((turn_Merged.f k y834 a1 a2).bind fun bt837 => ((trishawref01_Merged.f k l0 a1 a2).bind fun bt841 => ((trishawlaw01_same.f k bt837.1 bt841.1).bind fun t845 => (if t845 = true then (if bt837.2 = bt841.2 then ((trishawlaw01_same.f k y834 l0).bind fun t846 => (if t846 = true then ((trishawlaw01_alive.f k).bind fun t847 => (some t847)) else (some false))) else (some false)) else (some false)))))) else (none))) = some r := by rw [if_pos rfl] at H; exact H
  clear H
  have H := H1
  clear H1
  obtain ⟨y831, hy831⟩ : ∃ y_ : List Int, y_ = (([] : List Int)) := ⟨_, rfl⟩
  replace H : (if y831.length + l0.length < 17592186044416 then ((some (y831 ++ l0 : List Int)).bind fun y834 => ((turn_Merged.f k y834 a1 a2).bind fun bt837 => ((trishawref01_Merged.f k l0 a1 a2).bind fun bt841 => ((trishawlaw01_same.f k bt837.1 bt841.1).bind fun t845 => (if t845 = true then (if bt837.2 = bt841.2 then ((trishawlaw01_same.f k y834 l0).bind fun t846 => (if t846 = true then ((trishawlaw01_alive.f k).bind fun t847 => (some t847)) else (some false))) else (some false)) else (some false)))))) else (none)) = some r := by first | (rw [hy831]; with_reducible exact H) | (have H2_ := (Option.bind_some _ _).symm.trans H; rw [hy831]; with_reducible exact H2_) | (have H2_ := (Option.bind_some _ _).symm.trans H; with_reducible exact H2_) | with_reducible exact H | (rw [hy831]; exact H) | exact H
  have Ny831 := Aside0.mk hy831
  clear hy831
  have c6 : y831.length + l0.length < 17592186044416 := fl_ fun c6 => by rw [if_neg c6] at H; exact absurd H (by simp)
  rw [if_pos c6] at H
  have LMc6 := Aside0.mk c6
  clear c6
  obtain ⟨y834, hy834⟩ : ∃ y_ : List Int, y_ = (y831 ++ l0) := ⟨_, rfl⟩
  replace H : ((turn_Merged.f k y834 a1 a2).bind fun bt837 => ((trishawref01_Merged.f k l0 a1 a2).bind fun bt841 => ((trishawlaw01_same.f k bt837.1 bt841.1).bind fun t845 => (if t845 = true then (if bt837.2 = bt841.2 then ((trishawlaw01_same.f k y834 l0).bind fun t846 => (if t846 = true then ((trishawlaw01_alive.f k).bind fun t847 => (some t847)) else (some false))) else (some false)) else (some false))))) = some r := by first | (rw [hy834]; with_reducible exact H) | (have H2_ := (Option.bind_some _ _).symm.trans H; rw [hy834]; with_reducible exact H2_) | (have H2_ := (Option.bind_some _ _).symm.trans H; with_reducible exact H2_) | with_reducible exact H | (rw [hy834]; exact H) | exact H
  have Ny834 := Aside0.mk hy834
  clear hy834
  replace H := Option.bind_eq_some_iff.mp H
  obtain ⟨⟨t837, t838⟩, A70, H⟩ := H
  replace H : ((trishawref01_Merged.f k l0 a1 a2).bind fun bt841 => ((trishawlaw01_same.f k t837 bt841.1).bind fun t845 => (if t845 = true then (if t838 = bt841.2 then ((trishawlaw01_same.f k y834 l0).bind fun t846 => (if t846 = true then ((trishawlaw01_alive.f k).bind fun t847 => (some t847)) else (some false))) else (some false)) else (some false)))) = some r := H
  have A7 := Aside0.mk A70
  clear A70
  replace H := Option.bind_eq_some_iff.mp H
  obtain ⟨⟨t841, t842⟩, A80, H⟩ := H
  replace H : ((trishawlaw01_same.f k t837 t841).bind fun t845 => (if t845 = true then (if t838 = t842 then ((trishawlaw01_same.f k y834 l0).bind fun t846 => (if t846 = true then ((trishawlaw01_alive.f k).bind fun t847 => (some t847)) else (some false))) else (some false)) else (some false))) = some r := H
  have A8 := Aside0.mk A80
  clear A80
  replace H := Option.bind_eq_some_iff.mp H
  obtain ⟨t845, A90, H⟩ := H
  replace H : (if t845 = true then (if t838 = t842 then ((trishawlaw01_same.f k y834 l0).bind fun t846 => (if t846 = true then ((trishawlaw01_alive.f k).bind fun t847 => (some t847)) else (some false))) else (some false)) else (some false)) = some r := H
  have A9 := Aside0.mk A90
  clear A90
  by_cases c10 : t845 = true
  ·subst c10
   have H1 : (if t838 = t842 then ((trishawlaw01_same.f k y834 l0).bind fun t846 => (if t846 = true then ((trishawlaw01_alive.f k).bind fun t847 => (some t847)) else (some false))) else (some false)) = some r := by rw [if_pos rfl] at H; exact H
   clear H
   have H := H1
   clear H1
   by_cases c11 : t838 = t842
   ·rw [if_pos c11] at H
    have c11b0 : (t838 == t842) = true := beq_iff_eq.mpr c11
    have c11b1 : (t838 != t842) = false := bne_eq_false_iff_eq.mpr c11
    clear c11
    replace H := Option.bind_eq_some_iff.mp H
    obtain ⟨t846, A120, H⟩ := H
    replace H : (if t846 = true then ((trishawlaw01_alive.f k).bind fun t847 => (some t847)) else (some false)) = some r := H
    have A12 := Aside0.mk A120
    clear A120
    by_cases c13 : t846 = true
    ·subst c13
     have H1 : ((trishawlaw01_alive.f k).bind fun t847 => (some t847)) = some r := by rw [if_pos rfl] at H; exact H
     clear H
     have H := H1
     clear H1
     replace H := Option.bind_eq_some_iff.mp H
     obtain ⟨t847, A140, H⟩ := H
     replace H : (some t847) = some r := H
     have A14 := Aside0.mk A140
     clear A140
     obtain rfl := Option.some.inj H
     go_enter Tryd.func13, Tryd.ntmps13
     go_wp2_with (first | ((with_reducible refine gate_callee (f := 16) rfl ?_); refine goesL_ (some 13) rfl rfl Tryd.func16 (by kernel_rfl) rfl #[.slice none 0 0, .slice A0 l0.length c0] rfl (as_) ?_; (refine (trishawlaw01_few.calls _ _ ([] : List Int) _ _ l0 true _ ?side1 ?side2 ?side3 ?side4 A4.out).mono ?_); (case side1 => exact Kd.C_nil _ _); (case side2 => exact Nat.le_refl _); (case side3 => repeat (first | exact HR0.out | (with_reducible refine Kd.C_alloc ?_ _) | (with_reducible refine Kd.C_drewN ?_ _) | (with_reducible refine Kd.C_drew ?_))); (case side4 => exact HC0.out); rintro e w' ⟨rfl, ⟨nd, rfl⟩⟩; refine ⟨_, rfl, ?_⟩) | ((with_reducible refine gate_dst (N := 16) rfl ?_); refine Kd.R_lit (Kd.int .i64) _ 3 ?hg (N := 16) ?hd (xs := ([] : List Int)) (inner := []) (ok := fun _ => True) (okp := fun _ => True) ?hr ?hp (fun _ hk => hk) trivial (Below.refl _ _) (Nat.le_refl _) (by simp) ?_; (case hd => rfl); (case hg => rfl); (case hr => first | (go_simp; done) | (go_simp; rfl)); (case hp => exact (Reps.none _ _)); intro v832 w15 ho16 hb hg_ hnew_; clear hg_ hnew_; (first | rw [← Ny831.out] at ho16 | (simp only [Int.reduceToNat] at ho16; rw [← Ny831.out] at ho16)); have n0_ := Aside0.mk (Kd.R_lower ho16 (below_size (bl_))); have n1_ := Aside0.mk (below_step (bl_) hb); clear HB; have HO833 := n0_; have HB := n1_; clear n0_ n1_; clear hb ho16) | ((with_reducible refine gate_builtin (b := .append) (xs := #[.tmp 16, .tmp 17]) rfl ?_); at_builtin; refine Kd.R_append_rows (Kd.int .i64) (w0 := w) w.heap.size rfl (.tmp 16) (.tmp 17) 22 3 (.int .i64 0) 8 rfl Tryd.underlying22 info3 rfl (by decide) (by omega) v832 y831 l0 _ _ _ (fun _ => True) (fun _ => False) rfl rfl ?aO ?aR (fun _ _ h => h) (fun _ h => h.elim) ?aF ?aB ?aS ?aL ?_; (case aR => repeat (first | exact (Kd.C_below HR0.out HB.out) | (with_reducible refine Kd.C_alloc ?_ _) | (with_reducible refine Kd.C_drewN ?_ _) | (with_reducible refine Kd.C_drew ?_))); (case aB => exact (bl_)); (case aF => exact (fun _ _ => trivial)); (case aO => exact (kr_ HO833.out)); (case aS => exact (below_size (bl_))); (case aL => have := LMc6.out; omega); intro v835 w17 ho hb hg hat; rw [← Ny834.out] at ho; have n0_ := Aside0.mk (hb); have n1_ := Aside0.mk (ho); clear HB; clear HO833; have HB := n0_; have HO836 := n1_; clear n0_ n1_; clear ho hb hg hat; obtain ⟨Ao18, co18, eo18⟩ := Kd.R_slice HO836.out; subst eo18) | ((with_reducible refine gate_callee (f := 39) rfl ?_); refine goesL_ (some 23) rfl rfl Tryd.func39 (by kernel_rfl) rfl #[.slice Ao18 y834.length co18, .int .i64 a1, .int .i64 a2] rfl (as_) ?_; (with_reducible refine (turn_Merged.calls k _ _ y834 a1 a2 t837 t838 _ ?side1 ?side2 A7.out).mono ?_); (case side1 => repeat (first | exact (Kd.R_reads' HO836.out).2.2 | (with_reducible refine Kd.C_alloc ?_ _) | (with_reducible refine Kd.C_drewN ?_ _) | (with_reducible refine Kd.C_drew ?_))); (case side2 => exact (Kd.R_reads' HO836.out).2.1); rintro e w19 ⟨v839, rfl, ho0, hb⟩; refine ⟨_, rfl, ?_⟩; have n0_ := Aside0.mk (Kd.R_elder' (kr_ HO836.out) (Kd.R_base ho0) hb); have n1_ := Aside0.mk (Kd.R_lower (Kd.R_new' ho0 (Kd.R_lt (kr_ HO836.out))) (below_size (bl_))); have n2_ := Aside0.mk (below_step (bl_) hb); clear HO836; clear HB; have HO836 := n0_; have HO840 := n1_; have HB := n2_; clear n0_ n1_ n2_; (try clear hb); (try clear hb2); (try clear hk); (try clear hi); (try clear ho0)) | ((with_reducible refine gate_callee (f := 40) rfl ?_); refine goesL_ (some 30) rfl rfl Tryd.func40 (by kernel_rfl) rfl #[.slice A0 l0.length c0, .int .i64 a1, .int .i64 a2] rfl (as_) ?_; (with_reducible refine (trishawref01_Merged.calls k _ _ l0 a1 a2 t841 t842 _ ?side1 ?side2 A8.out).mono ?_); (case side1 => repeat (first | exact (Kd.C_below HR0.out HB.out) | (with_reducible refine Kd.C_alloc ?_ _) | (with_reducible refine Kd.C_drewN ?_ _) | (with_reducible refine Kd.C_drew ?_))); (case side2 => exact HC0.out); rintro e w20 ⟨v843, rfl, ho0, hb⟩; refine ⟨_, rfl, ?_⟩; have n0_ := Aside0.mk (Kd.R_elder' (kr_ HO836.out) (Kd.R_base ho0) hb); have n1_ := Aside0.mk (Kd.R_elder' (kr_ HO840.out) (Kd.R_base ho0) hb); have n2_ := Aside0.mk (Kd.R_lower (Kd.R_new' (Kd.R_new' ho0 (Kd.R_lt (kr_ HO836.out))) (Kd.R_lt (kr_ HO840.out))) (below_size (bl_))); have n3_ := Aside0.mk (below_step (bl_) hb); clear HO836; clear HO840; clear HB; have HO836 := n0_; have HO840 := n1_; have HO844 := n2_; have HB := n3_; clear n0_ n1_ n2_ n3_; (try clear hb); (try clear hb2); (try clear hk); (try clear hi); (try clear ho0); obtain ⟨Ao21, co21, eo21⟩ := Kd.R_slice HO840.out; subst eo21; obtain ⟨Ao22, co22, eo22⟩ := Kd.R_slice HO844.out; subst eo22) | ((with_reducible refine gate_callee (f := 22) rfl ?_); refine goesL_ (some 35) rfl rfl Tryd.func22 (by kernel_rfl) rfl #[.slice Ao21 t837.length co21, .slice Ao22 t841.length co22] rfl (as_) ?_; (with_reducible refine (trishawlaw01_same.calls k _ _ t837 _ _ t841 true _ ?side1 ?side2 ?side3 ?side4 A9.out).mono ?_); (case side1 => repeat (first | exact (Kd.R_reads' HO840.out).2.2 | (with_reducible refine Kd.C_alloc ?_ _) | (with_reducible refine Kd.C_drewN ?_ _) | (with_reducible refine Kd.C_drew ?_))); (case side2 => exact (Kd.R_reads' HO840.out).2.1); (case side3 => repeat (first | exact (Kd.R_reads' HO844.out).2.2 | (with_reducible refine Kd.C_alloc ?_ _) | (with_reducible refine Kd.C_drewN ?_ _) | (with_reducible refine Kd.C_drew ?_))); (case side4 => exact (Kd.R_reads' HO844.out).2.1); rintro e w' ⟨rfl, ⟨nd, rfl⟩⟩; refine ⟨_, rfl, ?_⟩) | (go_at_call 22; (with_reducible refine (trishawlaw01_same.calls k _ _ y834 _ _ l0 true _ ?side1 ?side2 ?side3 ?side4 A12.out).mono ?_); (case side1 => repeat (first | exact (Kd.R_reads' HO836.out).2.2 | (with_reducible refine Kd.C_alloc ?_ _) | (with_reducible refine Kd.C_drewN ?_ _) | (with_reducible refine Kd.C_drew ?_))); (case side2 => exact (Kd.R_reads' HO836.out).2.1); (case side3 => repeat (first | exact (Kd.C_below HR0.out (bl_)) | (with_reducible refine Kd.C_alloc ?_ _) | (with_reducible refine Kd.C_drewN ?_ _) | (with_reducible refine Kd.C_drew ?_))); (case side4 => exact HC0.out); rintro e w' ⟨rfl, ⟨nd, rfl⟩⟩) | (go_at_call 17; (with_reducible refine (trishawlaw01_alive.calls k  t847 _ A14.out (HN.out.of (bl_))).mono ?_); rintro e w23 ⟨rfl, hb⟩; have n0_ := Aside0.mk (Kd.R_below (kr_ HO836.out) hb); have n1_ := Aside0.mk (Kd.R_below (kr_ HO840.out) hb); have n2_ := Aside0.mk (Kd.R_below (kr_ HO844.out) hb); have n3_ := Aside0.mk (below_step (bl_) hb); clear HO836; clear HO840; clear HO844; clear HB; have HO836 := n0_; have HO840 := n1_; have HO844 := n2_; have HB := n3_; clear n0_ n1_ n2_ n3_; (try clear hb); (try clear hb2); (try clear hk); (try clear hi)))
     go_ret
     exact ⟨by first | rfl | (simp [errW_none, errW_some] <;> rfl) | (simp [*, errW_none, errW_some] <;> rfl), bl_⟩
    ·replace c13 := Bool.eq_false_iff.mpr c13
     subst c13
     have H1 : (some false) = some r := by rw [if_neg (show ¬ (false = true) by decide)] at H; exact H
     clear H
     have H := H1
     clear H1
     exact absurd (Option.some.inj (H.trans (congrArg some hr.out))) (by decide)
   ·rw [if_neg c11] at H
    have c11b0 : (t838 == t842) = false := beq_eq_false_iff_ne.mpr c11
    have c11b1 : (t838 != t842) = true := bne_iff_ne.mpr c11
    exact absurd (Option.some.inj (H.trans (congrArg some hr.out))) (by decide)
  ·replace c10 := Bool.eq_false_iff.mpr c10
   subst c10
   have H1 : (some false) = some r := by rw [if_neg (show ¬ (false = true) by decide)] at H; exact H
   clear H
   have H := H1
   clear H1
   exact absurd (Option.some.inj (H.trans (congrArg some hr.out))) (by decide)
 ·replace c5 := Bool.eq_false_iff.mpr c5
  subst c5
  have H1 : ((trishawlaw01_alive.f k).bind fun t830 => (some t830)) = some r := by rw [if_neg (show ¬ (false = true) by decide)] at H; exact H
  clear H
  have H := H1
  clear H1
  replace H := Option.bind_eq_some_iff.mp H
  obtain ⟨t830, A480, H⟩ := H
  replace H : (some t830) = some r := H
  have A48 := Aside0.mk A480
  clear A480
  obtain rfl := Option.some.inj H
  go_enter Tryd.func13, Tryd.ntmps13
  go_wp2_with (first | ((with_reducible refine gate_callee (f := 16) rfl ?_); refine goesL_ (some 13) rfl rfl Tryd.func16 (by kernel_rfl) rfl #[.slice none 0 0, .slice A0 l0.length c0] rfl (as_) ?_; (refine (trishawlaw01_few.calls _ _ ([] : List Int) _ _ l0 false _ ?side1 ?side2 ?side3 ?side4 A4.out).mono ?_); (case side1 => exact Kd.C_nil _ _); (case side2 => exact Nat.le_refl _); (case side3 => repeat (first | exact HR0.out | (with_reducible refine Kd.C_alloc ?_ _) | (with_reducible refine Kd.C_drewN ?_ _) | (with_reducible refine Kd.C_drew ?_))); (case side4 => exact HC0.out); rintro e w' ⟨rfl, ⟨nd, rfl⟩⟩; refine ⟨_, rfl, ?_⟩) | ((with_reducible refine gate_callee (f := 17) rfl ?_); refine goesL_ (some 15) rfl rfl Tryd.func17 (by kernel_rfl) rfl #[] rfl (as_) ?_; (with_reducible refine (trishawlaw01_alive.calls k  t830 _ A48.out (HN.out.of (bl_))).mono ?_); rintro e w49 ⟨rfl, hb⟩; refine ⟨_, rfl, ?_⟩; have n0_ := Aside0.mk (below_step (bl_) hb); clear HB; have HB := n0_; clear n0_; (try clear hb); (try clear hb2); (try clear hk); (try clear hi)))
  go_ret
  exact ⟨by first | rfl | (simp [errW_none, errW_some] <;> rfl) | (simp [*, errW_none, errW_some] <;> rfl), bl_⟩

/-- THE ONE PURE STATEMENT of trishawlaw01_TurnMerges: yours. -/
def trishawlaw01_TurnMerges.Pure : Prop := ∀ (l0 : List Int) (a1 : Int) (a2 : Int), l0.length ≤ maxLen → l0.length * 8 ≤ 140737488351232 → (∀ x ∈ l0, (Lit.int .i64 x).wf = true) → (Lit.int .i64 a1).wf = true → (Lit.int .i64 a2).wf = true → ∃ k, trishawlaw01_TurnMerges.f k l0 a1 a2 = some true
theorem trishawlaw01_TurnMerges.walk (P : trishawlaw01_TurnMerges.Pure) (a0 : Option Addr) (len0 cap0 : Nat) (z0 : List Int) (a1 : Int) (a2 : Int) (w : World) (w0 : (a0 = none ∧ len0 = 0 ∧ cap0 = 0 ∧ z0 = []) ∨ ∃ x, a0 = some x ∧ len0 ≤ cap0 ∧ cap0 ≤ maxLen ∧ z0.length = cap0 ∧ (∀ i, i < z0.length → w.cell? (x.add i) = some (.int .i64 (z0.getD i 0))) ∧ ∀ n ∈ z0, (Lit.int .i64 n).wf = true) (y0 : len0 * 8 ≤ 140737488351232) (w1 : (Lit.int .i64 a1).wf = true) (w2 : (Lit.int .i64 a2).wf = true) (hN0 : NoneLaid w) :
    Calls Tryd.prog 13 #[.slice a0 len0 cap0, .int .i64 a1, .int .i64 a2] w fun e w' => e = .returned (.bool true) ∧ Below w.heap.size w w' := by
 obtain ⟨l0, rfl, hr0, hm0, hw0, hc0⟩ := ReadsInt.ofRowC w0
 obtain ⟨k, h⟩ := P l0 a1 a2 hm0 y0 hw0 w1 w2
 refine (trishawlaw01_TurnMerges.calls k _ _ l0 a1 a2 true w (Kd.C_of_reads (d := (0 : Int)) (h1 := fun _ => rfl) hr0) hc0 h hN0 rfl).mono ?_
 rintro e w' ⟨rfl, hd⟩
 exact ⟨rfl, hd⟩

end Go.Proofs.YtgobffgogmnmpaaDoor.P
