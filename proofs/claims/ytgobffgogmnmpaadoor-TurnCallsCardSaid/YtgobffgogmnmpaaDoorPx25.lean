-- Written by wip/tools/myprint.py of this session's repo, over the kit's printer and hand texts.
import Derived.Test.YtgobffgogmnmpaaDoorPx0
import Derived.Test.YtgobffgogmnmpaaDoorPre
import Derived.Test.YtgobffgogmnmpaaDoorPx3
import Derived.Test.YtgobffgogmnmpaaDoorPx4
import Derived.Test.YtgobffgogmnmpaaDoorPx8
import Derived.Test.YtgobffgogmnmpaaDoorPx9
import Derived.Test.YtgobffgogmnmpaaDoorPx10
import Derived.Test.YtgobffgogmnmpaaDoorPx23
import Derived.Test.YtgobffgogmnmpaaDoorPx24
namespace Go.Proofs.YtgobffgogmnmpaaDoor.P
open Go.RowKit Go.Proofs.YtgobffgogmnmpaaDoorW.PrintWords Go.Proofs.YtgobffgogmnmpaaDoorW.PrintLast Go.Proofs.YtgobffgogmnmpaaDoorW.PrintMore
attribute [local go_sem] max2_int min2_int max_two min_two max_three min_three max_four min_four   -- for this text's walks alone
set_option linter.unusedVariables false
set_option linter.unusedSimpArgs false

/-! ### trishawlaw01_TurnCalls: function 8 -/
def trishawlaw01_TurnCalls.j0 : Nat → List Int → Int → Bool → Option (Bool)
  | 0, _, _, _ => none
  | k + 1, x0, x1, x33 => if x33 = true then (some false) else ((turn_Fair.f k x0 x1).bind fun bt609 => ((trishawref01_Fair.f k x0 x1).bind fun bt613 => ((trishawlaw01_same.f k bt609.1 bt613.1).bind fun t617 => (if t617 = true then (if bt609.2 = bt613.2 then ((trishawlaw01_alive.f k).bind fun t618 => (some t618)) else (some false)) else (some false)))))
def trishawlaw01_TurnCalls.f (k : Nat) (l0 : List Int) (a1 : Int) : Option (Bool) := (trishawlaw01_few.f l0 ([] : List Int)).bind fun t598 => (if t598 = true then ((turn_Greedy.f k l0 a1).bind fun bt600 => ((trishawref01_Greedy.f k l0 a1).bind fun bt604 => ((trishawlaw01_same.f k bt600.1 bt604.1).bind fun t608 => (if t608 = true then (trishawlaw01_TurnCalls.j0 k l0 a1 (bt600.2 != bt604.2)) else (trishawlaw01_TurnCalls.j0 k l0 a1 true))))) else ((trishawlaw01_alive.f k).bind fun t599 => (some t599)))
theorem trishawlaw01_TurnCalls.mono_l : ∀ k, (∀ y0 y1 y2, LeO (trishawlaw01_TurnCalls.j0 k y0 y1 y2) (trishawlaw01_TurnCalls.j0 (k + 1) y0 y1 y2))
  | 0 => fun _ _ _ r h => by simp [trishawlaw01_TurnCalls.j0] at h
  | k + 1 => by
    have ih0 := trishawlaw01_TurnCalls.mono_l k
    · intro y0 y1 y2
      unfold trishawlaw01_TurnCalls.j0
      repeat' first
      | (with_reducible exact ih0 _ _ _)
      | (with_reducible exact trishawlaw01_alive.mono _)
      | (with_reducible exact trishawlaw01_same.mono _ _ _)
      | (with_reducible exact trishawref01_Fair.mono _ _ _)
      | (with_reducible exact trishawref01_Greedy.mono _ _ _)
      | (with_reducible exact turn_Fair.mono _ _ _)
      | (with_reducible exact turn_Greedy.mono _ _ _)
      | (with_reducible exact LeO.refl _)
      | (with_reducible exact LeO.none _)
      | (with_reducible refine LeO.ite ?_ ?_)
      | (with_reducible refine LeO.bind ?_ (fun _ => ?_))
      | exact ih0 _ _ _
      | exact trishawlaw01_alive.mono _
      | exact trishawlaw01_same.mono _ _ _
      | exact trishawref01_Fair.mono _ _ _
      | exact trishawref01_Greedy.mono _ _ _
      | exact turn_Fair.mono _ _ _
      | exact turn_Greedy.mono _ _ _
      | exact LeO.none _
      | refine LeO.ite ?_ ?_
      | refine LeO.bind ?_ (fun _ => ?_)
theorem trishawlaw01_TurnCalls.mono : ∀ a0 a1 k, LeO (trishawlaw01_TurnCalls.f k a0 a1) (trishawlaw01_TurnCalls.f (k + 1) a0 a1) := by
  intro a0 a1 k
  have ih0 := trishawlaw01_TurnCalls.mono_l k
  unfold trishawlaw01_TurnCalls.f
  repeat' first
      | (with_reducible exact ih0 _ _ _)
      | (with_reducible exact trishawlaw01_alive.mono _)
      | (with_reducible exact trishawlaw01_same.mono _ _ _)
      | (with_reducible exact trishawref01_Fair.mono _ _ _)
      | (with_reducible exact trishawref01_Greedy.mono _ _ _)
      | (with_reducible exact turn_Fair.mono _ _ _)
      | (with_reducible exact turn_Greedy.mono _ _ _)
      | (with_reducible exact LeO.refl _)
      | (with_reducible exact LeO.none _)
      | (with_reducible refine LeO.ite ?_ ?_)
      | (with_reducible refine LeO.bind ?_ (fun _ => ?_))
      | exact ih0 _ _ _
      | exact trishawlaw01_alive.mono _
      | exact trishawlaw01_same.mono _ _ _
      | exact trishawref01_Fair.mono _ _ _
      | exact trishawref01_Greedy.mono _ _ _
      | exact turn_Fair.mono _ _ _
      | exact turn_Greedy.mono _ _ _
      | exact LeO.none _
      | refine LeO.ite ?_ ?_
      | refine LeO.bind ?_ (fun _ => ?_)
set_option maxHeartbeats 8000000 in
set_option maxRecDepth 100000 in
theorem trishawlaw01_TurnCalls.calls (k : Nat) (A0 : Option Addr) (c0 : Nat) (l0 : List Int) (a1 : Int) (r : Bool) (w : World) (hr0 : Kd.C (Kd.int .i64) w A0 l0.length l0) (hc0 : l0.length ≤ c0) (h : trishawlaw01_TurnCalls.f k l0 a1 = some r) (hN0 : NoneLaid w) (hr_ : r = true) :
    Calls Tryd.prog 8 #[.slice A0 l0.length c0, .int .i64 a1] w fun e w' => e = .returned (.bool r) ∧ Below w.heap.size w w' := by
 have HN := Aside0.mk hN0
 clear hN0
 have hr := Aside0.mk hr_
 clear hr_
 have HR0 := Aside0.mk hr0
 have HC0 := Aside0.mk hc0
 clear hr0 hc0
 have HB := Aside0.mk (Below.refl w.heap.size w)
 have H : ((trishawlaw01_few.f l0 ([] : List Int)).bind fun t598 => (if t598 = true then ((turn_Greedy.f k l0 a1).bind fun bt600 => ((trishawref01_Greedy.f k l0 a1).bind fun bt604 => ((trishawlaw01_same.f k bt600.1 bt604.1).bind fun t608 => (if t608 = true then (trishawlaw01_TurnCalls.j0 k l0 a1 (bt600.2 != bt604.2)) else (trishawlaw01_TurnCalls.j0 k l0 a1 true))))) else ((trishawlaw01_alive.f k).bind fun t599 => (some t599)))) = some r := h
 clear h
 replace H := Option.bind_eq_some_iff.mp H
 obtain ⟨t598, A30, H⟩ := H
 replace H : (if t598 = true then ((turn_Greedy.f k l0 a1).bind fun bt600 => ((trishawref01_Greedy.f k l0 a1).bind fun bt604 => ((trishawlaw01_same.f k bt600.1 bt604.1).bind fun t608 => (if t608 = true then (trishawlaw01_TurnCalls.j0 k l0 a1 (bt600.2 != bt604.2)) else (trishawlaw01_TurnCalls.j0 k l0 a1 true))))) else ((trishawlaw01_alive.f k).bind fun t599 => (some t599))) = some r := H
 have A3 := Aside0.mk A30
 clear A30
 by_cases c4 : t598 = true
 ·subst c4
  have H1 : ((turn_Greedy.f k l0 a1).bind fun bt600 => ((trishawref01_Greedy.f k l0 a1).bind fun bt604 => ((trishawlaw01_same.f k bt600.1 bt604.1).bind fun t608 => (if t608 = true then (trishawlaw01_TurnCalls.j0 k l0 a1 (bt600.2 != bt604.2)) else (trishawlaw01_TurnCalls.j0 k l0 a1 true))))) = some r := by rw [if_pos rfl] at H; exact H
  clear H
  have H := H1
  clear H1
  replace H := Option.bind_eq_some_iff.mp H
  obtain ⟨⟨t600, t601⟩, A50, H⟩ := H
  replace H : ((trishawref01_Greedy.f k l0 a1).bind fun bt604 => ((trishawlaw01_same.f k t600 bt604.1).bind fun t608 => (if t608 = true then (trishawlaw01_TurnCalls.j0 k l0 a1 (t601 != bt604.2)) else (trishawlaw01_TurnCalls.j0 k l0 a1 true)))) = some r := H
  have A5 := Aside0.mk A50
  clear A50
  replace H := Option.bind_eq_some_iff.mp H
  obtain ⟨⟨t604, t605⟩, A60, H⟩ := H
  replace H : ((trishawlaw01_same.f k t600 t604).bind fun t608 => (if t608 = true then (trishawlaw01_TurnCalls.j0 k l0 a1 (t601 != t605)) else (trishawlaw01_TurnCalls.j0 k l0 a1 true))) = some r := H
  have A6 := Aside0.mk A60
  clear A60
  have HC7 := Aside0.mk H
  clear H
  go_enter Tryd.func8, Tryd.ntmps8
  go_upto_region 5 with (first | ((with_reducible refine gate_callee (f := 16) rfl ?_); refine goesL_ (some 10) rfl rfl Tryd.func16 (by kernel_rfl) rfl #[.slice A0 l0.length c0, .slice none 0 0] rfl (as_) ?_; (refine (trishawlaw01_few.calls _ _ l0 _ _ ([] : List Int) true _ ?side1 ?side2 ?side3 ?side4 A3.out).mono ?_); (case side1 => repeat (first | exact HR0.out | (with_reducible refine Kd.C_alloc ?_ _) | (with_reducible refine Kd.C_drewN ?_ _) | (with_reducible refine Kd.C_drew ?_))); (case side2 => exact HC0.out); (case side3 => exact Kd.C_nil _ _); (case side4 => exact Nat.le_refl _); rintro e w' ⟨rfl, ⟨nd, rfl⟩⟩; refine ⟨_, rfl, ?_⟩) | ((with_reducible refine gate_callee (f := 32) rfl ?_); refine goesL_ (some 16) rfl rfl Tryd.func32 (by kernel_rfl) rfl #[.slice A0 l0.length c0, .int .i64 a1] rfl (as_) ?_; (with_reducible refine (turn_Greedy.calls k _ _ l0 a1 t600 t601 _ ?side1 ?side2 A5.out).mono ?_); (case side1 => repeat (first | exact HR0.out | (with_reducible refine Kd.C_alloc ?_ _) | (with_reducible refine Kd.C_drewN ?_ _) | (with_reducible refine Kd.C_drew ?_))); (case side2 => exact HC0.out); rintro e w8 ⟨v602, rfl, ho0, hb⟩; refine ⟨_, rfl, ?_⟩; have n0_ := Aside0.mk (Kd.R_lower ho0 (below_size (bl_))); have n1_ := Aside0.mk (below_step (bl_) hb); clear HB; have HO603 := n0_; have HB := n1_; clear n0_ n1_; (try clear hb); (try clear hb2); (try clear hk); (try clear hi); (try clear ho0)) | ((with_reducible refine gate_callee (f := 33) rfl ?_); refine goesL_ (some 22) rfl rfl Tryd.func33 (by kernel_rfl) rfl #[.slice A0 l0.length c0, .int .i64 a1] rfl (as_) ?_; (with_reducible refine (trishawref01_Greedy.calls k _ _ l0 a1 t604 t605 _ ?side1 ?side2 A6.out).mono ?_); (case side1 => repeat (first | exact (Kd.C_below HR0.out HB.out) | (with_reducible refine Kd.C_alloc ?_ _) | (with_reducible refine Kd.C_drewN ?_ _) | (with_reducible refine Kd.C_drew ?_))); (case side2 => exact HC0.out); rintro e w9 ⟨v606, rfl, ho0, hb⟩; refine ⟨_, rfl, ?_⟩; have n0_ := Aside0.mk (Kd.R_elder' (kr_ HO603.out) (Kd.R_base ho0) hb); have n1_ := Aside0.mk (Kd.R_lower (Kd.R_new' ho0 (Kd.R_lt (kr_ HO603.out))) (below_size (bl_))); have n2_ := Aside0.mk (below_step (bl_) hb); clear HO603; clear HB; have HO603 := n0_; have HO607 := n1_; have HB := n2_; clear n0_ n1_ n2_; (try clear hb); (try clear hb2); (try clear hk); (try clear hi); (try clear ho0)))
  (try simp only [Act.put, List.setIfInBounds_toArray, List.set_cons_zero, List.set_cons_succ])
  go_cut [33] (fun v33 wc => ∃ (kq : Nat) (x33_6 : Bool), v33 = .bool x33_6 ∧ Aside0 (trishawlaw01_TurnCalls.j0 kq l0 a1 x33_6 = some r) ∧ Aside0 (kq ≤ k) ∧ Aside0 (Below w.heap.size w wc))
  case first =>
   have H := HC7.out
   clear HC7
   replace H := Option.bind_eq_some_iff.mp H
   obtain ⟨t608, A100, H⟩ := H
   replace H : (if t608 = true then (trishawlaw01_TurnCalls.j0 k l0 a1 (t601 != t605)) else (trishawlaw01_TurnCalls.j0 k l0 a1 true)) = some r := H
   have A10 := Aside0.mk A100
   clear A100
   by_cases c11 : t608 = true
   ·subst c11
    have H1 : (trishawlaw01_TurnCalls.j0 k l0 a1 (t601 != t605)) = some r := by rw [if_pos rfl] at H; exact H
    clear H
    have H := H1
    clear H1
    have H' := Aside0.mk H
    clear H
    obtain ⟨Ao12, co12, eo12⟩ := Kd.R_slice HO603.out
    subst eo12
    obtain ⟨Ao13, co13, eo13⟩ := Kd.R_slice HO607.out
    subst eo13
    go_wp2_with (first | ((with_reducible refine gate_callee (f := 22) rfl ?_); refine goesL_ (some 27) rfl rfl Tryd.func22 (by kernel_rfl) rfl #[.slice Ao12 t600.length co12, .slice Ao13 t604.length co13] rfl (as_) ?_; (with_reducible refine (trishawlaw01_same.calls k _ _ t600 _ _ t604 true _ ?side1 ?side2 ?side3 ?side4 A10.out).mono ?_); (case side1 => repeat (first | exact (Kd.R_reads' HO603.out).2.2 | (with_reducible refine Kd.C_alloc ?_ _) | (with_reducible refine Kd.C_drewN ?_ _) | (with_reducible refine Kd.C_drew ?_))); (case side2 => exact (Kd.R_reads' HO603.out).2.1); (case side3 => repeat (first | exact (Kd.R_reads' HO607.out).2.2 | (with_reducible refine Kd.C_alloc ?_ _) | (with_reducible refine Kd.C_drewN ?_ _) | (with_reducible refine Kd.C_drew ?_))); (case side4 => exact (Kd.R_reads' HO607.out).2.1); rintro e w' ⟨rfl, ⟨nd, rfl⟩⟩; refine ⟨_, rfl, ?_⟩))
    go_meet
    case rel => exact ⟨_, ((t601 != t605)), (by first | rfl | (simp; done) | (simp [*]; done)), H', ⟨by first | omega | exact Nat.le_refl _⟩, ⟨bl_⟩⟩
   ·replace c11 := Bool.eq_false_iff.mpr c11
    subst c11
    have H1 : (trishawlaw01_TurnCalls.j0 k l0 a1 true) = some r := by rw [if_neg (show ¬ (false = true) by decide)] at H; exact H
    clear H
    have H := H1
    clear H1
    have H' := Aside0.mk H
    clear H
    obtain ⟨Ao14, co14, eo14⟩ := Kd.R_slice HO603.out
    subst eo14
    obtain ⟨Ao15, co15, eo15⟩ := Kd.R_slice HO607.out
    subst eo15
    go_wp2_with (first | ((with_reducible refine gate_callee (f := 22) rfl ?_); refine goesL_ (some 27) rfl rfl Tryd.func22 (by kernel_rfl) rfl #[.slice Ao14 t600.length co14, .slice Ao15 t604.length co15] rfl (as_) ?_; (with_reducible refine (trishawlaw01_same.calls k _ _ t600 _ _ t604 false _ ?side1 ?side2 ?side3 ?side4 A10.out).mono ?_); (case side1 => repeat (first | exact (Kd.R_reads' HO603.out).2.2 | (with_reducible refine Kd.C_alloc ?_ _) | (with_reducible refine Kd.C_drewN ?_ _) | (with_reducible refine Kd.C_drew ?_))); (case side2 => exact (Kd.R_reads' HO603.out).2.1); (case side3 => repeat (first | exact (Kd.R_reads' HO607.out).2.2 | (with_reducible refine Kd.C_alloc ?_ _) | (with_reducible refine Kd.C_drewN ?_ _) | (with_reducible refine Kd.C_drew ?_))); (case side4 => exact (Kd.R_reads' HO607.out).2.1); rintro e w' ⟨rfl, ⟨nd, rfl⟩⟩; refine ⟨_, rfl, ?_⟩))
    go_meet
    case rel => exact ⟨_, (true), (by first | rfl | (simp; done) | (simp [*]; done)), H', ⟨by first | omega | exact Nat.le_refl _⟩, ⟨bl_⟩⟩
  case rest =>
   clear HC7
   try clear c1
   try clear c2
   try clear p2
   try clear c3
   try clear c4
   try clear c8
   try clear c11
   obtain ⟨kq, x33_6, rfl, HA, HJ6, HB⟩ := hcut
   cases kq with
   | zero => exact absurd HA.out (by simp [trishawlaw01_TurnCalls.j0])
   | succ kj6 =>
    have H := HA.out
    clear HA
    simp only [trishawlaw01_TurnCalls.j0] at H
    by_cases c16 : x33_6 = true
    ·subst c16
     have H1 : (some false) = some r := by rw [if_pos rfl] at H; exact H
     clear H
     have H := H1
     clear H1
     exact absurd (Option.some.inj (H.trans (congrArg some hr.out))) (by decide)
    ·replace c16 := Bool.eq_false_iff.mpr c16
     subst c16
     have H1 : ((turn_Fair.f kj6 l0 a1).bind fun bt609 => ((trishawref01_Fair.f kj6 l0 a1).bind fun bt613 => ((trishawlaw01_same.f kj6 bt609.1 bt613.1).bind fun t617 => (if t617 = true then (if bt609.2 = bt613.2 then ((trishawlaw01_alive.f kj6).bind fun t618 => (some t618)) else (some false)) else (some false))))) = some r := by rw [if_neg (show ¬ (false = true) by decide)] at H; exact H
     clear H
     have H := H1
     clear H1
     replace H := Option.bind_eq_some_iff.mp H
     obtain ⟨⟨t609, t610⟩, A170, H⟩ := H
     replace H : ((trishawref01_Fair.f kj6 l0 a1).bind fun bt613 => ((trishawlaw01_same.f kj6 t609 bt613.1).bind fun t617 => (if t617 = true then (if t610 = bt613.2 then ((trishawlaw01_alive.f kj6).bind fun t618 => (some t618)) else (some false)) else (some false)))) = some r := H
     have A17 := Aside0.mk A170
     clear A170
     replace H := Option.bind_eq_some_iff.mp H
     obtain ⟨⟨t613, t614⟩, A180, H⟩ := H
     replace H : ((trishawlaw01_same.f kj6 t609 t613).bind fun t617 => (if t617 = true then (if t610 = t614 then ((trishawlaw01_alive.f kj6).bind fun t618 => (some t618)) else (some false)) else (some false))) = some r := H
     have A18 := Aside0.mk A180
     clear A180
     replace H := Option.bind_eq_some_iff.mp H
     obtain ⟨t617, A190, H⟩ := H
     replace H : (if t617 = true then (if t610 = t614 then ((trishawlaw01_alive.f kj6).bind fun t618 => (some t618)) else (some false)) else (some false)) = some r := H
     have A19 := Aside0.mk A190
     clear A190
     by_cases c20 : t617 = true
     ·subst c20
      have H1 : (if t610 = t614 then ((trishawlaw01_alive.f kj6).bind fun t618 => (some t618)) else (some false)) = some r := by rw [if_pos rfl] at H; exact H
      clear H
      have H := H1
      clear H1
      by_cases c21 : t610 = t614
      ·rw [if_pos c21] at H
       have c21b0 : (t610 == t614) = true := beq_iff_eq.mpr c21
       have c21b1 : (t610 != t614) = false := bne_eq_false_iff_eq.mpr c21
       clear c21
       replace H := Option.bind_eq_some_iff.mp H
       obtain ⟨t618, A220, H⟩ := H
       replace H : (some t618) = some r := H
       have A22 := Aside0.mk A220
       clear A220
       obtain rfl := Option.some.inj H
       go_wp2_with (first | ((with_reducible refine gate_callee (f := 31) rfl ?_); refine goesL_ (some 37) rfl rfl Tryd.func31 (by kernel_rfl) rfl #[.slice A0 l0.length c0, .int .i64 a1] rfl (as_) ?_; (with_reducible refine (turn_Fair.calls kj6 _ _ l0 a1 t609 t610 _ ?side1 ?side2 A17.out).mono ?_); (case side1 => repeat (first | exact (Kd.C_below HR0.out HB.out) | (with_reducible refine Kd.C_alloc ?_ _) | (with_reducible refine Kd.C_drewN ?_ _) | (with_reducible refine Kd.C_drew ?_))); (case side2 => exact HC0.out); rintro e w23 ⟨v611, rfl, ho0, hb⟩; refine ⟨_, rfl, ?_⟩; have n0_ := Aside0.mk (Kd.R_lower ho0 (below_size (bl_))); have n1_ := Aside0.mk (below_step (bl_) hb); clear HB; have HO612 := n0_; have HB := n1_; clear n0_ n1_; (try clear hb); (try clear hb2); (try clear hk); (try clear hi); (try clear ho0)) | ((with_reducible refine gate_callee (f := 34) rfl ?_); refine goesL_ (some 43) rfl rfl Tryd.func34 (by kernel_rfl) rfl #[.slice A0 l0.length c0, .int .i64 a1] rfl (as_) ?_; (with_reducible refine (trishawref01_Fair.calls kj6 _ _ l0 a1 t613 t614 _ ?side1 ?side2 A18.out).mono ?_); (case side1 => repeat (first | exact (Kd.C_below HR0.out HB.out) | (with_reducible refine Kd.C_alloc ?_ _) | (with_reducible refine Kd.C_drewN ?_ _) | (with_reducible refine Kd.C_drew ?_))); (case side2 => exact HC0.out); rintro e w24 ⟨v615, rfl, ho0, hb⟩; refine ⟨_, rfl, ?_⟩; have n0_ := Aside0.mk (Kd.R_elder' (kr_ HO612.out) (Kd.R_base ho0) hb); have n1_ := Aside0.mk (Kd.R_lower (Kd.R_new' ho0 (Kd.R_lt (kr_ HO612.out))) (below_size (bl_))); have n2_ := Aside0.mk (below_step (bl_) hb); clear HO612; clear HB; have HO612 := n0_; have HO616 := n1_; have HB := n2_; clear n0_ n1_ n2_; (try clear hb); (try clear hb2); (try clear hk); (try clear hi); (try clear ho0); obtain ⟨Ao25, co25, eo25⟩ := Kd.R_slice HO612.out; subst eo25; obtain ⟨Ao26, co26, eo26⟩ := Kd.R_slice HO616.out; subst eo26) | ((with_reducible refine gate_callee (f := 22) rfl ?_); refine goesL_ (some 48) rfl rfl Tryd.func22 (by kernel_rfl) rfl #[.slice Ao25 t609.length co25, .slice Ao26 t613.length co26] rfl (as_) ?_; (with_reducible refine (trishawlaw01_same.calls kj6 _ _ t609 _ _ t613 true _ ?side1 ?side2 ?side3 ?side4 A19.out).mono ?_); (case side1 => repeat (first | exact (Kd.R_reads' HO612.out).2.2 | (with_reducible refine Kd.C_alloc ?_ _) | (with_reducible refine Kd.C_drewN ?_ _) | (with_reducible refine Kd.C_drew ?_))); (case side2 => exact (Kd.R_reads' HO612.out).2.1); (case side3 => repeat (first | exact (Kd.R_reads' HO616.out).2.2 | (with_reducible refine Kd.C_alloc ?_ _) | (with_reducible refine Kd.C_drewN ?_ _) | (with_reducible refine Kd.C_drew ?_))); (case side4 => exact (Kd.R_reads' HO616.out).2.1); rintro e w' ⟨rfl, ⟨nd, rfl⟩⟩; refine ⟨_, rfl, ?_⟩) | (go_at_call 17; (with_reducible refine (trishawlaw01_alive.calls kj6  t618 _ A22.out (HN.out.of (bl_))).mono ?_); rintro e w27 ⟨rfl, hb⟩; have n0_ := Aside0.mk (Kd.R_below (kr_ HO612.out) hb); have n1_ := Aside0.mk (Kd.R_below (kr_ HO616.out) hb); have n2_ := Aside0.mk (below_step (bl_) hb); clear HO612; clear HO616; clear HB; have HO612 := n0_; have HO616 := n1_; have HB := n2_; clear n0_ n1_ n2_; (try clear hb); (try clear hb2); (try clear hk); (try clear hi)))
       go_ret
       exact ⟨by first | rfl | (simp [errW_none, errW_some] <;> rfl) | (simp [*, errW_none, errW_some] <;> rfl), bl_⟩
      ·rw [if_neg c21] at H
       have c21b0 : (t610 == t614) = false := beq_eq_false_iff_ne.mpr c21
       have c21b1 : (t610 != t614) = true := bne_iff_ne.mpr c21
       exact absurd (Option.some.inj (H.trans (congrArg some hr.out))) (by decide)
     ·replace c20 := Bool.eq_false_iff.mpr c20
      subst c20
      have H1 : (some false) = some r := by rw [if_neg (show ¬ (false = true) by decide)] at H; exact H
      clear H
      have H := H1
      clear H1
      exact absurd (Option.some.inj (H.trans (congrArg some hr.out))) (by decide)
 ·replace c4 := Bool.eq_false_iff.mpr c4
  subst c4
  have H1 : ((trishawlaw01_alive.f k).bind fun t599 => (some t599)) = some r := by rw [if_neg (show ¬ (false = true) by decide)] at H; exact H
  clear H
  have H := H1
  clear H1
  replace H := Option.bind_eq_some_iff.mp H
  obtain ⟨t599, A360, H⟩ := H
  replace H : (some t599) = some r := H
  have A36 := Aside0.mk A360
  clear A360
  obtain rfl := Option.some.inj H
  go_enter Tryd.func8, Tryd.ntmps8
  go_wp2_with (first | ((with_reducible refine gate_callee (f := 16) rfl ?_); refine goesL_ (some 10) rfl rfl Tryd.func16 (by kernel_rfl) rfl #[.slice A0 l0.length c0, .slice none 0 0] rfl (as_) ?_; (refine (trishawlaw01_few.calls _ _ l0 _ _ ([] : List Int) false _ ?side1 ?side2 ?side3 ?side4 A3.out).mono ?_); (case side1 => repeat (first | exact HR0.out | (with_reducible refine Kd.C_alloc ?_ _) | (with_reducible refine Kd.C_drewN ?_ _) | (with_reducible refine Kd.C_drew ?_))); (case side2 => exact HC0.out); (case side3 => exact Kd.C_nil _ _); (case side4 => exact Nat.le_refl _); rintro e w' ⟨rfl, ⟨nd, rfl⟩⟩; refine ⟨_, rfl, ?_⟩) | ((with_reducible refine gate_callee (f := 17) rfl ?_); refine goesL_ (some 12) rfl rfl Tryd.func17 (by kernel_rfl) rfl #[] rfl (as_) ?_; (with_reducible refine (trishawlaw01_alive.calls k  t599 _ A36.out (HN.out.of (bl_))).mono ?_); rintro e w37 ⟨rfl, hb⟩; refine ⟨_, rfl, ?_⟩; have n0_ := Aside0.mk (below_step (bl_) hb); clear HB; have HB := n0_; clear n0_; (try clear hb); (try clear hb2); (try clear hk); (try clear hi)))
  go_ret
  exact ⟨by first | rfl | (simp [errW_none, errW_some] <;> rfl) | (simp [*, errW_none, errW_some] <;> rfl), bl_⟩

/-- THE ONE PURE STATEMENT of trishawlaw01_TurnCalls: yours. -/
def trishawlaw01_TurnCalls.Pure : Prop := ∀ (l0 : List Int) (a1 : Int), l0.length ≤ maxLen → l0.length * 8 ≤ 140737488351232 → (∀ x ∈ l0, (Lit.int .i64 x).wf = true) → (Lit.int .i64 a1).wf = true → ∃ k, trishawlaw01_TurnCalls.f k l0 a1 = some true
theorem trishawlaw01_TurnCalls.walk (P : trishawlaw01_TurnCalls.Pure) (a0 : Option Addr) (len0 cap0 : Nat) (z0 : List Int) (a1 : Int) (w : World) (w0 : (a0 = none ∧ len0 = 0 ∧ cap0 = 0 ∧ z0 = []) ∨ ∃ x, a0 = some x ∧ len0 ≤ cap0 ∧ cap0 ≤ maxLen ∧ z0.length = cap0 ∧ (∀ i, i < z0.length → w.cell? (x.add i) = some (.int .i64 (z0.getD i 0))) ∧ ∀ n ∈ z0, (Lit.int .i64 n).wf = true) (y0 : len0 * 8 ≤ 140737488351232) (w1 : (Lit.int .i64 a1).wf = true) (hN0 : NoneLaid w) :
    Calls Tryd.prog 8 #[.slice a0 len0 cap0, .int .i64 a1] w fun e w' => e = .returned (.bool true) ∧ Below w.heap.size w w' := by
 obtain ⟨l0, rfl, hr0, hm0, hw0, hc0⟩ := ReadsInt.ofRowC w0
 obtain ⟨k, h⟩ := P l0 a1 hm0 y0 hw0 w1
 refine (trishawlaw01_TurnCalls.calls k _ _ l0 a1 true w (Kd.C_of_reads (d := (0 : Int)) (h1 := fun _ => rfl) hr0) hc0 h hN0 rfl).mono ?_
 rintro e w' ⟨rfl, hd⟩
 exact ⟨rfl, hd⟩

end Go.Proofs.YtgobffgogmnmpaaDoor.P
