-- Written by wip/tools/myprint.py of this session's repo, over the kit's printer and hand texts.
import Derived.Test.YtgobffgogmnmpaaDoorPx0
import Derived.Test.YtgobffgogmnmpaaDoorPre
import Derived.Test.YtgobffgogmnmpaaDoorPx10
import Derived.Test.YtgobffgogmnmpaaDoorPx11
import Derived.Test.YtgobffgogmnmpaaDoorPx12
import Derived.Test.YtgobffgogmnmpaaDoorPx28
import Derived.Test.YtgobffgogmnmpaaDoorPx39
namespace Go.Proofs.YtgobffgogmnmpaaDoor.P
open Go.RowKit Go.Proofs.YtgobffgogmnmpaaDoorW.PrintWords Go.Proofs.YtgobffgogmnmpaaDoorW.PrintLast Go.Proofs.YtgobffgogmnmpaaDoorW.PrintMore
attribute [local go_sem] max2_int min2_int max_two min_two max_three min_three max_four min_four   -- for this text's walks alone
set_option linter.unusedVariables false
set_option linter.unusedSimpArgs false

/-! ### trishawref01_Windows: function 41 -/
def trishawref01_Windows.f (k : Nat) (l0 : List Int) (a1_0 : Int) (a1_1 : Int) : Option ((List (List (S51))) × Int) := (trishawref01_Shares.f k l0).bind fun bt1071 => (if bt1071.2 = 0 then ((trishawref01_IsBound.f k a1_0 a1_1).bind fun t1073 => (if t1073 = true then ((trishawref01_scaled.f k a1_0 a1_1 bt1071.1).bind fun t1074 => ((trishawref01_windows.f k l0 bt1071.1 t1074).bind fun t1075 => (some (t1075, 0)))) else (some (([] : List (List (S51))), 2)))) else (some (([] : List (List (S51))), bt1071.2)))
set_option maxHeartbeats 8000000 in
set_option maxRecDepth 100000 in
theorem trishawref01_Windows.calls (k : Nat) (A0 : Option Addr) (c0 : Nat) (l0 : List Int) (a1_0 : Int) (a1_1 : Int) (r1 : List (List (S51))) (r2 : Int) (w : World) (hr0 : Kd.C (Kd.int .i64) w A0 l0.length l0) (hc0 : l0.length ≤ c0) (h : trishawref01_Windows.f k l0 a1_0 a1_1 = some (r1, r2)) :
    Calls Tryd.prog 41 #[.slice A0 l0.length c0, .agg #[.int .i64 a1_0, .int .i64 a1_1]] w fun e w' => ∃ v0_ : Value, e = .returned (.tuple #[v0_, .int .i64 r2]) ∧ Kd.S (Kd.slice 51 k51) 49 w' w.heap.size (fun _ => True) v0_ r1 ∧ Below w.heap.size w w' := by
 have hu26 := Tryd.underlying26
 have HR0 := Aside0.mk hr0
 have HC0 := Aside0.mk hc0
 clear hr0 hc0
 have HB := Aside0.mk (Below.refl w.heap.size w)
 have H : ((trishawref01_Shares.f k l0).bind fun bt1071 => (if bt1071.2 = 0 then ((trishawref01_IsBound.f k a1_0 a1_1).bind fun t1073 => (if t1073 = true then ((trishawref01_scaled.f k a1_0 a1_1 bt1071.1).bind fun t1074 => ((trishawref01_windows.f k l0 bt1071.1 t1074).bind fun t1075 => (some (t1075, 0)))) else (some (([] : List (List (S51))), 2)))) else (some (([] : List (List (S51))), bt1071.2)))) = some (r1, r2) := h
 clear h
 obtain ⟨⟨t1071, t1072⟩, A3, H⟩ := bi_ H
 replace H : (if t1072 = 0 then ((trishawref01_IsBound.f k a1_0 a1_1).bind fun t1073 => (if t1073 = true then ((trishawref01_scaled.f k a1_0 a1_1 t1071).bind fun t1074 => ((trishawref01_windows.f k l0 t1071 t1074).bind fun t1075 => (some (t1075, 0)))) else (some (([] : List (List (S51))), 2)))) else (some (([] : List (List (S51))), t1072))) = some (r1, r2) := H
 by_cases c4 : t1072 = 0
 ·rw [if_pos c4] at H
  have c4b0 : (t1072 == 0) = true := beq_iff_eq.mpr c4
  have c4b1 : (t1072 != 0) = false := bne_eq_false_iff_eq.mpr c4
  clear c4
  obtain ⟨t1073, A5, H⟩ := bi_ H
  replace H : (if t1073 = true then ((trishawref01_scaled.f k a1_0 a1_1 t1071).bind fun t1074 => ((trishawref01_windows.f k l0 t1071 t1074).bind fun t1075 => (some (t1075, 0)))) else (some (([] : List (List (S51))), 2))) = some (r1, r2) := H
  by_cases c6 : t1073 = true
  ·subst c6
   have H1 : ((trishawref01_scaled.f k a1_0 a1_1 t1071).bind fun t1074 => ((trishawref01_windows.f k l0 t1071 t1074).bind fun t1075 => (some (t1075, 0)))) = some (r1, r2) := by rw [if_pos rfl] at H; exact H
   clear H
   have H := H1
   clear H1
   obtain ⟨t1074, A7, H⟩ := bi_ H
   replace H : ((trishawref01_windows.f k l0 t1071 t1074).bind fun t1075 => (some (t1075, 0))) = some (r1, r2) := H
   obtain ⟨t1075, A8, H⟩ := bi_ H
   replace H : (some (t1075, 0)) = some (r1, r2) := H
   simp only [Option.some.injEq, Prod.mk.injEq] at H
   obtain ⟨rfl, rfl⟩ := H
   go_enter Tryd.func41, Tryd.ntmps41
   go_wp2_with (first | ((with_reducible refine gate_dst (N := 3) rfl ?_); refine be_ #[.int .i64 a1_0, .int .i64 a1_1] 26 ?_; intro gb1070 hg w9 hbox hb; have BK1070 := Aside0.mk (hbox); have GW1070 := gw_ hg; have GE1070 := gw_ hg; replace HB := hb_ hb; clear hb hbox hg) | ((with_reducible refine gate_callee (f := 23) rfl ?_); refine goesL_ (some 10) rfl rfl Tryd.func23 (by kernel_rfl) rfl #[.slice A0 l0.length c0] rfl (as_) ?_; (with_reducible refine (trishawref01_Shares.calls k _ _ l0 t1071 t1072 _ ?side1 ?side2 A3.out).mono ?_); (case side1 => exact cb_ HR0.out); (case side2 => exact HC0.out); rintro e w' ⟨rfl, ⟨nd, rfl⟩⟩; refine ⟨_, rfl, ?_⟩; have hcz10_0 := bc_ BK1070 0 (.int .i64 a1_0); have hcz10_1 := bc_ BK1070 1 (.int .i64 a1_1); have hfz10_0 := bz_ BK1070 0; have hfz10_1 := bz_ BK1070 1) | ((with_reducible refine gate_callee (f := 35) rfl ?_); refine goesL_ (some 17) rfl rfl Tryd.func35 (by kernel_rfl) rfl #[.agg #[.int .i64 a1_0, .int .i64 a1_1]] rfl (as_) ?_; (with_reducible refine (trishawref01_IsBound.calls k a1_0 a1_1 true _ A5.out).mono ?_); rintro e w11 ⟨rfl, hb⟩; refine ⟨_, rfl, ?_⟩; replace BK1070 := bb_ BK1070 hb; replace HB := hb_ hb; clear hb; have hcz12_0 := bc_ BK1070 0 (.int .i64 a1_0); have hcz12_1 := bc_ BK1070 1 (.int .i64 a1_1); have hfz12_0 := bz_ BK1070 0; have hfz12_1 := bz_ BK1070 1) | ((with_reducible refine gate_callee (f := 65) rfl ?_); refine goesL_ (some 23) rfl rfl Tryd.func65 (by kernel_rfl) rfl #[.agg #[.int .i64 a1_0, .int .i64 a1_1], .int .i64 t1071] rfl (as_) ?_; (with_reducible refine (trishawref01_scaled.calls k a1_0 a1_1 t1071 t1074 _ A7.out).mono ?_); rintro e w13 ⟨rfl, hb⟩; refine ⟨_, rfl, ?_⟩; replace BK1070 := bb_ BK1070 hb; replace HB := hb_ hb; clear hb) | ((with_reducible refine gate_callee (f := 48) rfl ?_); refine goesL_ (some 24) rfl rfl Tryd.func48 (by kernel_rfl) rfl #[.slice A0 l0.length c0, .int .i64 t1071, .int .i64 t1074] rfl (as_) ?_; (with_reducible refine (trishawref01_windows.calls k _ _ l0 t1071 t1074 t1075 _ ?side1 ?side2 A8.out).mono ?_); (case side1 => exact cb_ HR0.out); (case side2 => exact HC0.out); rintro e w14 ⟨v1076, rfl, ho0, hb⟩; refine ⟨_, rfl, ?_⟩; have HO1077 := Aside0.mk (Kd.S_lower ho0 (below_size (bl_))); replace BK1070 := bb_ BK1070 hb; replace HB := hb_ hb; clear hb ho0))
   go_ret2
   exact ⟨_, er_, by refine ks_ ?_; exact HO1077.out, bl_⟩
  ·replace c6 := Bool.eq_false_iff.mpr c6
   subst c6
   have H1 : (some (([] : List (List (S51))), 2)) = some (r1, r2) := by rw [if_neg (show ¬ (false = true) by decide)] at H; exact H
   clear H
   have H := H1
   clear H1
   simp only [Option.some.injEq, Prod.mk.injEq] at H
   obtain ⟨rfl, rfl⟩ := H
   go_enter Tryd.func41, Tryd.ntmps41
   go_wp2_with (first | ((with_reducible refine gate_dst (N := 3) rfl ?_); refine be_ #[.int .i64 a1_0, .int .i64 a1_1] 26 ?_; intro gb1070 hg w15 hbox hb; have BK1070 := Aside0.mk (hbox); have GW1070 := gw_ hg; have GE1070 := gw_ hg; replace HB := hb_ hb; clear hb hbox hg) | ((with_reducible refine gate_callee (f := 23) rfl ?_); refine goesL_ (some 10) rfl rfl Tryd.func23 (by kernel_rfl) rfl #[.slice A0 l0.length c0] rfl (as_) ?_; (with_reducible refine (trishawref01_Shares.calls k _ _ l0 t1071 t1072 _ ?side1 ?side2 A3.out).mono ?_); (case side1 => exact cb_ HR0.out); (case side2 => exact HC0.out); rintro e w' ⟨rfl, ⟨nd, rfl⟩⟩; refine ⟨_, rfl, ?_⟩; have hcz16_0 := bc_ BK1070 0 (.int .i64 a1_0); have hcz16_1 := bc_ BK1070 1 (.int .i64 a1_1); have hfz16_0 := bz_ BK1070 0; have hfz16_1 := bz_ BK1070 1) | ((with_reducible refine gate_callee (f := 35) rfl ?_); refine goesL_ (some 17) rfl rfl Tryd.func35 (by kernel_rfl) rfl #[.agg #[.int .i64 a1_0, .int .i64 a1_1]] rfl (as_) ?_; (with_reducible refine (trishawref01_IsBound.calls k a1_0 a1_1 false _ A5.out).mono ?_); rintro e w17 ⟨rfl, hb⟩; refine ⟨_, rfl, ?_⟩; replace BK1070 := bb_ BK1070 hb; replace HB := hb_ hb; clear hb))
   go_ret2
   exact ⟨_, er_, by first | exact Kd.S_nil _ _ _ _ _ | exact Kd.N_nil _ _ _ _ _ | exact Kd.V_nil _ _ _ _ _ | exact Kd.Q_nil _ _ _ _ _ | exact Kd.R_nil _ _ _ _ _, bl_⟩
 ·rw [if_neg c4] at H
  have c4b0 : (t1072 == 0) = false := beq_eq_false_iff_ne.mpr c4
  have c4b1 : (t1072 != 0) = true := bne_iff_ne.mpr c4
  simp only [Option.some.injEq, Prod.mk.injEq] at H
  obtain ⟨rfl, rfl⟩ := H
  go_enter Tryd.func41, Tryd.ntmps41
  go_wp2_with (first | ((with_reducible refine gate_dst (N := 3) rfl ?_); refine be_ #[.int .i64 a1_0, .int .i64 a1_1] 26 ?_; intro gb1070 hg w18 hbox hb; have BK1070 := Aside0.mk (hbox); have GW1070 := gw_ hg; have GE1070 := gw_ hg; replace HB := hb_ hb; clear hb hbox hg) | ((with_reducible refine gate_callee (f := 23) rfl ?_); refine goesL_ (some 10) rfl rfl Tryd.func23 (by kernel_rfl) rfl #[.slice A0 l0.length c0] rfl (as_) ?_; (with_reducible refine (trishawref01_Shares.calls k _ _ l0 t1071 t1072 _ ?side1 ?side2 A3.out).mono ?_); (case side1 => exact cb_ HR0.out); (case side2 => exact HC0.out); rintro e w' ⟨rfl, ⟨nd, rfl⟩⟩; refine ⟨_, rfl, ?_⟩))
  go_ret2
  exact ⟨_, er_, by first | exact Kd.S_nil _ _ _ _ _ | exact Kd.N_nil _ _ _ _ _ | exact Kd.V_nil _ _ _ _ _ | exact Kd.Q_nil _ _ _ _ _ | exact Kd.R_nil _ _ _ _ _, bl_⟩

/-! ### trishawref01_Feasible: function 42 -/
def trishawref01_Feasible.f (k : Nat) (l0 : List Int) (a1_0 : Int) (a1_1 : Int) : Option (Bool × Int) := (trishawref01_Shares.f k l0).bind fun bt1079 => (if bt1079.2 = 0 then ((trishawref01_IsBound.f k a1_0 a1_1).bind fun t1081 => (if t1081 = true then ((trishawref01_scaled.f k a1_0 a1_1 bt1079.1).bind fun t1082 => ((trishawref01_windows.f k l0 bt1079.1 t1082).bind fun t1083 => (if 0 ≤ (l0.length : Int) then (if ((l0.length : Int) : Int).toNat ≤ 35184372088832 then ((trishawref01_goes.f k t1083 (List.replicate ((l0.length : Int) : Int).toNat 0) 0 bt1079.1).bind fun t1089 => (some (t1089, 0))) else (none)) else (none)))) else (some (false, 2)))) else (some (false, bt1079.2)))
def trishawref01_Feasible.T6 : Bool × List (List Nat × List Nat) := (true, [([], []), ([], []), ([], []), ([], []), ([2, 3], [2, 3]), ([0, 1, 4, 4], [0, 1, 4]), ([], []), ([6], [6]), ([7, 7], [7]), ([], []), ([5, 8, 9, 5], [5, 8, 9]), ([10, 10, 0, 1, 2, 3, 4, 5, 6, 7, 8, 9, 10], [10]), ([11, 0, 1, 2, 3, 4, 5, 6, 7, 8, 9, 10, 11], [])])
def trishawref01_Feasible.B6 : List Nat := [0, 0, 0, 0, 12, 31, 0, 64, 192, 0, 1023, 2047, 4095]
theorem trishawref01_Feasible.tab6 : rtab .any (opsOf Tryd.f42 6) = trishawref01_Feasible.T6 := by kernel_rfl
theorem trishawref01_Feasible.bits6 : waitsOk trishawref01_Feasible.T6.2 trishawref01_Feasible.B6 = true := by kernel_rfl
set_option maxHeartbeats 8000000 in
set_option maxRecDepth 100000 in
theorem trishawref01_Feasible.calls (k : Nat) (A0 : Option Addr) (c0 : Nat) (l0 : List Int) (a1_0 : Int) (a1_1 : Int) (r1 : Bool) (r2 : Int) (w : World) (hr0 : Kd.C (Kd.int .i64) w A0 l0.length l0) (hc0 : l0.length ≤ c0) (h : trishawref01_Feasible.f k l0 a1_0 a1_1 = some (r1, r2)) :
    Calls Tryd.prog 42 #[.slice A0 l0.length c0, .agg #[.int .i64 a1_0, .int .i64 a1_1]] w fun e w' => e = .returned (.tuple #[.bool r1, .int .i64 r2]) ∧ Below w.heap.size w w' := by
 have hu26 := Tryd.underlying26
 have HR0 := Aside0.mk hr0
 have HC0 := Aside0.mk hc0
 clear hr0 hc0
 have HB := Aside0.mk (Below.refl w.heap.size w)
 have H : ((trishawref01_Shares.f k l0).bind fun bt1079 => (if bt1079.2 = 0 then ((trishawref01_IsBound.f k a1_0 a1_1).bind fun t1081 => (if t1081 = true then ((trishawref01_scaled.f k a1_0 a1_1 bt1079.1).bind fun t1082 => ((trishawref01_windows.f k l0 bt1079.1 t1082).bind fun t1083 => (if 0 ≤ (l0.length : Int) then (if ((l0.length : Int) : Int).toNat ≤ 35184372088832 then ((trishawref01_goes.f k t1083 (List.replicate ((l0.length : Int) : Int).toNat 0) 0 bt1079.1).bind fun t1089 => (some (t1089, 0))) else (none)) else (none)))) else (some (false, 2)))) else (some (false, bt1079.2)))) = some (r1, r2) := h
 clear h
 obtain ⟨⟨t1079, t1080⟩, A3, H⟩ := bi_ H
 replace H : (if t1080 = 0 then ((trishawref01_IsBound.f k a1_0 a1_1).bind fun t1081 => (if t1081 = true then ((trishawref01_scaled.f k a1_0 a1_1 t1079).bind fun t1082 => ((trishawref01_windows.f k l0 t1079 t1082).bind fun t1083 => (if 0 ≤ (l0.length : Int) then (if ((l0.length : Int) : Int).toNat ≤ 35184372088832 then ((trishawref01_goes.f k t1083 (List.replicate ((l0.length : Int) : Int).toNat 0) 0 t1079).bind fun t1089 => (some (t1089, 0))) else (none)) else (none)))) else (some (false, 2)))) else (some (false, t1080))) = some (r1, r2) := H
 by_cases c4 : t1080 = 0
 ·rw [if_pos c4] at H
  have c4b0 : (t1080 == 0) = true := beq_iff_eq.mpr c4
  have c4b1 : (t1080 != 0) = false := bne_eq_false_iff_eq.mpr c4
  clear c4
  obtain ⟨t1081, A5, H⟩ := bi_ H
  replace H : (if t1081 = true then ((trishawref01_scaled.f k a1_0 a1_1 t1079).bind fun t1082 => ((trishawref01_windows.f k l0 t1079 t1082).bind fun t1083 => (if 0 ≤ (l0.length : Int) then (if ((l0.length : Int) : Int).toNat ≤ 35184372088832 then ((trishawref01_goes.f k t1083 (List.replicate ((l0.length : Int) : Int).toNat 0) 0 t1079).bind fun t1089 => (some (t1089, 0))) else (none)) else (none)))) else (some (false, 2))) = some (r1, r2) := H
  by_cases c6 : t1081 = true
  ·subst c6
   have H1 : ((trishawref01_scaled.f k a1_0 a1_1 t1079).bind fun t1082 => ((trishawref01_windows.f k l0 t1079 t1082).bind fun t1083 => (if 0 ≤ (l0.length : Int) then (if ((l0.length : Int) : Int).toNat ≤ 35184372088832 then ((trishawref01_goes.f k t1083 (List.replicate ((l0.length : Int) : Int).toNat 0) 0 t1079).bind fun t1089 => (some (t1089, 0))) else (none)) else (none)))) = some (r1, r2) := by rw [if_pos rfl] at H; exact H
   clear H
   have H := H1
   clear H1
   obtain ⟨t1082, A7, H⟩ := bi_ H
   replace H : ((trishawref01_windows.f k l0 t1079 t1082).bind fun t1083 => (if 0 ≤ (l0.length : Int) then (if ((l0.length : Int) : Int).toNat ≤ 35184372088832 then ((trishawref01_goes.f k t1083 (List.replicate ((l0.length : Int) : Int).toNat 0) 0 t1079).bind fun t1089 => (some (t1089, 0))) else (none)) else (none))) = some (r1, r2) := H
   obtain ⟨t1083, A8, H⟩ := bi_ H
   replace H : (if 0 ≤ (l0.length : Int) then (if ((l0.length : Int) : Int).toNat ≤ 35184372088832 then ((trishawref01_goes.f k t1083 (List.replicate ((l0.length : Int) : Int).toNat 0) 0 t1079).bind fun t1089 => (some (t1089, 0))) else (none)) else (none)) = some (r1, r2) := H
   have c9 : 0 ≤ (l0.length : Int) := fl_ fun c9 => by rw [if_neg c9] at H; exact absurd H (by simp)
   rw [if_pos c9] at H
   have c9b0 := eq_true c9
   have c9b1 : decide (0 ≤ (l0.length : Int)) = true := decide_eq_true c9
   clear c9
   have c10 : ((l0.length : Int) : Int).toNat ≤ 35184372088832 := fl_ fun c10 => by rw [if_neg c10] at H; exact absurd H (by simp)
   rw [if_pos c10] at H
   have c10b0 := eq_true c10
   have c10b1 : decide (((l0.length : Int) : Int).toNat ≤ 35184372088832) = true := decide_eq_true c10
   clear c10
   obtain ⟨y1086, hy1086⟩ : ∃ y_ : List Int, y_ = (List.replicate ((l0.length : Int) : Int).toNat 0) := ⟨_, rfl⟩
   replace H : ((trishawref01_goes.f k t1083 y1086 0 t1079).bind fun t1089 => (some (t1089, 0))) = some (r1, r2) := by first | (rw [hy1086]; with_reducible exact H) | (have H2_ := (Option.bind_some _ _).symm.trans H; rw [hy1086]; with_reducible exact H2_) | (have H2_ := (Option.bind_some _ _).symm.trans H; with_reducible exact H2_) | with_reducible exact H | (rw [hy1086]; exact H) | exact H
   have Ny1086 := Aside0.mk hy1086
   clear hy1086
   obtain ⟨t1089, A11, H⟩ := bi_ H
   replace H : (some (t1089, 0)) = some (r1, r2) := H
   simp only [Option.some.injEq, Prod.mk.injEq] at H
   obtain ⟨rfl, rfl⟩ := H
   go_enter Tryd.func42, Tryd.ntmps42
   try go_wp2_with (first | ((with_reducible refine gate_dst (N := 3) rfl ?_); refine be_ #[.int .i64 a1_0, .int .i64 a1_1] 26 ?_; intro gb1078 hg w12 hbox hb; have BK1078 := Aside0.mk (hbox); have GW1078 := gw_ hg; have GE1078 := gw_ hg; replace HB := hb_ hb; clear hb hbox hg) | ((with_reducible refine gate_callee (f := 23) rfl ?_); refine goesL_ (some 10) rfl rfl Tryd.func23 (by kernel_rfl) rfl #[.slice A0 l0.length c0] rfl (as_) ?_; (with_reducible refine (trishawref01_Shares.calls k _ _ l0 t1079 t1080 _ ?side1 ?side2 A3.out).mono ?_); (case side1 => exact cb_ HR0.out); (case side2 => exact HC0.out); rintro e w' ⟨rfl, ⟨nd, rfl⟩⟩; refine ⟨_, rfl, ?_⟩; have hcz13_0 := bc_ BK1078 0 (.int .i64 a1_0); have hcz13_1 := bc_ BK1078 1 (.int .i64 a1_1); have hfz13_0 := bz_ BK1078 0; have hfz13_1 := bz_ BK1078 1) | ((with_reducible refine gate_callee (f := 35) rfl ?_); refine goesL_ (some 17) rfl rfl Tryd.func35 (by kernel_rfl) rfl #[.agg #[.int .i64 a1_0, .int .i64 a1_1]] rfl (as_) ?_; (with_reducible refine (trishawref01_IsBound.calls k a1_0 a1_1 true _ A5.out).mono ?_); rintro e w14 ⟨rfl, hb⟩; refine ⟨_, rfl, ?_⟩; replace BK1078 := bb_ BK1078 hb; replace HB := hb_ hb; clear hb))
   replace BK1078 := Aside0.mk (blk_drew BK1078.out)
   replace HB := Aside0.mk (below_drew1 HB.out)
   refine start_ (n := 13) (S := fun w' => w'.cell? ⟨gb1078, 0, none⟩ = some (.int .i64 a1_0) ∧ w'.cell? ⟨gb1078, 1, none⟩ = some (.int .i64 a1_1)) (ds := []) #[false, false, false, false, false, false, false, false, false, false, false, false, false] (by kernel_rfl) rfl rfl ⟨(blk_cell BK1078.out 0).trans rfl, (blk_cell BK1078.out 1).trans rfl⟩ (fun hHeld => ?_); refine with_tabW trishawref01_Feasible.tab6 trishawref01_Feasible.bits6 (fun HT_ HW_ => ?_)
   generalize w14.drew = w15 at BK1078 HB hHeld ⊢
   refine pu_ 0 19 HT_.out (h := ?_)
   refine pu_ 1 20 HT_.out (h := ?_)
   refine pu_ 3 22 HT_.out (h := ?_)
   refine pu_ 6 25 HT_.out (h := ?_)
   refine pu_ 7 26 HT_.out (h := ?_)
   refine pu_ 9 28 HT_.out (h := ?_)
   refine ta_ 2 21 HT_.out HW_.out hHeld (h := ?_)
   refine join_ (σ := Value × Value) 3 #[true, true, true, true, true, true, true, true, true, true, false, false, false] (fun s_ => [(23, .int .i64 t1082), (24, s_.1), (27, s_.2)]) (fun s_ w' => (w'.cell? ⟨gb1078, 0, none⟩ = some (.int .i64 a1_0) ∧ w'.cell? ⟨gb1078, 1, none⟩ = some (.int .i64 a1_1)) ∧ (Kd.S (Kd.slice 51 k51) 49 w' w.heap.size (fun _ => True) s_.1 t1083) ∧ (Kd.R (Kd.int .i64) 3 w' w.heap.size (fun _ => True) s_.2 y1086) ∧ (w'.heap[gb1078]? = some (.cells #[.int .i64 a1_0, .int .i64 a1_1] 26 (0, 0))) ∧ (Below w.heap.size w w')) ?_ ?_
   rotate_left
   ·intro hCont
    refine two_ (i := 4) (j := 8) (Ni := some 23) (Nj := some 27) #[true, true, true, true, true, false, true, true, false, true, false, false, false] #[true, true, true, true, false, false, true, true, true, true, false, false, false] rfl rfl rfl rfl (two_of HT_.out (by kernel_rfl)) (by decide) (by decide) (fun K hK => ?_) (fun K hK => ?_)
    ·skip
     refine goes_ Tryd.func65 (by kernel_rfl) rfl #[.agg #[.int .i64 a1_0, .int .i64 a1_1], .int .i64 t1079] (by rfl) rfl rfl (as_) ?_
     with_reducible refine (trishawref01_scaled.calls k a1_0 a1_1 t1079 t1082 _ A7.out).mono ?_
     rintro e w16 ⟨rfl, hb⟩
     refine ⟨_, rfl, ?_⟩
     replace BK1078 := bb_ BK1078 hb
     replace HB := hb_ hb
     clear hb
     refine hK.out _ _ ⟨(blk_cell BK1078.out 0).trans rfl, (blk_cell BK1078.out 1).trans rfl⟩ (fun hHeld => ?_)
     clear hK K
     refine np_ 23 (h := ?_)
     refine two_ (i := 5) (j := 8) (Ni := some 24) (Nj := some 27) #[true, true, true, true, true, true, true, true, false, true, false, false, false] #[true, true, true, true, true, false, true, true, true, true, false, false, false] rfl rfl rfl rfl (two_of HT_.out (by kernel_rfl)) (by decide) (by decide) (fun K hK => ?_) (fun K hK => ?_)
     ·skip
      refine goes_ Tryd.func48 (by kernel_rfl) rfl #[.slice A0 l0.length c0, .int .i64 t1079, .int .i64 t1082] (by rfl) rfl rfl (as_) ?_
      with_reducible refine (trishawref01_windows.calls k _ _ l0 t1079 t1082 t1083 _ ?side1 ?side2 A8.out).mono ?_
      (case side1 => exact cb_ HR0.out)
      (case side2 => exact HC0.out)
      rintro e w17 ⟨v1084, rfl, ho0, hb⟩
      refine ⟨_, rfl, ?_⟩
      have HO1085 := Aside0.mk (Kd.S_lower ho0 (below_size (bl_)))
      replace BK1078 := bb_ BK1078 hb
      replace HB := hb_ hb
      clear hb ho0
      refine hK.out _ _ ⟨(blk_cell BK1078.out 0).trans rfl, (blk_cell BK1078.out 1).trans rfl⟩ (fun hHeld => ?_)
      clear hK K
      refine np_ 24 (h := ?_)
      refine one_ (i := 8) (N := some 27) #[true, true, true, true, true, true, true, true, true, true, false, false, false] rfl rfl (one_of HT_.out (by kernel_rfl)) (by decide) (fun K hK => ?_)
      refine Kd.R_make_step (Kd.int .i64) _ 3 (by rfl) (N := 27) rfl 22 _ _ rfl (l0.length : Int) rfl rfl Tryd.underlying22 (.int .i64 0) 8 info3 rfl (by decide) (by omega) 0 (ok := fun _ => True) (okp := fun _ => True) rfl (fun _ hk => hk) trivial (od_) (Nat.le_trans (Nat.mul_le_mul_right _ (od_ : (l0.length : Int).toNat ≤ 35184372088832)) (by omega)) (Below.refl _ _) (Nat.le_refl _) ?_
      intro v1087 w18 ho19 hb hg_ hnew_
      clear hg_ hnew_
      (first | rw [← Ny1086.out] at ho19 | (simp only [Int.reduceToNat] at ho19; rw [← Ny1086.out] at ho19))
      replace HO1085 := Aside0.mk (Kd.S_below (ks_ HO1085.out) hb)
      have HO1088 := rl_ ho19
      replace BK1078 := bb_ BK1078 hb
      replace HB := hb_ hb
      clear hb ho19
      refine hK.out _ _ ⟨(blk_cell BK1078.out 0).trans rfl, (blk_cell BK1078.out 1).trans rfl⟩ (fun hHeld => ?_)
      clear hK K
      refine np_ 27 (h := ?_)
      exact norm_ (by simp only [putAll, Act.put, List.setIfInBounds_toArray, List.set_cons_zero, List.set_cons_succ]) (hCont (v1084, v1087) _ ⟨hHeld, (ks_ HO1085.out), (kr_ HO1088.out), (bk_ BK1078.out), (bl_)⟩)
     ·skip
      refine Kd.R_make_step (Kd.int .i64) _ 3 (by rfl) (N := 27) rfl 22 _ _ rfl (l0.length : Int) rfl rfl Tryd.underlying22 (.int .i64 0) 8 info3 rfl (by decide) (by omega) 0 (ok := fun _ => True) (okp := fun _ => True) rfl (fun _ hk => hk) trivial (od_) (Nat.le_trans (Nat.mul_le_mul_right _ (od_ : (l0.length : Int).toNat ≤ 35184372088832)) (by omega)) (Below.refl _ _) (Nat.le_refl _) ?_
      intro v1087 w17 ho18 hb hg_ hnew_
      clear hg_ hnew_
      (first | rw [← Ny1086.out] at ho18 | (simp only [Int.reduceToNat] at ho18; rw [← Ny1086.out] at ho18))
      have HO1088 := rl_ ho18
      replace BK1078 := bb_ BK1078 hb
      replace HB := hb_ hb
      clear hb ho18
      refine hK.out _ _ ⟨(blk_cell BK1078.out 0).trans rfl, (blk_cell BK1078.out 1).trans rfl⟩ (fun hHeld => ?_)
      clear hK K
      refine np_ 27 (h := ?_)
      refine one_ (i := 5) (N := some 24) #[true, true, true, true, true, true, true, true, true, true, false, false, false] rfl rfl (one_of HT_.out (by kernel_rfl)) (by decide) (fun K hK => ?_)
      refine goes_ Tryd.func48 (by kernel_rfl) rfl #[.slice A0 l0.length c0, .int .i64 t1079, .int .i64 t1082] (by rfl) rfl rfl (as_) ?_
      with_reducible refine (trishawref01_windows.calls k _ _ l0 t1079 t1082 t1083 _ ?side1 ?side2 A8.out).mono ?_
      (case side1 => exact cb_ HR0.out)
      (case side2 => exact HC0.out)
      rintro e w19 ⟨v1084, rfl, ho0, hb⟩
      refine ⟨_, rfl, ?_⟩
      replace HO1088 := rb_ HO1088 hb
      have HO1085 := Aside0.mk (Kd.S_lower ho0 (below_size (bl_)))
      replace BK1078 := bb_ BK1078 hb
      replace HB := hb_ hb
      clear hb ho0
      refine hK.out _ _ ⟨(blk_cell BK1078.out 0).trans rfl, (blk_cell BK1078.out 1).trans rfl⟩ (fun hHeld => ?_)
      clear hK K
      refine np_ 24 (h := ?_)
      exact norm_ (by simp only [putAll, Act.put, List.setIfInBounds_toArray, List.set_cons_zero, List.set_cons_succ]) (hCont (v1084, v1087) _ ⟨hHeld, (ks_ HO1085.out), (kr_ HO1088.out), (bk_ BK1078.out), (bl_)⟩)
    ·skip
     refine Kd.R_make_step (Kd.int .i64) _ 3 (by rfl) (N := 27) rfl 22 _ _ rfl (l0.length : Int) rfl rfl Tryd.underlying22 (.int .i64 0) 8 info3 rfl (by decide) (by omega) 0 (ok := fun _ => True) (okp := fun _ => True) rfl (fun _ hk => hk) trivial (od_) (Nat.le_trans (Nat.mul_le_mul_right _ (od_ : (l0.length : Int).toNat ≤ 35184372088832)) (by omega)) (Below.refl _ _) (Nat.le_refl _) ?_
     intro v1087 w16 ho17 hb hg_ hnew_
     clear hg_ hnew_
     (first | rw [← Ny1086.out] at ho17 | (simp only [Int.reduceToNat] at ho17; rw [← Ny1086.out] at ho17))
     have HO1088 := rl_ ho17
     replace BK1078 := bb_ BK1078 hb
     replace HB := hb_ hb
     clear hb ho17
     refine hK.out _ _ ⟨(blk_cell BK1078.out 0).trans rfl, (blk_cell BK1078.out 1).trans rfl⟩ (fun hHeld => ?_)
     clear hK K
     refine np_ 27 (h := ?_)
     refine one_ (i := 4) (N := some 23) #[true, true, true, true, true, false, true, true, true, true, false, false, false] rfl rfl (one_of HT_.out (by kernel_rfl)) (by decide) (fun K hK => ?_)
     refine goes_ Tryd.func65 (by kernel_rfl) rfl #[.agg #[.int .i64 a1_0, .int .i64 a1_1], .int .i64 t1079] (by rfl) rfl rfl (as_) ?_
     with_reducible refine (trishawref01_scaled.calls k a1_0 a1_1 t1079 t1082 _ A7.out).mono ?_
     rintro e w18 ⟨rfl, hb⟩
     refine ⟨_, rfl, ?_⟩
     replace HO1088 := rb_ HO1088 hb
     replace BK1078 := bb_ BK1078 hb
     replace HB := hb_ hb
     clear hb
     refine hK.out _ _ ⟨(blk_cell BK1078.out 0).trans rfl, (blk_cell BK1078.out 1).trans rfl⟩ (fun hHeld => ?_)
     clear hK K
     refine np_ 23 (h := ?_)
     refine one_ (i := 5) (N := some 24) #[true, true, true, true, true, true, true, true, true, true, false, false, false] rfl rfl (one_of HT_.out (by kernel_rfl)) (by decide) (fun K hK => ?_)
     refine goes_ Tryd.func48 (by kernel_rfl) rfl #[.slice A0 l0.length c0, .int .i64 t1079, .int .i64 t1082] (by rfl) rfl rfl (as_) ?_
     with_reducible refine (trishawref01_windows.calls k _ _ l0 t1079 t1082 t1083 _ ?side1 ?side2 A8.out).mono ?_
     (case side1 => exact cb_ HR0.out)
     (case side2 => exact HC0.out)
     rintro e w19 ⟨v1084, rfl, ho0, hb⟩
     refine ⟨_, rfl, ?_⟩
     replace HO1088 := rb_ HO1088 hb
     have HO1085 := Aside0.mk (Kd.S_lower ho0 (below_size (bl_)))
     replace BK1078 := bb_ BK1078 hb
     replace HB := hb_ hb
     clear hb ho0
     refine hK.out _ _ ⟨(blk_cell BK1078.out 0).trans rfl, (blk_cell BK1078.out 1).trans rfl⟩ (fun hHeld => ?_)
     clear hK K
     refine np_ 24 (h := ?_)
     exact norm_ (by simp only [putAll, Act.put, List.setIfInBounds_toArray, List.set_cons_zero, List.set_cons_succ]) (hCont (v1084, v1087) _ ⟨hHeld, (ks_ HO1085.out), (kr_ HO1088.out), (bk_ BK1078.out), (bl_)⟩)
   rintro ⟨v1084, v1087⟩ w20 ⟨hS_, h0_, h1_, h2_, h3_⟩
   have HO1085 : Aside0 (Kd.S (Kd.slice 51 k51) 49 w20 w.heap.size (fun _ => True) v1084 t1083) := ⟨h0_⟩
   have HO1088 : Aside0 (Kd.R (Kd.int .i64) 3 w20 w.heap.size (fun _ => True) v1087 y1086) := ⟨h1_⟩
   replace BK1078 : Aside0 (w20.heap[gb1078]? = some (.cells #[.int .i64 a1_0, .int .i64 a1_1] 26 (0, 0))) := ⟨h2_⟩
   replace HB : Aside0 (Below w.heap.size w w20) := ⟨h3_⟩
   clear h0_ h1_ h2_ h3_
   have hHeld : w20.cell? ⟨gb1078, 0, none⟩ = some (.int .i64 a1_0) ∧ w20.cell? ⟨gb1078, 1, none⟩ = some (.int .i64 a1_1) := hS_
   obtain ⟨Ao21, co21, eo21⟩ := Kd.S_slice HO1085.out
   (first | subst eo21 | (injection eo21 with f1_ f2_ f3_; have f4_ := f1_.symm; have f5_ := f3_.symm; clear f1_ f2_ f3_; subst f4_; subst f5_))
   obtain ⟨Ao22, co22, eo22⟩ := Kd.R_slice HO1088.out
   (first | subst eo22 | (injection eo22 with f1_ f2_ f3_; have f4_ := f1_.symm; have f5_ := f3_.symm; clear f1_ f2_ f3_; subst f4_; subst f5_))
   refine norm_ (a' := ?_) ?_ ?_
   rotate_left
   ·simp only [putAll, Act.put, List.setIfInBounds_toArray, List.set_cons_zero, List.set_cons_succ]
    rfl
   refine one_ (i := 10) (N := some 29) #[true, true, true, true, true, true, true, true, true, true, true, false, false] rfl rfl (one_of HT_.out (by kernel_rfl)) (by decide) (fun K hK => ?_)
   refine goes_ Tryd.func49 (by kernel_rfl) rfl #[.slice Ao21 t1083.length co21, .slice Ao22 y1086.length co22, .int .i64 0, .int .i64 t1079] (by rfl) rfl rfl (as_) ?_
   with_reducible refine (trishawref01_goes.calls k _ _ t1083 _ _ y1086 0 t1079 t1089 _ ?side1 ?side2 ?side3 ?side4 A11.out).mono ?_
   (case side1 => repeat (first | exact (Kd.S_reads' HO1085.out).2.2 | (with_reducible refine Kd.C_alloc ?_ _) | (with_reducible refine Kd.C_drewN ?_ _) | (with_reducible refine Kd.C_drew ?_)))
   (case side2 => exact (Kd.S_reads' HO1085.out).2.1)
   (case side3 => exact cr_ HO1088.out)
   (case side4 => exact (Kd.R_reads' HO1088.out).2.1)
   rintro e w23 ⟨rfl, hb⟩
   refine ⟨_, rfl, ?_⟩
   replace HO1085 := Aside0.mk (Kd.S_below (ks_ HO1085.out) hb)
   replace HO1088 := rb_ HO1088 hb
   replace BK1078 := bb_ BK1078 hb
   replace HB := hb_ hb
   clear hb
   refine hK.out _ _ ⟨(blk_cell BK1078.out 0).trans rfl, (blk_cell BK1078.out 1).trans rfl⟩ (fun hHeld => ?_)
   clear hK K
   refine np_ 29 (h := ?_)
   refine pu_ 11 4 HT_.out (h := ?_)
   refine pu_ 12 5 HT_.out (h := ?_)
   refine done_ (done_of HT_.out (by kernel_rfl)) ?_
   try go_wp2
   go_ret2
   exact ⟨er_, bl_⟩
  ·replace c6 := Bool.eq_false_iff.mpr c6
   subst c6
   have H1 : (some (false, 2)) = some (r1, r2) := by rw [if_neg (show ¬ (false = true) by decide)] at H; exact H
   clear H
   have H := H1
   clear H1
   simp only [Option.some.injEq, Prod.mk.injEq] at H
   obtain ⟨rfl, rfl⟩ := H
   go_enter Tryd.func42, Tryd.ntmps42
   go_wp2_with (first | ((with_reducible refine gate_dst (N := 3) rfl ?_); refine be_ #[.int .i64 a1_0, .int .i64 a1_1] 26 ?_; intro gb1078 hg w24 hbox hb; have BK1078 := Aside0.mk (hbox); have GW1078 := gw_ hg; have GE1078 := gw_ hg; replace HB := hb_ hb; clear hb hbox hg) | ((with_reducible refine gate_callee (f := 23) rfl ?_); refine goesL_ (some 10) rfl rfl Tryd.func23 (by kernel_rfl) rfl #[.slice A0 l0.length c0] rfl (as_) ?_; (with_reducible refine (trishawref01_Shares.calls k _ _ l0 t1079 t1080 _ ?side1 ?side2 A3.out).mono ?_); (case side1 => exact cb_ HR0.out); (case side2 => exact HC0.out); rintro e w' ⟨rfl, ⟨nd, rfl⟩⟩; refine ⟨_, rfl, ?_⟩; have hcz25_0 := bc_ BK1078 0 (.int .i64 a1_0); have hcz25_1 := bc_ BK1078 1 (.int .i64 a1_1); have hfz25_0 := bz_ BK1078 0; have hfz25_1 := bz_ BK1078 1) | ((with_reducible refine gate_callee (f := 35) rfl ?_); refine goesL_ (some 17) rfl rfl Tryd.func35 (by kernel_rfl) rfl #[.agg #[.int .i64 a1_0, .int .i64 a1_1]] rfl (as_) ?_; (with_reducible refine (trishawref01_IsBound.calls k a1_0 a1_1 false _ A5.out).mono ?_); rintro e w26 ⟨rfl, hb⟩; refine ⟨_, rfl, ?_⟩; replace BK1078 := bb_ BK1078 hb; replace HB := hb_ hb; clear hb))
   go_ret2
   exact ⟨er_, bl_⟩
 ·rw [if_neg c4] at H
  have c4b0 : (t1080 == 0) = false := beq_eq_false_iff_ne.mpr c4
  have c4b1 : (t1080 != 0) = true := bne_iff_ne.mpr c4
  simp only [Option.some.injEq, Prod.mk.injEq] at H
  obtain ⟨rfl, rfl⟩ := H
  go_enter Tryd.func42, Tryd.ntmps42
  go_wp2_with (first | ((with_reducible refine gate_dst (N := 3) rfl ?_); refine be_ #[.int .i64 a1_0, .int .i64 a1_1] 26 ?_; intro gb1078 hg w27 hbox hb; have BK1078 := Aside0.mk (hbox); have GW1078 := gw_ hg; have GE1078 := gw_ hg; replace HB := hb_ hb; clear hb hbox hg) | ((with_reducible refine gate_callee (f := 23) rfl ?_); refine goesL_ (some 10) rfl rfl Tryd.func23 (by kernel_rfl) rfl #[.slice A0 l0.length c0] rfl (as_) ?_; (with_reducible refine (trishawref01_Shares.calls k _ _ l0 t1079 t1080 _ ?side1 ?side2 A3.out).mono ?_); (case side1 => exact cb_ HR0.out); (case side2 => exact HC0.out); rintro e w' ⟨rfl, ⟨nd, rfl⟩⟩; refine ⟨_, rfl, ?_⟩))
  go_ret2
  exact ⟨er_, bl_⟩

end Go.Proofs.YtgobffgogmnmpaaDoor.P
