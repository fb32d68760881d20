-- Written by wip/tools/myprint.py of this session's repo, over the kit's printer and hand texts.
import Derived.Test.YtlcgoacmlbeliaaDoorPx0
import Derived.Test.YtlcgoacmlbeliaaDoorPre
import Derived.Test.YtlcgoacmlbeliaaDoorPx3
import Derived.Test.YtlcgoacmlbeliaaDoorPx4
import Derived.Test.YtlcgoacmlbeliaaDoorPx5
namespace Go.Proofs.YtlcgoacmlbeliaaDoor.P
open Go.RowKit Go.Proofs.YtlcgoacmlbeliaaDoorW.PrintWords Go.Proofs.YtlcgoacmlbeliaaDoorW.PrintLast Go.Proofs.YtlcgoacmlbeliaaDoorW.PrintMore
attribute [local go_sem] max2_int min2_int max_two min_two max_three min_three max_four min_four   -- for this text's walks alone
set_option linter.unusedVariables false
set_option linter.unusedSimpArgs false

/-! ### oneway_Bridges: function 10 -/
def oneway_Bridges.l0 : Nat → Int → List Int → List (S39) → Int → Int → Int → List (S39) → Option (List Int × Int)
  | 0, _, _, _, _, _, _, _ => none
  | k + 1, x0, x8, x20, x21, x22, x205000, x205001 => if x22 < x21 then (if 0 ≤ x22 then (if x22 < (x20.length : Int) then ((oneway_quarter_both.f k x205000 x205001 x22).bind fun t207 => ((oneway_arcs_far.f k t207 x0 ((rd_T39 x20 x22).f0)).bind fun t210 => (if 0 ≤ ((rd_T39 x20 x22).f1) then (if ((rd_T39 x20 x22).f1) < (t210.length : Int) then (if (rd t210 ((rd_T39 x20 x22).f1)) < 0 then (if x8.length < 17592186044416 then (oneway_Bridges.l0 k x0 (x8 ++ [x22]) x20 x21 (wrap64 (x22 + 1)) x205000 x205001) else (none)) else (oneway_Bridges.l0 k x0 x8 x20 x21 (wrap64 (x22 + 1)) x205000 x205001)) else (none)) else (none)))) else (none)) else (none)) else (some (x8, 0))
def oneway_Bridges.f (k : Nat) (a0 : Int) (l1 : List (S39)) : Option (List Int × Int) := (oneway_read.f k a0 l1).bind fun bt199 => (if bt199.2.2 = 0 then (oneway_Bridges.l0 k a0 ([] : List Int) l1 (l1.length : Int) 0 bt199.1 bt199.2.1) else (some (([] : List Int), bt199.2.2)))
theorem oneway_Bridges.mono_l : ∀ k, (∀ y0 y1 y2 y3 y4 y5 y6, LeO (oneway_Bridges.l0 k y0 y1 y2 y3 y4 y5 y6) (oneway_Bridges.l0 (k + 1) y0 y1 y2 y3 y4 y5 y6))
  | 0 => fun _ _ _ _ _ _ _ r h => by simp [oneway_Bridges.l0] at h
  | k + 1 => by
    have ih0 := oneway_Bridges.mono_l k
    · intro y0 y1 y2 y3 y4 y5 y6
      unfold oneway_Bridges.l0
      with_reducible repeat' first | exact ih0 _ _ _ _ _ _ _ | exact oneway_arcs_far.mono _ _ _ _ | exact oneway_quarter_both.mono _ _ _ _ | exact oneway_read.mono _ _ _ | exact LeO.refl _ | exact LeO.none _ | refine LeO.ite ?_ ?_ | refine LeO.bind ?_ (fun _ => ?_)
theorem oneway_Bridges.mono : ∀ a0 a1 k, LeO (oneway_Bridges.f k a0 a1) (oneway_Bridges.f (k + 1) a0 a1) := by
  intro a0 a1 k
  have ih0 := oneway_Bridges.mono_l k
  unfold oneway_Bridges.f
  with_reducible repeat' first | exact ih0 _ _ _ _ _ _ _ | exact oneway_arcs_far.mono _ _ _ _ | exact oneway_quarter_both.mono _ _ _ _ | exact oneway_read.mono _ _ _ | exact LeO.refl _ | exact LeO.none _ | refine LeO.ite ?_ ?_ | refine LeO.bind ?_ (fun _ => ?_)
def oneway_Bridges.T8 : Bool × List (List Nat × List Nat) := (true, [([], []), ([], []), ([0, 1], [0, 1]), ([], []), ([], []), ([4], [4]), ([2, 3, 5, 2], [2, 3, 5]), ([], []), ([7], [7]), ([6, 8], [6, 8]), ([9], [9]), ([10], [10])])
def oneway_Bridges.B8 : List Nat := [0, 0, 3, 0, 0, 16, 63, 0, 128, 511, 1023, 2047]
theorem oneway_Bridges.tab8 : rtab .any (opsOf Tryd.f10 8) = oneway_Bridges.T8 := by kernel_rfl
theorem oneway_Bridges.bits8 : waitsOk oneway_Bridges.T8.2 oneway_Bridges.B8 = true := by kernel_rfl
set_option maxHeartbeats 8000000 in
set_option maxRecDepth 100000 in
theorem oneway_Bridges.calls (k : Nat) (a0 : Int) (A1 : Option Addr) (c1 : Nat) (l1 : List (S39)) (r1 : List Int) (r2 : Int) (w : World) (hr1 : Kd.C k39 w A1 l1.length l1) (hc1 : l1.length ≤ c1) (h : oneway_Bridges.f k a0 l1 = some (r1, r2)) :
    Calls Tryd.prog 10 #[.int .i64 a0, .slice A1 l1.length c1] w fun e w' => ∃ v0_ : Value, e = .returned (.tuple #[v0_, .int .i64 r2]) ∧ Kd.R (Kd.int .i64) 3 w' w.heap.size (fun _ => True) v0_ r1 ∧ Below w.heap.size w w' := by
 have hu41 := Tryd.underlying41
 have hu39 := Tryd.underlying39
 have HR1 := Aside0.mk hr1
 have HC1 := Aside0.mk hc1
 clear hr1 hc1
 have HB := Aside0.mk (Below.refl w.heap.size w)
 have H : ((oneway_read.f k a0 l1).bind fun bt199 => (if bt199.2.2 = 0 then (oneway_Bridges.l0 k a0 ([] : List Int) l1 (l1.length : Int) 0 bt199.1 bt199.2.1) else (some (([] : List Int), bt199.2.2)))) = some (r1, r2) := h
 clear h
 obtain ⟨⟨t199, t200, t203⟩, A3, H⟩ := bi_ H
 replace H : (if t203 = 0 then (oneway_Bridges.l0 k a0 ([] : List Int) l1 (l1.length : Int) 0 t199 t200) else (some (([] : List Int), t203))) = some (r1, r2) := H
 by_cases c4 : t203 = 0
 ·rw [if_pos c4] at H
  have c4b0 : (t203 == 0) = true := beq_iff_eq.mpr c4
  have c4b1 : (t203 != 0) = false := bne_eq_false_iff_eq.mpr c4
  clear c4
  have H' := Aside0.mk H
  clear H
  go_enter Tryd.func10, Tryd.ntmps10
  go_wp2_with (first | ((with_reducible refine gate_callee (f := 18) rfl ?_); refine goesL_ (some 14) rfl rfl Tryd.func18 (by kernel_rfl) rfl #[.int .i64 a0, .slice A1 l1.length c1] rfl (as_) ?_; (with_reducible refine (oneway_read.calls k a0 (fun k_ => k_ < w.heap.size) _ _ l1 t199 t200 t203 _ ?side1 A3.out).mono ?_); (case side1 => exact Kd.V_mk HC1.out (Kd.F_below (Kd.C_F k39_heap HR1.out) (bl_))); rintro e w5 ⟨v201, rfl, ho0, hb⟩; refine ⟨_, rfl, ?_⟩; have HO202 := Aside0.mk (Kd.V_lower (Kd.V_mono (ok' := fun k_ => True) ho0 (fun k_ hk_ => trivial)) (below_size (bl_))); replace HB := hb_ hb; clear hb ho0) | ((with_reducible refine gate_dst (N := 6) rfl ?_); refine be_ #[.int .i64 0, .slice none 0 0] 41 ?_; intro gb204 hg w6 hbox hb; replace HO202 := ve_ HO202 hg hb; have BK204 := Aside0.mk (hbox); have GW204 := gw_ hg; have GE204 := gw_ hg; replace HB := hb_ hb; clear hb hbox hg; have hcz7_0 := bc_ BK204 0 (.int .i64 0); have hcz7_1 := bc_ BK204 1 (.slice none 0 0); have hfz7_0 := bz_ BK204 0; have hfz7_1 := bz_ BK204 1; obtain ⟨Ao8, co8, eo8⟩ := Kd.V_slice HO202.out; subst eo8))
  go_loopg [8, 22] k (fun kq v8 v22 w' => ∃ (x8_1 : List Int) (x22_1 : Int), v22 = .int .i64 x22_1 ∧ Aside0 (oneway_Bridges.l0 kq a0 x8_1 l1 (l1.length : Int) x22_1 t199 t200 = some (r1, r2)) ∧ Aside0 (kq ≤ k) ∧ Aside0 (Kd.R (Kd.int .i64) 3 w' w.heap.size (fun _ => True) v8 x8_1) ∧ Aside0 (Kd.V k39 39 w' w.heap.size (fun k_ => some k_ ≠ (v8 : Value).ownBlock ∧ k_ ≠ gb204) (.slice Ao8 t200.length co8) t200) ∧ Aside0 (w'.heap[gb204]? = some (.cells #[.int .i64 t199, (.slice Ao8 t200.length co8)] 41 (0, 0))) ∧ Aside0 (Below w.heap.size w w'))
  case atStart => exact ⟨(([] : List Int)), (0), rs_, H', ⟨Nat.le_refl _⟩, ⟨by first | exact Kd.R_nil _ _ _ _ _ | exact Kd.N_nil _ _ _ _ _ | exact Kd.V_nil _ _ _ _ _ | exact Kd.Q_nil _ _ _ _ _ | exact Kd.S_nil _ _ _ _ _⟩, ⟨by refine kv_ ?_; exact Kd.V_mono (Kd.V_far (p := ⟨gb204, 1, none⟩) (Kd.V_far (p := ⟨gb204, 0, none⟩) (Kd.V_mono HO202.out (fun k_ hk => (⟨hk, hk.2⟩ : _ ∧ k_ ≠ gb204))) (fun _ hk => hk.2) (.int .i64 t199)) (fun _ hk => hk.2) (.slice Ao8 t200.length co8)) (fun _ hk => ⟨(by simp [Value.ownBlock]), hk.1.2⟩)⟩, ⟨by refine bk_ ?_; refine blk_put (cs := #[.int .i64 t199, .slice none 0 0]) ?_ 1 _ rfl; refine bk_ ?_; refine blk_put (cs := #[.int .i64 0, .slice none 0 0]) ?_ 0 _ rfl; refine bk_ ?_; exact BK204.out⟩, ⟨bl_⟩⟩
  case round =>
   clear H'
   try clear c1
   try clear p2
   try clear c4
   try clear c4b0
   try clear c4b1
   try clear hcz7_0
   try clear hcz7_1
   try clear hfz7_0
   try clear hfz7_1
   obtain ⟨x8_1, x22_1, rfl, HA, HK1, HO_8, HO_205001, BK204, HB⟩ := hrel
   cases gk with
   | zero => exact absurd HA.out (by simp [oneway_Bridges.l0])
   | succ k1 =>
    have H := HA.out
    clear HA
    simp only [oneway_Bridges.l0] at H
    by_cases c9 : x22_1 < (l1.length : Int)
    ·rw [if_pos c9] at H
     have c9b0 : decide (x22_1 < (l1.length : Int)) = true := decide_eq_true c9
     clear c9
     obtain ⟨c10b0, H⟩ := fp_ H
     obtain ⟨c11b0, H⟩ := fp_ H
     obtain ⟨t207, A12, H⟩ := bi_ H
     replace H : ((oneway_arcs_far.f k1 t207 a0 ((rd_T39 l1 x22_1).f0)).bind fun t210 => (if 0 ≤ ((rd_T39 l1 x22_1).f1) then (if ((rd_T39 l1 x22_1).f1) < (t210.length : Int) then (if (rd t210 ((rd_T39 l1 x22_1).f1)) < 0 then (if x8_1.length < 17592186044416 then (oneway_Bridges.l0 k1 a0 (x8_1 ++ [x22_1]) l1 (l1.length : Int) (wrap64 (x22_1 + 1)) t199 t200) else (none)) else (oneway_Bridges.l0 k1 a0 x8_1 l1 (l1.length : Int) (wrap64 (x22_1 + 1)) t199 t200)) else (none)) else (none))) = some (r1, r2) := H
     obtain ⟨t210, A13, H⟩ := bi_ H
     replace H : (if 0 ≤ ((rd_T39 l1 x22_1).f1) then (if ((rd_T39 l1 x22_1).f1) < (t210.length : Int) then (if (rd t210 ((rd_T39 l1 x22_1).f1)) < 0 then (if x8_1.length < 17592186044416 then (oneway_Bridges.l0 k1 a0 (x8_1 ++ [x22_1]) l1 (l1.length : Int) (wrap64 (x22_1 + 1)) t199 t200) else (none)) else (oneway_Bridges.l0 k1 a0 x8_1 l1 (l1.length : Int) (wrap64 (x22_1 + 1)) t199 t200)) else (none)) else (none)) = some (r1, r2) := H
     obtain ⟨c14b0, H⟩ := fp_ H
     obtain ⟨c15b0, H⟩ := fp_ H
     by_cases c16 : (rd t210 ((rd_T39 l1 x22_1).f1)) < 0
     ·rw [if_pos c16] at H
      have c16b0 : decide ((rd t210 ((rd_T39 l1 x22_1).f1)) < 0) = true := decide_eq_true c16
      clear c16
      have c17 : x8_1.length < 17592186044416 := fl_ fun c17 => by rw [if_neg c17] at H; exact absurd H (by simp)
      rw [if_pos c17] at H
      have LMc17 := Aside0.mk c17
      clear c17
      obtain ⟨y214, hy214⟩ : ∃ y_ : List Int, y_ = (x8_1 ++ [x22_1]) := ⟨_, rfl⟩
      replace H : (oneway_Bridges.l0 k1 a0 y214 l1 (l1.length : Int) (wrap64 (x22_1 + 1)) t199 t200) = some (r1, r2) := by first | (rw [hy214]; with_reducible exact H) | (have H2_ := (Option.bind_some _ _).symm.trans H; rw [hy214]; with_reducible exact H2_) | (have H2_ := (Option.bind_some _ _).symm.trans H; with_reducible exact H2_) | with_reducible exact H | (rw [hy214]; exact H) | exact H
      have Ny214 := Aside0.mk hy214
      clear hy214
      have H' := Aside0.mk H
      clear H
      have p205 : 0 ≤ (x22_1 : Int) := od_
      have q205 : x22_1 < (l1.length : Int) := od_
      obtain ⟨ad205, e205, hx205_0, hx205_1⟩ := at_T39 HR1.out x22_1 p205 q205
      cases e205
      replace hx205_0 := hc_ HB hx205_0
      replace hx205_1 := hc_ HB hx205_1
      replace p205 := eq_true p205
      replace q205 := eq_true q205
      try go_wp2_with (first | ((with_reducible refine gate_dst (N := 10) rfl ?_); refine be_ #[.int .i64 0, .int .i64 0] 39 ?_; intro gb206 hg w18 hbox hb; replace HO_8 := rb_ HO_8 hb; replace HO_205001 := ve_ HO_205001 hg hb; have BK206 := Aside0.mk (hbox); have GW206 := gw_ hg; have GE206 := gw_ hg; replace HB := hb_ hb; have NB204_206 := nl_ hg BK204; have NB206_204 := sy_ NB204_206; replace BK204 := bb_ BK204 hb; clear hb hbox hg; have hnb19 := NB206_204.out; have hnc19 := NB204_206.out; have hcz20_0 := bc_ BK206 0 (.int .i64 0); have hcz20_1 := bc_ BK206 1 (.int .i64 0); have hfz20_0 := bz_ BK206 0; have hfz20_1 := bz_ BK206 1))
      have n0_ : Aside0 (Kd.R (Kd.int .i64) 3 ((w18.setCell ⟨gb206, 0, none⟩ (.int .i64 ((rd_T39 l1 x22_1).f0))).setCell ⟨gb206, 1, none⟩ (.int .i64 ((rd_T39 l1 x22_1).f1))) w.heap.size (fun _ => True) u8 x8_1) := ⟨by refine kr_ ?_; exact Kd.R_mono (Kd.R_far (p := ⟨gb206, 1, none⟩) (Kd.R_far (p := ⟨gb206, 0, none⟩) (Kd.R_types HO_8.out BK206.out (by decide)) (fun _ hk => hk.2) (.int .i64 ((rd_T39 l1 x22_1).f0))) (fun _ hk => hk.2) (.int .i64 ((rd_T39 l1 x22_1).f1))) (fun _ hk => trivial)⟩
      have n1_ : Aside0 (Kd.V k39 39 ((w18.setCell ⟨gb206, 0, none⟩ (.int .i64 ((rd_T39 l1 x22_1).f0))).setCell ⟨gb206, 1, none⟩ (.int .i64 ((rd_T39 l1 x22_1).f1))) w.heap.size (fun k_ => some k_ ≠ (u8 : Value).ownBlock ∧ k_ ≠ gb204 ∧ k_ ≠ gb206) (.slice Ao8 t200.length co8) t200) := ⟨by refine kv_ ?_; exact Kd.V_mono (Kd.V_far (p := ⟨gb206, 1, none⟩) (Kd.V_far (p := ⟨gb206, 0, none⟩) (Kd.V_mono HO_205001.out (fun k_ hk => (⟨hk, hk.2⟩ : _ ∧ k_ ≠ gb206))) (fun _ hk => hk.2) (.int .i64 ((rd_T39 l1 x22_1).f0))) (fun _ hk => hk.2) (.int .i64 ((rd_T39 l1 x22_1).f1))) (fun _ hk => ⟨hk.1.1.1, ⟨hk.1.1.2, hk.1.2⟩⟩)⟩
      have n2_ : Aside0 (((w18.setCell ⟨gb206, 0, none⟩ (.int .i64 ((rd_T39 l1 x22_1).f0))).setCell ⟨gb206, 1, none⟩ (.int .i64 ((rd_T39 l1 x22_1).f1))).heap[gb204]? = some (.cells #[.int .i64 t199, .slice Ao8 t200.length co8] 41 (0, 0))) := ⟨by refine bk_ ?_; refine blk_far ?_ NB204_206.out _; refine bk_ ?_; refine blk_far ?_ NB204_206.out _; refine bk_ ?_; exact BK204.out⟩
      have n3_ : Aside0 (((w18.setCell ⟨gb206, 0, none⟩ (.int .i64 ((rd_T39 l1 x22_1).f0))).setCell ⟨gb206, 1, none⟩ (.int .i64 ((rd_T39 l1 x22_1).f1))).heap[gb206]? = some (.cells #[.int .i64 ((rd_T39 l1 x22_1).f0), .int .i64 ((rd_T39 l1 x22_1).f1)] 39 (0, 0))) := ⟨by refine bk_ ?_; refine blk_put (cs := #[.int .i64 ((rd_T39 l1 x22_1).f0), .int .i64 0]) ?_ 1 _ rfl; refine bk_ ?_; refine blk_put (cs := #[.int .i64 0, .int .i64 0]) ?_ 0 _ rfl; refine bk_ ?_; exact BK206.out⟩
      have n4_ : Aside0 (Below w.heap.size w ((w18.setCell ⟨gb206, 0, none⟩ (.int .i64 ((rd_T39 l1 x22_1).f0))).setCell ⟨gb206, 1, none⟩ (.int .i64 ((rd_T39 l1 x22_1).f1)))) := ⟨bl_⟩
      (try clear HO_8)
      (try clear HO_205001)
      (try clear BK204)
      (try clear BK206)
      (try clear HB)
      generalize ((w18.setCell ⟨gb206, 0, none⟩ (.int .i64 ((rd_T39 l1 x22_1).f0))).setCell ⟨gb206, 1, none⟩ (.int .i64 ((rd_T39 l1 x22_1).f1))) = w21 at n0_ n1_ n2_ n3_ n4_ ⊢
      have HO_8 := n0_
      have HO_205001 := n1_
      have BK204 := n2_
      have BK206 := n3_
      have HB := n4_
      clear n0_ n1_ n2_ n3_ n4_
      replace HO_8 := Aside0.mk (Kd.R_drew HO_8.out)
      replace HO_205001 := Aside0.mk (Kd.V_drew HO_205001.out)
      replace BK204 := Aside0.mk (blk_drew BK204.out)
      replace BK206 := Aside0.mk (blk_drew BK206.out)
      replace HB := Aside0.mk (below_drew1 HB.out)
      refine start_ (n := 12) (S := fun w' => w'.cell? ⟨gb204, 0, none⟩ = some (.int .i64 t199) ∧ w'.cell? ⟨gb204, 1, none⟩ = some (.slice Ao8 t200.length co8) ∧ w'.cell? ⟨gb206, 0, none⟩ = some (.int .i64 ((rd_T39 l1 x22_1).f0)) ∧ w'.cell? ⟨gb206, 1, none⟩ = some (.int .i64 ((rd_T39 l1 x22_1).f1))) (ds := []) #[false, false, false, false, false, false, false, false, false, false, false, false] (by kernel_rfl) rfl rfl ⟨(blk_cell BK204.out 0).trans rfl, (blk_cell BK204.out 1).trans rfl, (blk_cell BK206.out 0).trans rfl, (blk_cell BK206.out 1).trans rfl⟩ (fun hHeld => ?_); refine with_tabW oneway_Bridges.tab8 oneway_Bridges.bits8 (fun HT_ HW_ => ?_)
      generalize w21.drew = w22 at HO_8 HO_205001 BK204 BK206 HB hHeld ⊢
      refine pu_ 1 28 HT_.out (h := ?_)
      refine pu_ 3 30 HT_.out (h := ?_)
      refine pu_ 4 31 HT_.out (h := ?_)
      refine pu_ 7 34 HT_.out (h := ?_)
      refine ta_ 0 27 HT_.out HW_.out hHeld (h := ?_)
      refine ta_ 5 32 HT_.out HW_.out hHeld (h := ?_)
      refine ta_ 8 35 HT_.out HW_.out hHeld (h := ?_)
      refine one_ (i := 2) (N := some 29) #[true, true, true, true, true, true, false, true, true, false, false, false] rfl rfl (one_of HT_.out (by kernel_rfl)) (by decide) (fun K hK => ?_)
      refine goes_ Tryd.func19 (by kernel_rfl) rfl #[.agg #[.int .i64 t199, .slice Ao8 t200.length co8], .int .i64 x22_1] (by rfl) rfl rfl (as_) ?_
      with_reducible refine (oneway_quarter_both.calls k1 t199 _ _ t200 x22_1 t207 _ ?side1 ?side2 A12.out).mono ?_
      (case side1 => repeat (first | exact (Kd.V_reads' HO_205001.out).2.2 | (with_reducible refine Kd.C_alloc ?_ _) | (with_reducible refine Kd.C_drewN ?_ _) | (with_reducible refine Kd.C_drew ?_)))
      (case side2 => exact (Kd.V_reads' HO_205001.out).2.1)
      rintro e w23 ⟨v208, rfl, ho0, hb⟩
      refine ⟨_, rfl, ?_⟩
      replace HO_8 := rb_ HO_8 hb
      replace HO_205001 := Aside0.mk (Kd.V_elder' (kv_ HO_205001.out) (Kd.R_base ho0) hb)
      have HO209 := Aside0.mk (Kd.R_lower (Kd.R_newB ho0 (g := gb206) (o := .cells #[.int .i64 ((rd_T39 l1 x22_1).f0), .int .i64 ((rd_T39 l1 x22_1).f1)] 39 (0, 0)) (bk_ BK206.out)) (below_size (bl_)))
      replace BK204 := bb_ BK204 hb
      replace BK206 := bb_ BK206 hb
      replace HB := hb_ hb
      clear hb ho0
      obtain ⟨Ao24, co24, eo24⟩ := Kd.R_slice HO209.out
      (first | subst eo24 | (injection eo24 with f1_ f2_ f3_; have f4_ := f1_.symm; have f5_ := f3_.symm; clear f1_ f2_ f3_; subst f4_; subst f5_))
      refine hK.out _ _ ⟨(blk_cell BK204.out 0).trans rfl, (blk_cell BK204.out 1).trans rfl, (blk_cell BK206.out 0).trans rfl, (blk_cell BK206.out 1).trans rfl⟩ (fun hHeld => ?_)
      clear hK K
      refine np_ 29 (h := ?_)
      refine one_ (i := 6) (N := some 33) #[true, true, true, true, true, true, true, true, true, false, false, false] rfl rfl (one_of HT_.out (by kernel_rfl)) (by decide) (fun K hK => ?_)
      refine goes_ Tryd.func20 (by kernel_rfl) rfl #[.slice Ao24 t207.length co24, .int .i64 a0, .int .i64 ((rd_T39 l1 x22_1).f0)] (by rfl) rfl rfl (as_) ?_
      with_reducible refine (oneway_arcs_far.calls k1 _ _ t207 a0 ((rd_T39 l1 x22_1).f0) t210 _ ?side1 ?side2 A13.out).mono ?_
      (case side1 => exact cr_ HO209.out)
      (case side2 => exact (Kd.R_reads' HO209.out).2.1)
      rintro e w25 ⟨v211, rfl, ho0, hb⟩
      refine ⟨_, rfl, ?_⟩
      replace HO_205001 := Aside0.mk (Kd.V_elder' (kv_ HO_205001.out) (Kd.R_base ho0) hb)
      replace HO209 := rb_ HO209 hb
      have HO212 := rl_ (rn_ ho0 HO_8)
      replace HO_8 := re_ HO_8 ho0 hb
      replace BK204 := bb_ BK204 hb
      replace BK206 := bb_ BK206 hb
      replace HB := hb_ hb
      clear hb ho0
      obtain ⟨Ao26, co26, eo26⟩ := Kd.R_slice HO212.out
      (first | subst eo26 | (injection eo26 with f1_ f2_ f3_; have f4_ := f1_.symm; have f5_ := f3_.symm; clear f1_ f2_ f3_; subst f4_; subst f5_))
      obtain ⟨ad213, e213, hx213_0, p213, q213⟩ := ai_ (Kd.R_reads' HO212.out).2.2 ((rd_T39 l1 x22_1).f1)
      cases e213
      refine hK.out _ _ ⟨(blk_cell BK204.out 0).trans rfl, (blk_cell BK204.out 1).trans rfl, (blk_cell BK206.out 0).trans rfl, (blk_cell BK206.out 1).trans rfl⟩ (fun hHeld => ?_)
      clear hK K
      refine np_ 33 (h := ?_)
      refine pu_ 9 36 HT_.out (h := ?_)
      refine one_ (i := 10) (N := some 37) #[true, true, true, true, true, true, true, true, true, true, true, false] rfl rfl (one_of HT_.out (by kernel_rfl)) (by decide) (fun K hK => ?_)
      refine event_step (by rfl) (w1 := _) (by go_simp; first | exact ⟨rfl, rfl⟩ | rfl) ?_
      refine hK.out _ _ hHeld (fun hHeld => ?_)
      clear hK K
      refine np_ 37 (h := ?_)
      refine pu_ 11 38 HT_.out (h := ?_)
      refine done_ (done_of HT_.out (by kernel_rfl)) ?_
      try go_wp2_with (first | ((with_reducible refine gate_builtin (b := .append) (xs := #[.tmp 39, .tmp 41]) rfl ?_); at_builtin; refine Kd.R_append (Kd.int .i64) (w0 := w) w.heap.size rfl (.tmp 39) (.tmp 41) 29 3 (.int .i64 0) 8 rfl Tryd.underlying29 info3 rfl (by decide) (by omega) u8 x8_1 x22_1 [.int .i64 x22_1] (fun k_ => some k_ ≠ (.slice (some ad213) t210.length co26 : Value).ownBlock) (fun _ => False) rfl rfl ?aP (fun _ hk => hk.elim) ?aF ?aO ?aB ?aS ?aL ?_; (case aP => exact rfl); (case aB => exact (bl_)); (case aF => exact (fun k_ hk => Kd.fresh' (Kd.R_lt (kr_ HO212.out)) k_ hk)); (case aO => exact (by refine kr_ ?_; exact Kd.R_mono HO_8.out (fun _ hk => hk.2))); (case aS => exact (below_size (bl_))); (case aL => have := LMc17.out; omega); intro v215 w27 ho hb hg hat; rw [← Ny214.out] at ho; replace HO_205001 := Aside0.mk (Kd.V_afterv (ok := (fun k_ => some k_ ≠ (.slice Ao24 t207.length co24 : Value).ownBlock ∧ some k_ ≠ (.slice (some ad213) t210.length co26 : Value).ownBlock ∧ k_ ≠ gb204 ∧ k_ ≠ gb206)) (by refine kv_ ?_; exact Kd.V_mono HO_205001.out (fun _ hk => ⟨⟨hk.1.2, ⟨hk.2, ⟨hk.1.1.2.1, hk.1.1.2.2⟩⟩⟩, hk.1.1.1⟩)) hg hat); replace BK204 := Aside0.mk (blk_grown (g := gb204) (o := .cells #[.int .i64 t199, .slice Ao8 t200.length co8] 41 (0, 0)) (bk_ BK204.out) hg (Kd.R_ne HO_8.out BK204.out (by decide))); replace BK206 := Aside0.mk (blk_grown (g := gb206) (o := .cells #[.int .i64 ((rd_T39 l1 x22_1).f0), .int .i64 ((rd_T39 l1 x22_1).f1)] 39 (0, 0)) (bk_ BK206.out) hg (Kd.R_ne HO_8.out BK206.out (by decide))); replace HO209 := Aside0.mk (Kd.R_over' (kr_ HO209.out) (Kd.R_typed (kr_ HO_8.out)) (by decide) hg); replace HO212 := Aside0.mk (Kd.R_after (ok := (fun _ => True)) (kr_ HO212.out) hg hat); replace HB := Aside0.mk (hb); have HO216 := Aside0.mk (ho); clear HO_8; clear ho hb hg hat))
      go_roundg k1
      case measure => have := HK1.out; omega
      case rel => exact ⟨(y214), (wrap64 (x22_1 + 1)), rs_, H', ⟨by have := HK1.out; omega⟩, ⟨by refine kr_ ?_; exact Kd.R_mono HO216.out (fun _ hk => trivial)⟩, ⟨by refine kv_ ?_; exact Kd.V_mono HO_205001.out (fun _ hk => ⟨hk.2, hk.1.2.2.1⟩)⟩, ⟨bk_ BK204.out⟩, ⟨bl_⟩⟩
     ·rw [if_neg c16] at H
      have c16b0 : decide ((rd t210 ((rd_T39 l1 x22_1).f1)) < 0) = false := decide_eq_false c16
      clear c16
      have H' := Aside0.mk H
      clear H
      have p205 : 0 ≤ (x22_1 : Int) := od_
      have q205 : x22_1 < (l1.length : Int) := od_
      obtain ⟨ad205, e205, hx205_0, hx205_1⟩ := at_T39 HR1.out x22_1 p205 q205
      cases e205
      replace hx205_0 := hc_ HB hx205_0
      replace hx205_1 := hc_ HB hx205_1
      replace p205 := eq_true p205
      replace q205 := eq_true q205
      try go_wp2_with (first | ((with_reducible refine gate_dst (N := 10) rfl ?_); refine be_ #[.int .i64 0, .int .i64 0] 39 ?_; intro gb206 hg w28 hbox hb; replace HO_8 := rb_ HO_8 hb; replace HO_205001 := ve_ HO_205001 hg hb; have BK206 := Aside0.mk (hbox); have GW206 := gw_ hg; have GE206 := gw_ hg; replace HB := hb_ hb; have NB204_206 := nl_ hg BK204; have NB206_204 := sy_ NB204_206; replace BK204 := bb_ BK204 hb; clear hb hbox hg; have hnb29 := NB206_204.out; have hnc29 := NB204_206.out; have hcz30_0 := bc_ BK206 0 (.int .i64 0); have hcz30_1 := bc_ BK206 1 (.int .i64 0); have hfz30_0 := bz_ BK206 0; have hfz30_1 := bz_ BK206 1))
      have n0_ : Aside0 (Kd.R (Kd.int .i64) 3 ((w28.setCell ⟨gb206, 0, none⟩ (.int .i64 ((rd_T39 l1 x22_1).f0))).setCell ⟨gb206, 1, none⟩ (.int .i64 ((rd_T39 l1 x22_1).f1))) w.heap.size (fun _ => True) u8 x8_1) := ⟨by refine kr_ ?_; exact Kd.R_mono (Kd.R_far (p := ⟨gb206, 1, none⟩) (Kd.R_far (p := ⟨gb206, 0, none⟩) (Kd.R_types HO_8.out BK206.out (by decide)) (fun _ hk => hk.2) (.int .i64 ((rd_T39 l1 x22_1).f0))) (fun _ hk => hk.2) (.int .i64 ((rd_T39 l1 x22_1).f1))) (fun _ hk => trivial)⟩
      have n1_ : Aside0 (Kd.V k39 39 ((w28.setCell ⟨gb206, 0, none⟩ (.int .i64 ((rd_T39 l1 x22_1).f0))).setCell ⟨gb206, 1, none⟩ (.int .i64 ((rd_T39 l1 x22_1).f1))) w.heap.size (fun k_ => some k_ ≠ (u8 : Value).ownBlock ∧ k_ ≠ gb204 ∧ k_ ≠ gb206) (.slice Ao8 t200.length co8) t200) := ⟨by refine kv_ ?_; exact Kd.V_mono (Kd.V_far (p := ⟨gb206, 1, none⟩) (Kd.V_far (p := ⟨gb206, 0, none⟩) (Kd.V_mono HO_205001.out (fun k_ hk => (⟨hk, hk.2⟩ : _ ∧ k_ ≠ gb206))) (fun _ hk => hk.2) (.int .i64 ((rd_T39 l1 x22_1).f0))) (fun _ hk => hk.2) (.int .i64 ((rd_T39 l1 x22_1).f1))) (fun _ hk => ⟨hk.1.1.1, ⟨hk.1.1.2, hk.1.2⟩⟩)⟩
      have n2_ : Aside0 (((w28.setCell ⟨gb206, 0, none⟩ (.int .i64 ((rd_T39 l1 x22_1).f0))).setCell ⟨gb206, 1, none⟩ (.int .i64 ((rd_T39 l1 x22_1).f1))).heap[gb204]? = some (.cells #[.int .i64 t199, .slice Ao8 t200.length co8] 41 (0, 0))) := ⟨by refine bk_ ?_; refine blk_far ?_ NB204_206.out _; refine bk_ ?_; refine blk_far ?_ NB204_206.out _; refine bk_ ?_; exact BK204.out⟩
      have n3_ : Aside0 (((w28.setCell ⟨gb206, 0, none⟩ (.int .i64 ((rd_T39 l1 x22_1).f0))).setCell ⟨gb206, 1, none⟩ (.int .i64 ((rd_T39 l1 x22_1).f1))).heap[gb206]? = some (.cells #[.int .i64 ((rd_T39 l1 x22_1).f0), .int .i64 ((rd_T39 l1 x22_1).f1)] 39 (0, 0))) := ⟨by refine bk_ ?_; refine blk_put (cs := #[.int .i64 ((rd_T39 l1 x22_1).f0), .int .i64 0]) ?_ 1 _ rfl; refine bk_ ?_; refine blk_put (cs := #[.int .i64 0, .int .i64 0]) ?_ 0 _ rfl; refine bk_ ?_; exact BK206.out⟩
      have n4_ : Aside0 (Below w.heap.size w ((w28.setCell ⟨gb206, 0, none⟩ (.int .i64 ((rd_T39 l1 x22_1).f0))).setCell ⟨gb206, 1, none⟩ (.int .i64 ((rd_T39 l1 x22_1).f1)))) := ⟨bl_⟩
      (try clear HO_8)
      (try clear HO_205001)
      (try clear BK204)
      (try clear BK206)
      (try clear HB)
      generalize ((w28.setCell ⟨gb206, 0, none⟩ (.int .i64 ((rd_T39 l1 x22_1).f0))).setCell ⟨gb206, 1, none⟩ (.int .i64 ((rd_T39 l1 x22_1).f1))) = w31 at n0_ n1_ n2_ n3_ n4_ ⊢
      have HO_8 := n0_
      have HO_205001 := n1_
      have BK204 := n2_
      have BK206 := n3_
      have HB := n4_
      clear n0_ n1_ n2_ n3_ n4_
      replace HO_8 := Aside0.mk (Kd.R_drew HO_8.out)
      replace HO_205001 := Aside0.mk (Kd.V_drew HO_205001.out)
      replace BK204 := Aside0.mk (blk_drew BK204.out)
      replace BK206 := Aside0.mk (blk_drew BK206.out)
      replace HB := Aside0.mk (below_drew1 HB.out)
      refine start_ (n := 12) (S := fun w' => w'.cell? ⟨gb204, 0, none⟩ = some (.int .i64 t199) ∧ w'.cell? ⟨gb204, 1, none⟩ = some (.slice Ao8 t200.length co8) ∧ w'.cell? ⟨gb206, 0, none⟩ = some (.int .i64 ((rd_T39 l1 x22_1).f0)) ∧ w'.cell? ⟨gb206, 1, none⟩ = some (.int .i64 ((rd_T39 l1 x22_1).f1))) (ds := []) #[false, false, false, false, false, false, false, false, false, false, false, false] (by kernel_rfl) rfl rfl ⟨(blk_cell BK204.out 0).trans rfl, (blk_cell BK204.out 1).trans rfl, (blk_cell BK206.out 0).trans rfl, (blk_cell BK206.out 1).trans rfl⟩ (fun hHeld => ?_); refine with_tabW oneway_Bridges.tab8 oneway_Bridges.bits8 (fun HT_ HW_ => ?_)
      generalize w31.drew = w32 at HO_8 HO_205001 BK204 BK206 HB hHeld ⊢
      refine pu_ 1 28 HT_.out (h := ?_)
      refine pu_ 3 30 HT_.out (h := ?_)
      refine pu_ 4 31 HT_.out (h := ?_)
      refine pu_ 7 34 HT_.out (h := ?_)
      refine ta_ 0 27 HT_.out HW_.out hHeld (h := ?_)
      refine ta_ 5 32 HT_.out HW_.out hHeld (h := ?_)
      refine ta_ 8 35 HT_.out HW_.out hHeld (h := ?_)
      refine one_ (i := 2) (N := some 29) #[true, true, true, true, true, true, false, true, true, false, false, false] rfl rfl (one_of HT_.out (by kernel_rfl)) (by decide) (fun K hK => ?_)
      refine goes_ Tryd.func19 (by kernel_rfl) rfl #[.agg #[.int .i64 t199, .slice Ao8 t200.length co8], .int .i64 x22_1] (by rfl) rfl rfl (as_) ?_
      with_reducible refine (oneway_quarter_both.calls k1 t199 _ _ t200 x22_1 t207 _ ?side1 ?side2 A12.out).mono ?_
      (case side1 => repeat (first | exact (Kd.V_reads' HO_205001.out).2.2 | (with_reducible refine Kd.C_alloc ?_ _) | (with_reducible refine Kd.C_drewN ?_ _) | (with_reducible refine Kd.C_drew ?_)))
      (case side2 => exact (Kd.V_reads' HO_205001.out).2.1)
      rintro e w33 ⟨v208, rfl, ho0, hb⟩
      refine ⟨_, rfl, ?_⟩
      replace HO_8 := rb_ HO_8 hb
      replace HO_205001 := Aside0.mk (Kd.V_elder' (kv_ HO_205001.out) (Kd.R_base ho0) hb)
      have HO209 := Aside0.mk (Kd.R_lower (Kd.R_newB ho0 (g := gb206) (o := .cells #[.int .i64 ((rd_T39 l1 x22_1).f0), .int .i64 ((rd_T39 l1 x22_1).f1)] 39 (0, 0)) (bk_ BK206.out)) (below_size (bl_)))
      replace BK204 := bb_ BK204 hb
      replace BK206 := bb_ BK206 hb
      replace HB := hb_ hb
      clear hb ho0
      obtain ⟨Ao34, co34, eo34⟩ := Kd.R_slice HO209.out
      (first | subst eo34 | (injection eo34 with f1_ f2_ f3_; have f4_ := f1_.symm; have f5_ := f3_.symm; clear f1_ f2_ f3_; subst f4_; subst f5_))
      refine hK.out _ _ ⟨(blk_cell BK204.out 0).trans rfl, (blk_cell BK204.out 1).trans rfl, (blk_cell BK206.out 0).trans rfl, (blk_cell BK206.out 1).trans rfl⟩ (fun hHeld => ?_)
      clear hK K
      refine np_ 29 (h := ?_)
      refine one_ (i := 6) (N := some 33) #[true, true, true, true, true, true, true, true, true, false, false, false] rfl rfl (one_of HT_.out (by kernel_rfl)) (by decide) (fun K hK => ?_)
      refine goes_ Tryd.func20 (by kernel_rfl) rfl #[.slice Ao34 t207.length co34, .int .i64 a0, .int .i64 ((rd_T39 l1 x22_1).f0)] (by rfl) rfl rfl (as_) ?_
      with_reducible refine (oneway_arcs_far.calls k1 _ _ t207 a0 ((rd_T39 l1 x22_1).f0) t210 _ ?side1 ?side2 A13.out).mono ?_
      (case side1 => exact cr_ HO209.out)
      (case side2 => exact (Kd.R_reads' HO209.out).2.1)
      rintro e w35 ⟨v211, rfl, ho0, hb⟩
      refine ⟨_, rfl, ?_⟩
      replace HO_205001 := Aside0.mk (Kd.V_elder' (kv_ HO_205001.out) (Kd.R_base ho0) hb)
      replace HO209 := rb_ HO209 hb
      have HO212 := rl_ (rn_ ho0 HO_8)
      replace HO_8 := re_ HO_8 ho0 hb
      replace BK204 := bb_ BK204 hb
      replace BK206 := bb_ BK206 hb
      replace HB := hb_ hb
      clear hb ho0
      obtain ⟨Ao36, co36, eo36⟩ := Kd.R_slice HO212.out
      (first | subst eo36 | (injection eo36 with f1_ f2_ f3_; have f4_ := f1_.symm; have f5_ := f3_.symm; clear f1_ f2_ f3_; subst f4_; subst f5_))
      obtain ⟨ad213, e213, hx213_0, p213, q213⟩ := ai_ (Kd.R_reads' HO212.out).2.2 ((rd_T39 l1 x22_1).f1)
      cases e213
      refine hK.out _ _ ⟨(blk_cell BK204.out 0).trans rfl, (blk_cell BK204.out 1).trans rfl, (blk_cell BK206.out 0).trans rfl, (blk_cell BK206.out 1).trans rfl⟩ (fun hHeld => ?_)
      clear hK K
      refine np_ 33 (h := ?_)
      refine pu_ 9 36 HT_.out (h := ?_)
      refine one_ (i := 10) (N := some 37) #[true, true, true, true, true, true, true, true, true, true, true, false] rfl rfl (one_of HT_.out (by kernel_rfl)) (by decide) (fun K hK => ?_)
      refine event_step (by rfl) (w1 := _) (by go_simp; first | exact ⟨rfl, rfl⟩ | rfl) ?_
      refine hK.out _ _ hHeld (fun hHeld => ?_)
      clear hK K
      refine np_ 37 (h := ?_)
      refine pu_ 11 38 HT_.out (h := ?_)
      refine done_ (done_of HT_.out (by kernel_rfl)) ?_
      try go_wp2
      go_roundg k1
      case measure => have := HK1.out; omega
      case rel => exact ⟨(x8_1), (wrap64 (x22_1 + 1)), rs_, H', ⟨by have := HK1.out; omega⟩, ⟨by refine kr_ ?_; exact Kd.R_mono HO_8.out (fun _ hk => trivial)⟩, ⟨by refine kv_ ?_; exact Kd.V_mono HO_205001.out (fun _ hk => ⟨hk.1.1.1, hk.1.1.2.1⟩)⟩, ⟨bk_ BK204.out⟩, ⟨bl_⟩⟩
    ·rw [if_neg c9] at H
     have c9b0 : decide (x22_1 < (l1.length : Int)) = false := decide_eq_false c9
     clear c9
     simp only [Option.some.injEq, Prod.mk.injEq] at H
     obtain ⟨rfl, rfl⟩ := H
     go_wp2
     go_ret2
     exact ⟨_, er_, by refine kr_ ?_; exact HO_8.out, bl_⟩
 ·rw [if_neg c4] at H
  have c4b0 : (t203 == 0) = false := beq_eq_false_iff_ne.mpr c4
  have c4b1 : (t203 != 0) = true := bne_iff_ne.mpr c4
  simp only [Option.some.injEq, Prod.mk.injEq] at H
  obtain ⟨rfl, rfl⟩ := H
  go_enter Tryd.func10, Tryd.ntmps10
  go_wp2_with (first | ((with_reducible refine gate_callee (f := 18) rfl ?_); refine goesL_ (some 14) rfl rfl Tryd.func18 (by kernel_rfl) rfl #[.int .i64 a0, .slice A1 l1.length c1] rfl (as_) ?_; (with_reducible refine (oneway_read.calls k a0 (fun k_ => k_ < w.heap.size) _ _ l1 t199 t200 t203 _ ?side1 A3.out).mono ?_); (case side1 => exact Kd.V_mk HC1.out (Kd.F_below (Kd.C_F k39_heap HR1.out) (bl_))); rintro e w37 ⟨v201, rfl, ho0, hb⟩; refine ⟨_, rfl, ?_⟩; have HO202 := Aside0.mk (Kd.V_lower (Kd.V_mono (ok' := fun k_ => True) ho0 (fun k_ hk_ => trivial)) (below_size (bl_))); replace HB := hb_ hb; clear hb ho0) | ((with_reducible refine gate_dst (N := 6) rfl ?_); refine be_ #[.int .i64 0, .slice none 0 0] 41 ?_; intro gb204 hg w38 hbox hb; replace HO202 := ve_ HO202 hg hb; have BK204 := Aside0.mk (hbox); have GW204 := gw_ hg; have GE204 := gw_ hg; replace HB := hb_ hb; clear hb hbox hg; have hcz39_0 := bc_ BK204 0 (.int .i64 0); have hcz39_1 := bc_ BK204 1 (.slice none 0 0); have hfz39_0 := bz_ BK204 0; have hfz39_1 := bz_ BK204 1; obtain ⟨Ao40, co40, eo40⟩ := Kd.V_slice HO202.out; subst eo40))
  go_ret2
  exact ⟨_, er_, by first | exact Kd.R_nil _ _ _ _ _ | exact Kd.N_nil _ _ _ _ _ | exact Kd.V_nil _ _ _ _ _ | exact Kd.Q_nil _ _ _ _ _ | exact Kd.S_nil _ _ _ _ _, bl_⟩

/-! ### trishawtop_streets: function 4 -/
def trishawtop_streets.f (k : Nat)  : Option (Bool) := (branch_Narrow.f k 3 (([(⟨0, 1, 0⟩ : S36), (⟨1, 2, 0⟩ : S36)] : List (S36)))).bind fun bt220 => ((oneway_Bridges.f k 3 (([(⟨0, 1⟩ : S39), (⟨1, 2⟩ : S39)] : List (S39)))).bind fun bt226 => ((fetch_Mend.f k 3 (([(⟨0, 1⟩ : S39), (⟨1, 2⟩ : S39)] : List (S39)))).bind fun bt233 => (if bt220.2.2 = 0 then (if bt220.1 = 1 then (if bt220.2.1 = 2 then (if bt226.2 = 0 then (if (bt226.1.length : Int) = 2 then (if bt233.2 = 0 then (some ((bt233.1.length : Int) == 2)) else (some false)) else (some false)) else (some false)) else (some false)) else (some false)) else (some false))))
theorem trishawtop_streets.mono : ∀ k, LeO (trishawtop_streets.f k ) (trishawtop_streets.f (k + 1) ) := by
  intro  k
  unfold trishawtop_streets.f
  with_reducible repeat' first | exact branch_Narrow.mono _ _ _ | exact fetch_Mend.mono _ _ _ | exact oneway_Bridges.mono _ _ _ | exact LeO.refl _ | exact LeO.none _ | refine LeO.ite ?_ ?_ | refine LeO.bind ?_ (fun _ => ?_)
set_option maxHeartbeats 8000000 in
set_option maxRecDepth 100000 in
theorem trishawtop_streets.calls (k : Nat)  (r : Bool) (w : World) (h : trishawtop_streets.f k  = some r) :
    Calls Tryd.prog 4 #[] w fun e w' => e = .returned (.bool r) ∧ Below w.heap.size w w' := by
 have hu36 := Tryd.underlying36
 have hu39 := Tryd.underlying39
 have HB := Aside0.mk (Below.refl w.heap.size w)
 have H : ((branch_Narrow.f k 3 (([(⟨0, 1, 0⟩ : S36), (⟨1, 2, 0⟩ : S36)] : List (S36)))).bind fun bt220 => ((oneway_Bridges.f k 3 (([(⟨0, 1⟩ : S39), (⟨1, 2⟩ : S39)] : List (S39)))).bind fun bt226 => ((fetch_Mend.f k 3 (([(⟨0, 1⟩ : S39), (⟨1, 2⟩ : S39)] : List (S39)))).bind fun bt233 => (if bt220.2.2 = 0 then (if bt220.1 = 1 then (if bt220.2.1 = 2 then (if bt226.2 = 0 then (if (bt226.1.length : Int) = 2 then (if bt233.2 = 0 then (some ((bt233.1.length : Int) == 2)) else (some false)) else (some false)) else (some false)) else (some false)) else (some false)) else (some false))))) = some r := h
 clear h
 obtain ⟨y217, hy217⟩ : ∃ y_ : List (S36), y_ = (([(⟨0, 1, 0⟩ : S36), (⟨1, 2, 0⟩ : S36)] : List (S36))) := ⟨_, rfl⟩
 replace H : ((branch_Narrow.f k 3 y217).bind fun bt220 => ((oneway_Bridges.f k 3 (([(⟨0, 1⟩ : S39), (⟨1, 2⟩ : S39)] : List (S39)))).bind fun bt226 => ((fetch_Mend.f k 3 (([(⟨0, 1⟩ : S39), (⟨1, 2⟩ : S39)] : List (S39)))).bind fun bt233 => (if bt220.2.2 = 0 then (if bt220.1 = 1 then (if bt220.2.1 = 2 then (if bt226.2 = 0 then (if (bt226.1.length : Int) = 2 then (if bt233.2 = 0 then (some ((bt233.1.length : Int) == 2)) else (some false)) else (some false)) else (some false)) else (some false)) else (some false)) else (some false))))) = some r := by first | (rw [hy217]; with_reducible exact H) | (have H2_ := (Option.bind_some _ _).symm.trans H; rw [hy217]; with_reducible exact H2_) | (have H2_ := (Option.bind_some _ _).symm.trans H; with_reducible exact H2_) | with_reducible exact H | (rw [hy217]; exact H) | exact H
 have Ny217 := Aside0.mk hy217
 clear hy217
 obtain ⟨⟨t220, t221, t222⟩, A1, H⟩ := bi_ H
 replace H : ((oneway_Bridges.f k 3 (([(⟨0, 1⟩ : S39), (⟨1, 2⟩ : S39)] : List (S39)))).bind fun bt226 => ((fetch_Mend.f k 3 (([(⟨0, 1⟩ : S39), (⟨1, 2⟩ : S39)] : List (S39)))).bind fun bt233 => (if t222 = 0 then (if t220 = 1 then (if t221 = 2 then (if bt226.2 = 0 then (if (bt226.1.length : Int) = 2 then (if bt233.2 = 0 then (some ((bt233.1.length : Int) == 2)) else (some false)) else (some false)) else (some false)) else (some false)) else (some false)) else (some false)))) = some r := H
 obtain ⟨y223, hy223⟩ : ∃ y_ : List (S39), y_ = (([(⟨0, 1⟩ : S39), (⟨1, 2⟩ : S39)] : List (S39))) := ⟨_, rfl⟩
 replace H : ((oneway_Bridges.f k 3 y223).bind fun bt226 => ((fetch_Mend.f k 3 (([(⟨0, 1⟩ : S39), (⟨1, 2⟩ : S39)] : List (S39)))).bind fun bt233 => (if t222 = 0 then (if t220 = 1 then (if t221 = 2 then (if bt226.2 = 0 then (if (bt226.1.length : Int) = 2 then (if bt233.2 = 0 then (some ((bt233.1.length : Int) == 2)) else (some false)) else (some false)) else (some false)) else (some false)) else (some false)) else (some false)))) = some r := by first | (rw [hy223]; with_reducible exact H) | (have H2_ := (Option.bind_some _ _).symm.trans H; rw [hy223]; with_reducible exact H2_) | (have H2_ := (Option.bind_some _ _).symm.trans H; with_reducible exact H2_) | with_reducible exact H | (rw [hy223]; exact H) | exact H
 have Ny223 := Aside0.mk hy223
 clear hy223
 obtain ⟨⟨t226, t227⟩, A2, H⟩ := bi_ H
 replace H : ((fetch_Mend.f k 3 (([(⟨0, 1⟩ : S39), (⟨1, 2⟩ : S39)] : List (S39)))).bind fun bt233 => (if t222 = 0 then (if t220 = 1 then (if t221 = 2 then (if t227 = 0 then (if (t226.length : Int) = 2 then (if bt233.2 = 0 then (some ((bt233.1.length : Int) == 2)) else (some false)) else (some false)) else (some false)) else (some false)) else (some false)) else (some false))) = some r := H
 obtain ⟨y230, hy230⟩ : ∃ y_ : List (S39), y_ = (([(⟨0, 1⟩ : S39), (⟨1, 2⟩ : S39)] : List (S39))) := ⟨_, rfl⟩
 replace H : ((fetch_Mend.f k 3 y230).bind fun bt233 => (if t222 = 0 then (if t220 = 1 then (if t221 = 2 then (if t227 = 0 then (if (t226.length : Int) = 2 then (if bt233.2 = 0 then (some ((bt233.1.length : Int) == 2)) else (some false)) else (some false)) else (some false)) else (some false)) else (some false)) else (some false))) = some r := by first | (rw [hy230]; with_reducible exact H) | (have H2_ := (Option.bind_some _ _).symm.trans H; rw [hy230]; with_reducible exact H2_) | (have H2_ := (Option.bind_some _ _).symm.trans H; with_reducible exact H2_) | with_reducible exact H | (rw [hy230]; exact H) | exact H
 have Ny230 := Aside0.mk hy230
 clear hy230
 obtain ⟨⟨t233, t236⟩, A3, H⟩ := bi_ H
 replace H : (if t222 = 0 then (if t220 = 1 then (if t221 = 2 then (if t227 = 0 then (if (t226.length : Int) = 2 then (if t236 = 0 then (some ((t233.length : Int) == 2)) else (some false)) else (some false)) else (some false)) else (some false)) else (some false)) else (some false)) = some r := H
 by_cases c4 : t222 = 0
 ·rw [if_pos c4] at H
  have c4b0 : (t222 == 0) = true := beq_iff_eq.mpr c4
  have c4b1 : (t222 != 0) = false := bne_eq_false_iff_eq.mpr c4
  clear c4
  by_cases c5 : t220 = 1
  ·rw [if_pos c5] at H
   have c5b0 : (t220 == 1) = true := beq_iff_eq.mpr c5
   have c5b1 : (t220 != 1) = false := bne_eq_false_iff_eq.mpr c5
   clear c5
   by_cases c6 : t221 = 2
   ·rw [if_pos c6] at H
    have c6b0 : (t221 == 2) = true := beq_iff_eq.mpr c6
    have c6b1 : (t221 != 2) = false := bne_eq_false_iff_eq.mpr c6
    clear c6
    by_cases c7 : t227 = 0
    ·rw [if_pos c7] at H
     have c7b0 : (t227 == 0) = true := beq_iff_eq.mpr c7
     have c7b1 : (t227 != 0) = false := bne_eq_false_iff_eq.mpr c7
     clear c7
     by_cases c8 : (t226.length : Int) = 2
     ·rw [if_pos c8] at H
      have c8b0 : ((t226.length : Int) == 2) = true := beq_iff_eq.mpr c8
      have c8b1 : ((t226.length : Int) != 2) = false := bne_eq_false_iff_eq.mpr c8
      clear c8
      by_cases c9 : t236 = 0
      ·rw [if_pos c9] at H
       have c9b0 : (t236 == 0) = true := beq_iff_eq.mpr c9
       have c9b1 : (t236 != 0) = false := bne_eq_false_iff_eq.mpr c9
       clear c9
       obtain rfl := Option.some.inj H
       go_enter Tryd.func4, Tryd.ntmps4
       go_wp2_with (first | ((with_reducible refine gate_dst (N := 11) rfl ?_); (try (refine gate_guard (by rfl) ?_; dsimp only)); refine Kd.R_lit k36 _ 36 ?hg (N := 11) ?hd (xs := ([(⟨0, 1, 0⟩ : S36), (⟨1, 2, 0⟩ : S36)] : List (S36))) (inner := [.int .i64 0, .int .i64 1, .int .i64 0, .int .i64 1, .int .i64 2, .int .i64 0]) (ok := fun _ => True) (okp := fun _ => True) ?hr ?hp (fun _ hk => hk) trivial (Below.refl _ _) (Nat.le_refl _) (by simp) ?_; (case hd => rfl); (case hg => rfl); (case hr => first | (go_simp; done) | (go_simp; rfl)); (case hp => exact (Reps.c3 (show Kd.M k36 _ _ _ (⟨0, 1, 0⟩ : S36) [.int .i64 0, .int .i64 1, .int .i64 0] from (k36_mkM _ _ _ (⟨0, 1, 0⟩ : S36) )) (Reps.c3 (show Kd.M k36 _ _ _ (⟨1, 2, 0⟩ : S36) [.int .i64 1, .int .i64 2, .int .i64 0] from (k36_mkM _ _ _ (⟨1, 2, 0⟩ : S36) )) (Reps.none _ _)))); intro v218 w10 ho11 hb hg_ hnew_; clear hg_ hnew_; (first | rw [← Ny217.out] at ho11 | (simp only [Int.reduceToNat] at ho11; rw [← Ny217.out] at ho11)); have HO219 := rl_ ho11; replace HB := hb_ hb; clear hb ho11; obtain ⟨Ao12, co12, eo12⟩ := Kd.R_slice HO219.out; subst eo12) | ((with_reducible refine gate_callee (f := 9) rfl ?_); refine goesL_ (some 12) rfl rfl Tryd.func9 (by kernel_rfl) rfl #[.int .i64 3, .slice Ao12 y217.length co12] rfl (as_) ?_; (with_reducible refine (branch_Narrow.calls k 3 _ _ y217 t220 t221 t222 _ ?side1 ?side2 A1.out).mono ?_); (case side1 => exact cr_ HO219.out); (case side2 => exact (Kd.R_reads' HO219.out).2.1); rintro e w13 ⟨rfl, hb⟩; refine ⟨_, rfl, ?_⟩; replace HO219 := rb_ HO219 hb; replace HB := hb_ hb; clear hb) | ((with_reducible refine gate_dst (N := 19) rfl ?_); (try (refine gate_guard (by rfl) ?_; dsimp only)); refine Kd.R_lit k39 _ 39 ?hg (N := 19) ?hd (xs := ([(⟨0, 1⟩ : S39), (⟨1, 2⟩ : S39)] : List (S39))) (inner := [.int .i64 0, .int .i64 1, .int .i64 1, .int .i64 2]) (ok := fun _ => True) (okp := fun _ => True) ?hr ?hp (fun _ hk => hk) trivial (Below.refl _ _) (Nat.le_refl _) (by simp) ?_; (case hd => rfl); (case hg => rfl); (case hr => first | (go_simp; done) | (go_simp; rfl)); (case hp => exact (Reps.c2 (show Kd.M k39 _ _ _ (⟨0, 1⟩ : S39) [.int .i64 0, .int .i64 1] from (k39_mkM _ _ _ (⟨0, 1⟩ : S39) )) (Reps.c2 (show Kd.M k39 _ _ _ (⟨1, 2⟩ : S39) [.int .i64 1, .int .i64 2] from (k39_mkM _ _ _ (⟨1, 2⟩ : S39) )) (Reps.none _ _)))); intro v224 w14 ho15 hb hg_ hnew_; clear hg_ hnew_; (first | rw [← Ny223.out] at ho15 | (simp only [Int.reduceToNat] at ho15; rw [← Ny223.out] at ho15)); replace HO219 := rb_ HO219 hb; have HO225 := rl_ ho15; replace HB := hb_ hb; clear hb ho15; obtain ⟨Ao16, co16, eo16⟩ := Kd.R_slice HO225.out; subst eo16) | ((with_reducible refine gate_callee (f := 10) rfl ?_); refine goesL_ (some 20) rfl rfl Tryd.func10 (by kernel_rfl) rfl #[.int .i64 3, .slice Ao16 y223.length co16] rfl (as_) ?_; (with_reducible refine (oneway_Bridges.calls k 3 _ _ y223 t226 t227 _ ?side1 ?side2 A2.out).mono ?_); (case side1 => exact cr_ HO225.out); (case side2 => exact (Kd.R_reads' HO225.out).2.1); rintro e w17 ⟨v228, rfl, ho0, hb⟩; refine ⟨_, rfl, ?_⟩; replace HO219 := rb_ HO219 hb; replace HO225 := rb_ HO225 hb; have HO229 := rl_ ho0; replace HB := hb_ hb; clear hb ho0) | ((with_reducible refine gate_dst (N := 26) rfl ?_); (try (refine gate_guard (by rfl) ?_; dsimp only)); refine Kd.R_lit k39 _ 39 ?hg (N := 26) ?hd (xs := ([(⟨0, 1⟩ : S39), (⟨1, 2⟩ : S39)] : List (S39))) (inner := [.int .i64 0, .int .i64 1, .int .i64 1, .int .i64 2]) (ok := fun _ => True) (okp := fun _ => True) ?hr ?hp (fun _ hk => hk) trivial (Below.refl _ _) (Nat.le_refl _) (by simp) ?_; (case hd => rfl); (case hg => rfl); (case hr => first | (go_simp; done) | (go_simp; rfl)); (case hp => exact (Reps.c2 (show Kd.M k39 _ _ _ (⟨0, 1⟩ : S39) [.int .i64 0, .int .i64 1] from (k39_mkM _ _ _ (⟨0, 1⟩ : S39) )) (Reps.c2 (show Kd.M k39 _ _ _ (⟨1, 2⟩ : S39) [.int .i64 1, .int .i64 2] from (k39_mkM _ _ _ (⟨1, 2⟩ : S39) )) (Reps.none _ _)))); intro v231 w18 ho19 hb hg_ hnew_; clear hg_ hnew_; (first | rw [← Ny230.out] at ho19 | (simp only [Int.reduceToNat] at ho19; rw [← Ny230.out] at ho19)); replace HO219 := rb_ HO219 hb; replace HO229 := rb_ HO229 hb; have HO232 := rl_ (rn_ ho19 HO225); replace HO225 := re_ HO225 ho19 hb; replace HB := hb_ hb; clear hb ho19; obtain ⟨Ao20, co20, eo20⟩ := Kd.R_slice HO232.out; subst eo20) | ((with_reducible refine gate_callee (f := 8) rfl ?_); refine goesL_ (some 27) rfl rfl Tryd.func8 (by kernel_rfl) rfl #[.int .i64 3, .slice Ao20 y230.length co20] rfl (as_) ?_; (with_reducible refine (fetch_Mend.calls k 3 (fun k_ => some k_ = (.slice Ao20 y230.length co20 : Value).ownBlock) _ _ y230 t233 t236 _ ?side1 A3.out).mono ?_); (case side1 => exact Kd.R_V (Kd.R_tight rfl (Kd.R_apart' (Kd.R_apart' (HO232.out) (Kd.R_typed HO219.out) (by decide)) (Kd.R_typed HO229.out) (by decide)))); rintro e w21 ⟨v234, rfl, ho0, hb⟩; refine ⟨_, rfl, ?_⟩; have HO235 := Aside0.mk (Kd.V_lower (Kd.V_mono (ok' := fun k_ => some k_ ≠ (.slice Ao12 y217.length co12 : Value).ownBlock ∧ some k_ ≠ (.slice Ao16 y223.length co16 : Value).ownBlock ∧ some k_ ≠ (v228 : Value).ownBlock) ho0 (fun k_ hk_ => ⟨Or.elim hk_ (fun hs_ => ((Kd.R_apart' (Kd.R_apart' (HO232.out) (Kd.R_typed HO219.out) (by decide)) (Kd.R_typed HO229.out) (by decide)).1 k_ hs_.symm).1.2) (fun hn_ => (Kd.fresh' (Kd.R_lt (kr_ HO219.out)) k_ hn_)), Or.elim hk_ (fun hs_ => ((Kd.R_apart' (Kd.R_apart' (HO232.out) (Kd.R_typed HO219.out) (by decide)) (Kd.R_typed HO229.out) (by decide)).1 k_ hs_.symm).1.1.2) (fun hn_ => (Kd.fresh' (Kd.R_lt (kr_ HO225.out)) k_ hn_)), Or.elim hk_ (fun hs_ => ((Kd.R_apart' (Kd.R_apart' (HO232.out) (Kd.R_typed HO219.out) (by decide)) (Kd.R_typed HO229.out) (by decide)).1 k_ hs_.symm).2) (fun hn_ => (Kd.fresh' (Kd.R_lt (kr_ HO229.out)) k_ hn_))⟩)) (below_size (bl_))); replace HO219 := rb_ HO219 hb; replace HO225 := rb_ HO225 hb; replace HO229 := rb_ HO229 hb; replace HO232 := rb_ HO232 hb; replace HB := hb_ hb; clear hb ho0; obtain ⟨Ao22, co22, eo22⟩ := Kd.R_slice HO229.out; subst eo22; obtain ⟨Ao23, co23, eo23⟩ := Kd.V_slice HO235.out; subst eo23))
       go_ret
       exact ⟨er_, bl_⟩
      ·rw [if_neg c9] at H
       have c9b0 : (t236 == 0) = false := beq_eq_false_iff_ne.mpr c9
       have c9b1 : (t236 != 0) = true := bne_iff_ne.mpr c9
       obtain rfl := Option.some.inj H
       go_enter Tryd.func4, Tryd.ntmps4
       go_wp2_with (first | ((with_reducible refine gate_dst (N := 11) rfl ?_); (try (refine gate_guard (by rfl) ?_; dsimp only)); refine Kd.R_lit k36 _ 36 ?hg (N := 11) ?hd (xs := ([(⟨0, 1, 0⟩ : S36), (⟨1, 2, 0⟩ : S36)] : List (S36))) (inner := [.int .i64 0, .int .i64 1, .int .i64 0, .int .i64 1, .int .i64 2, .int .i64 0]) (ok := fun _ => True) (okp := fun _ => True) ?hr ?hp (fun _ hk => hk) trivial (Below.refl _ _) (Nat.le_refl _) (by simp) ?_; (case hd => rfl); (case hg => rfl); (case hr => first | (go_simp; done) | (go_simp; rfl)); (case hp => exact (Reps.c3 (show Kd.M k36 _ _ _ (⟨0, 1, 0⟩ : S36) [.int .i64 0, .int .i64 1, .int .i64 0] from (k36_mkM _ _ _ (⟨0, 1, 0⟩ : S36) )) (Reps.c3 (show Kd.M k36 _ _ _ (⟨1, 2, 0⟩ : S36) [.int .i64 1, .int .i64 2, .int .i64 0] from (k36_mkM _ _ _ (⟨1, 2, 0⟩ : S36) )) (Reps.none _ _)))); intro v218 w24 ho25 hb hg_ hnew_; clear hg_ hnew_; (first | rw [← Ny217.out] at ho25 | (simp only [Int.reduceToNat] at ho25; rw [← Ny217.out] at ho25)); have HO219 := rl_ ho25; replace HB := hb_ hb; clear hb ho25; obtain ⟨Ao26, co26, eo26⟩ := Kd.R_slice HO219.out; subst eo26) | ((with_reducible refine gate_callee (f := 9) rfl ?_); refine goesL_ (some 12) rfl rfl Tryd.func9 (by kernel_rfl) rfl #[.int .i64 3, .slice Ao26 y217.length co26] rfl (as_) ?_; (with_reducible refine (branch_Narrow.calls k 3 _ _ y217 t220 t221 t222 _ ?side1 ?side2 A1.out).mono ?_); (case side1 => exact cr_ HO219.out); (case side2 => exact (Kd.R_reads' HO219.out).2.1); rintro e w27 ⟨rfl, hb⟩; refine ⟨_, rfl, ?_⟩; replace HO219 := rb_ HO219 hb; replace HB := hb_ hb; clear hb) | ((with_reducible refine gate_dst (N := 19) rfl ?_); (try (refine gate_guard (by rfl) ?_; dsimp only)); refine Kd.R_lit k39 _ 39 ?hg (N := 19) ?hd (xs := ([(⟨0, 1⟩ : S39), (⟨1, 2⟩ : S39)] : List (S39))) (inner := [.int .i64 0, .int .i64 1, .int .i64 1, .int .i64 2]) (ok := fun _ => True) (okp := fun _ => True) ?hr ?hp (fun _ hk => hk) trivial (Below.refl _ _) (Nat.le_refl _) (by simp) ?_; (case hd => rfl); (case hg => rfl); (case hr => first | (go_simp; done) | (go_simp; rfl)); (case hp => exact (Reps.c2 (show Kd.M k39 _ _ _ (⟨0, 1⟩ : S39) [.int .i64 0, .int .i64 1] from (k39_mkM _ _ _ (⟨0, 1⟩ : S39) )) (Reps.c2 (show Kd.M k39 _ _ _ (⟨1, 2⟩ : S39) [.int .i64 1, .int .i64 2] from (k39_mkM _ _ _ (⟨1, 2⟩ : S39) )) (Reps.none _ _)))); intro v224 w28 ho29 hb hg_ hnew_; clear hg_ hnew_; (first | rw [← Ny223.out] at ho29 | (simp only [Int.reduceToNat] at ho29; rw [← Ny223.out] at ho29)); replace HO219 := rb_ HO219 hb; have HO225 := rl_ ho29; replace HB := hb_ hb; clear hb ho29; obtain ⟨Ao30, co30, eo30⟩ := Kd.R_slice HO225.out; subst eo30) | ((with_reducible refine gate_callee (f := 10) rfl ?_); refine goesL_ (some 20) rfl rfl Tryd.func10 (by kernel_rfl) rfl #[.int .i64 3, .slice Ao30 y223.length co30] rfl (as_) ?_; (with_reducible refine (oneway_Bridges.calls k 3 _ _ y223 t226 t227 _ ?side1 ?side2 A2.out).mono ?_); (case side1 => exact cr_ HO225.out); (case side2 => exact (Kd.R_reads' HO225.out).2.1); rintro e w31 ⟨v228, rfl, ho0, hb⟩; refine ⟨_, rfl, ?_⟩; replace HO219 := rb_ HO219 hb; replace HO225 := rb_ HO225 hb; have HO229 := rl_ ho0; replace HB := hb_ hb; clear hb ho0) | ((with_reducible refine gate_dst (N := 26) rfl ?_); (try (refine gate_guard (by rfl) ?_; dsimp only)); refine Kd.R_lit k39 _ 39 ?hg (N := 26) ?hd (xs := ([(⟨0, 1⟩ : S39), (⟨1, 2⟩ : S39)] : List (S39))) (inner := [.int .i64 0, .int .i64 1, .int .i64 1, .int .i64 2]) (ok := fun _ => True) (okp := fun _ => True) ?hr ?hp (fun _ hk => hk) trivial (Below.refl _ _) (Nat.le_refl _) (by simp) ?_; (case hd => rfl); (case hg => rfl); (case hr => first | (go_simp; done) | (go_simp; rfl)); (case hp => exact (Reps.c2 (show Kd.M k39 _ _ _ (⟨0, 1⟩ : S39) [.int .i64 0, .int .i64 1] from (k39_mkM _ _ _ (⟨0, 1⟩ : S39) )) (Reps.c2 (show Kd.M k39 _ _ _ (⟨1, 2⟩ : S39) [.int .i64 1, .int .i64 2] from (k39_mkM _ _ _ (⟨1, 2⟩ : S39) )) (Reps.none _ _)))); intro v231 w32 ho33 hb hg_ hnew_; clear hg_ hnew_; (first | rw [← Ny230.out] at ho33 | (simp only [Int.reduceToNat] at ho33; rw [← Ny230.out] at ho33)); replace HO219 := rb_ HO219 hb; replace HO229 := rb_ HO229 hb; have HO232 := rl_ (rn_ ho33 HO225); replace HO225 := re_ HO225 ho33 hb; replace HB := hb_ hb; clear hb ho33; obtain ⟨Ao34, co34, eo34⟩ := Kd.R_slice HO232.out; subst eo34) | ((with_reducible refine gate_callee (f := 8) rfl ?_); refine goesL_ (some 27) rfl rfl Tryd.func8 (by kernel_rfl) rfl #[.int .i64 3, .slice Ao34 y230.length co34] rfl (as_) ?_; (with_reducible refine (fetch_Mend.calls k 3 (fun k_ => some k_ = (.slice Ao34 y230.length co34 : Value).ownBlock) _ _ y230 t233 t236 _ ?side1 A3.out).mono ?_); (case side1 => exact Kd.R_V (Kd.R_tight rfl (Kd.R_apart' (Kd.R_apart' (HO232.out) (Kd.R_typed HO219.out) (by decide)) (Kd.R_typed HO229.out) (by decide)))); rintro e w35 ⟨v234, rfl, ho0, hb⟩; refine ⟨_, rfl, ?_⟩; have HO235 := Aside0.mk (Kd.V_lower (Kd.V_mono (ok' := fun k_ => some k_ ≠ (.slice Ao26 y217.length co26 : Value).ownBlock ∧ some k_ ≠ (.slice Ao30 y223.length co30 : Value).ownBlock ∧ some k_ ≠ (v228 : Value).ownBlock) ho0 (fun k_ hk_ => ⟨Or.elim hk_ (fun hs_ => ((Kd.R_apart' (Kd.R_apart' (HO232.out) (Kd.R_typed HO219.out) (by decide)) (Kd.R_typed HO229.out) (by decide)).1 k_ hs_.symm).1.2) (fun hn_ => (Kd.fresh' (Kd.R_lt (kr_ HO219.out)) k_ hn_)), Or.elim hk_ (fun hs_ => ((Kd.R_apart' (Kd.R_apart' (HO232.out) (Kd.R_typed HO219.out) (by decide)) (Kd.R_typed HO229.out) (by decide)).1 k_ hs_.symm).1.1.2) (fun hn_ => (Kd.fresh' (Kd.R_lt (kr_ HO225.out)) k_ hn_)), Or.elim hk_ (fun hs_ => ((Kd.R_apart' (Kd.R_apart' (HO232.out) (Kd.R_typed HO219.out) (by decide)) (Kd.R_typed HO229.out) (by decide)).1 k_ hs_.symm).2) (fun hn_ => (Kd.fresh' (Kd.R_lt (kr_ HO229.out)) k_ hn_))⟩)) (below_size (bl_))); replace HO219 := rb_ HO219 hb; replace HO225 := rb_ HO225 hb; replace HO229 := rb_ HO229 hb; replace HO232 := rb_ HO232 hb; replace HB := hb_ hb; clear hb ho0; obtain ⟨Ao36, co36, eo36⟩ := Kd.R_slice HO229.out; subst eo36))
       go_ret
       exact ⟨er_, bl_⟩
     ·rw [if_neg c8] at H
      have c8b0 : ((t226.length : Int) == 2) = false := beq_eq_false_iff_ne.mpr c8
      have c8b1 : ((t226.length : Int) != 2) = true := bne_iff_ne.mpr c8
      obtain rfl := Option.some.inj H
      go_enter Tryd.func4, Tryd.ntmps4
      go_wp2_with (first | ((with_reducible refine gate_dst (N := 11) rfl ?_); (try (refine gate_guard (by rfl) ?_; dsimp only)); refine Kd.R_lit k36 _ 36 ?hg (N := 11) ?hd (xs := ([(⟨0, 1, 0⟩ : S36), (⟨1, 2, 0⟩ : S36)] : List (S36))) (inner := [.int .i64 0, .int .i64 1, .int .i64 0, .int .i64 1, .int .i64 2, .int .i64 0]) (ok := fun _ => True) (okp := fun _ => True) ?hr ?hp (fun _ hk => hk) trivial (Below.refl _ _) (Nat.le_refl _) (by simp) ?_; (case hd => rfl); (case hg => rfl); (case hr => first | (go_simp; done) | (go_simp; rfl)); (case hp => exact (Reps.c3 (show Kd.M k36 _ _ _ (⟨0, 1, 0⟩ : S36) [.int .i64 0, .int .i64 1, .int .i64 0] from (k36_mkM _ _ _ (⟨0, 1, 0⟩ : S36) )) (Reps.c3 (show Kd.M k36 _ _ _ (⟨1, 2, 0⟩ : S36) [.int .i64 1, .int .i64 2, .int .i64 0] from (k36_mkM _ _ _ (⟨1, 2, 0⟩ : S36) )) (Reps.none _ _)))); intro v218 w37 ho38 hb hg_ hnew_; clear hg_ hnew_; (first | rw [← Ny217.out] at ho38 | (simp only [Int.reduceToNat] at ho38; rw [← Ny217.out] at ho38)); have HO219 := rl_ ho38; replace HB := hb_ hb; clear hb ho38; obtain ⟨Ao39, co39, eo39⟩ := Kd.R_slice HO219.out; subst eo39) | ((with_reducible refine gate_callee (f := 9) rfl ?_); refine goesL_ (some 12) rfl rfl Tryd.func9 (by kernel_rfl) rfl #[.int .i64 3, .slice Ao39 y217.length co39] rfl (as_) ?_; (with_reducible refine (branch_Narrow.calls k 3 _ _ y217 t220 t221 t222 _ ?side1 ?side2 A1.out).mono ?_); (case side1 => exact cr_ HO219.out); (case side2 => exact (Kd.R_reads' HO219.out).2.1); rintro e w40 ⟨rfl, hb⟩; refine ⟨_, rfl, ?_⟩; replace HO219 := rb_ HO219 hb; replace HB := hb_ hb; clear hb) | ((with_reducible refine gate_dst (N := 19) rfl ?_); (try (refine gate_guard (by rfl) ?_; dsimp only)); refine Kd.R_lit k39 _ 39 ?hg (N := 19) ?hd (xs := ([(⟨0, 1⟩ : S39), (⟨1, 2⟩ : S39)] : List (S39))) (inner := [.int .i64 0, .int .i64 1, .int .i64 1, .int .i64 2]) (ok := fun _ => True) (okp := fun _ => True) ?hr ?hp (fun _ hk => hk) trivial (Below.refl _ _) (Nat.le_refl _) (by simp) ?_; (case hd => rfl); (case hg => rfl); (case hr => first | (go_simp; done) | (go_simp; rfl)); (case hp => exact (Reps.c2 (show Kd.M k39 _ _ _ (⟨0, 1⟩ : S39) [.int .i64 0, .int .i64 1] from (k39_mkM _ _ _ (⟨0, 1⟩ : S39) )) (Reps.c2 (show Kd.M k39 _ _ _ (⟨1, 2⟩ : S39) [.int .i64 1, .int .i64 2] from (k39_mkM _ _ _ (⟨1, 2⟩ : S39) )) (Reps.none _ _)))); intro v224 w41 ho42 hb hg_ hnew_; clear hg_ hnew_; (first | rw [← Ny223.out] at ho42 | (simp only [Int.reduceToNat] at ho42; rw [← Ny223.out] at ho42)); replace HO219 := rb_ HO219 hb; have HO225 := rl_ ho42; replace HB := hb_ hb; clear hb ho42; obtain ⟨Ao43, co43, eo43⟩ := Kd.R_slice HO225.out; subst eo43) | ((with_reducible refine gate_callee (f := 10) rfl ?_); refine goesL_ (some 20) rfl rfl Tryd.func10 (by kernel_rfl) rfl #[.int .i64 3, .slice Ao43 y223.length co43] rfl (as_) ?_; (with_reducible refine (oneway_Bridges.calls k 3 _ _ y223 t226 t227 _ ?side1 ?side2 A2.out).mono ?_); (case side1 => exact cr_ HO225.out); (case side2 => exact (Kd.R_reads' HO225.out).2.1); rintro e w44 ⟨v228, rfl, ho0, hb⟩; refine ⟨_, rfl, ?_⟩; replace HO219 := rb_ HO219 hb; replace HO225 := rb_ HO225 hb; have HO229 := rl_ ho0; replace HB := hb_ hb; clear hb ho0) | ((with_reducible refine gate_dst (N := 26) rfl ?_); (try (refine gate_guard (by rfl) ?_; dsimp only)); refine Kd.R_lit k39 _ 39 ?hg (N := 26) ?hd (xs := ([(⟨0, 1⟩ : S39), (⟨1, 2⟩ : S39)] : List (S39))) (inner := [.int .i64 0, .int .i64 1, .int .i64 1, .int .i64 2]) (ok := fun _ => True) (okp := fun _ => True) ?hr ?hp (fun _ hk => hk) trivial (Below.refl _ _) (Nat.le_refl _) (by simp) ?_; (case hd => rfl); (case hg => rfl); (case hr => first | (go_simp; done) | (go_simp; rfl)); (case hp => exact (Reps.c2 (show Kd.M k39 _ _ _ (⟨0, 1⟩ : S39) [.int .i64 0, .int .i64 1] from (k39_mkM _ _ _ (⟨0, 1⟩ : S39) )) (Reps.c2 (show Kd.M k39 _ _ _ (⟨1, 2⟩ : S39) [.int .i64 1, .int .i64 2] from (k39_mkM _ _ _ (⟨1, 2⟩ : S39) )) (Reps.none _ _)))); intro v231 w45 ho46 hb hg_ hnew_; clear hg_ hnew_; (first | rw [← Ny230.out] at ho46 | (simp only [Int.reduceToNat] at ho46; rw [← Ny230.out] at ho46)); replace HO219 := rb_ HO219 hb; replace HO229 := rb_ HO229 hb; have HO232 := rl_ (rn_ ho46 HO225); replace HO225 := re_ HO225 ho46 hb; replace HB := hb_ hb; clear hb ho46; obtain ⟨Ao47, co47, eo47⟩ := Kd.R_slice HO232.out; subst eo47) | ((with_reducible refine gate_callee (f := 8) rfl ?_); refine goesL_ (some 27) rfl rfl Tryd.func8 (by kernel_rfl) rfl #[.int .i64 3, .slice Ao47 y230.length co47] rfl (as_) ?_; (with_reducible refine (fetch_Mend.calls k 3 (fun k_ => some k_ = (.slice Ao47 y230.length co47 : Value).ownBlock) _ _ y230 t233 t236 _ ?side1 A3.out).mono ?_); (case side1 => exact Kd.R_V (Kd.R_tight rfl (Kd.R_apart' (Kd.R_apart' (HO232.out) (Kd.R_typed HO219.out) (by decide)) (Kd.R_typed HO229.out) (by decide)))); rintro e w48 ⟨v234, rfl, ho0, hb⟩; refine ⟨_, rfl, ?_⟩; have HO235 := Aside0.mk (Kd.V_lower (Kd.V_mono (ok' := fun k_ => some k_ ≠ (.slice Ao39 y217.length co39 : Value).ownBlock ∧ some k_ ≠ (.slice Ao43 y223.length co43 : Value).ownBlock ∧ some k_ ≠ (v228 : Value).ownBlock) ho0 (fun k_ hk_ => ⟨Or.elim hk_ (fun hs_ => ((Kd.R_apart' (Kd.R_apart' (HO232.out) (Kd.R_typed HO219.out) (by decide)) (Kd.R_typed HO229.out) (by decide)).1 k_ hs_.symm).1.2) (fun hn_ => (Kd.fresh' (Kd.R_lt (kr_ HO219.out)) k_ hn_)), Or.elim hk_ (fun hs_ => ((Kd.R_apart' (Kd.R_apart' (HO232.out) (Kd.R_typed HO219.out) (by decide)) (Kd.R_typed HO229.out) (by decide)).1 k_ hs_.symm).1.1.2) (fun hn_ => (Kd.fresh' (Kd.R_lt (kr_ HO225.out)) k_ hn_)), Or.elim hk_ (fun hs_ => ((Kd.R_apart' (Kd.R_apart' (HO232.out) (Kd.R_typed HO219.out) (by decide)) (Kd.R_typed HO229.out) (by decide)).1 k_ hs_.symm).2) (fun hn_ => (Kd.fresh' (Kd.R_lt (kr_ HO229.out)) k_ hn_))⟩)) (below_size (bl_))); replace HO219 := rb_ HO219 hb; replace HO225 := rb_ HO225 hb; replace HO229 := rb_ HO229 hb; replace HO232 := rb_ HO232 hb; replace HB := hb_ hb; clear hb ho0; obtain ⟨Ao49, co49, eo49⟩ := Kd.R_slice HO229.out; subst eo49))
      go_ret
      exact ⟨er_, bl_⟩
    ·rw [if_neg c7] at H
     have c7b0 : (t227 == 0) = false := beq_eq_false_iff_ne.mpr c7
     have c7b1 : (t227 != 0) = true := bne_iff_ne.mpr c7
     obtain rfl := Option.some.inj H
     go_enter Tryd.func4, Tryd.ntmps4
     go_wp2_with (first | ((with_reducible refine gate_dst (N := 11) rfl ?_); (try (refine gate_guard (by rfl) ?_; dsimp only)); refine Kd.R_lit k36 _ 36 ?hg (N := 11) ?hd (xs := ([(⟨0, 1, 0⟩ : S36), (⟨1, 2, 0⟩ : S36)] : List (S36))) (inner := [.int .i64 0, .int .i64 1, .int .i64 0, .int .i64 1, .int .i64 2, .int .i64 0]) (ok := fun _ => True) (okp := fun _ => True) ?hr ?hp (fun _ hk => hk) trivial (Below.refl _ _) (Nat.le_refl _) (by simp) ?_; (case hd => rfl); (case hg => rfl); (case hr => first | (go_simp; done) | (go_simp; rfl)); (case hp => exact (Reps.c3 (show Kd.M k36 _ _ _ (⟨0, 1, 0⟩ : S36) [.int .i64 0, .int .i64 1, .int .i64 0] from (k36_mkM _ _ _ (⟨0, 1, 0⟩ : S36) )) (Reps.c3 (show Kd.M k36 _ _ _ (⟨1, 2, 0⟩ : S36) [.int .i64 1, .int .i64 2, .int .i64 0] from (k36_mkM _ _ _ (⟨1, 2, 0⟩ : S36) )) (Reps.none _ _)))); intro v218 w50 ho51 hb hg_ hnew_; clear hg_ hnew_; (first | rw [← Ny217.out] at ho51 | (simp only [Int.reduceToNat] at ho51; rw [← Ny217.out] at ho51)); have HO219 := rl_ ho51; replace HB := hb_ hb; clear hb ho51; obtain ⟨Ao52, co52, eo52⟩ := Kd.R_slice HO219.out; subst eo52) | ((with_reducible refine gate_callee (f := 9) rfl ?_); refine goesL_ (some 12) rfl rfl Tryd.func9 (by kernel_rfl) rfl #[.int .i64 3, .slice Ao52 y217.length co52] rfl (as_) ?_; (with_reducible refine (branch_Narrow.calls k 3 _ _ y217 t220 t221 t222 _ ?side1 ?side2 A1.out).mono ?_); (case side1 => exact cr_ HO219.out); (case side2 => exact (Kd.R_reads' HO219.out).2.1); rintro e w53 ⟨rfl, hb⟩; refine ⟨_, rfl, ?_⟩; replace HO219 := rb_ HO219 hb; replace HB := hb_ hb; clear hb) | ((with_reducible refine gate_dst (N := 19) rfl ?_); (try (refine gate_guard (by rfl) ?_; dsimp only)); refine Kd.R_lit k39 _ 39 ?hg (N := 19) ?hd (xs := ([(⟨0, 1⟩ : S39), (⟨1, 2⟩ : S39)] : List (S39))) (inner := [.int .i64 0, .int .i64 1, .int .i64 1, .int .i64 2]) (ok := fun _ => True) (okp := fun _ => True) ?hr ?hp (fun _ hk => hk) trivial (Below.refl _ _) (Nat.le_refl _) (by simp) ?_; (case hd => rfl); (case hg => rfl); (case hr => first | (go_simp; done) | (go_simp; rfl)); (case hp => exact (Reps.c2 (show Kd.M k39 _ _ _ (⟨0, 1⟩ : S39) [.int .i64 0, .int .i64 1] from (k39_mkM _ _ _ (⟨0, 1⟩ : S39) )) (Reps.c2 (show Kd.M k39 _ _ _ (⟨1, 2⟩ : S39) [.int .i64 1, .int .i64 2] from (k39_mkM _ _ _ (⟨1, 2⟩ : S39) )) (Reps.none _ _)))); intro v224 w54 ho55 hb hg_ hnew_; clear hg_ hnew_; (first | rw [← Ny223.out] at ho55 | (simp only [Int.reduceToNat] at ho55; rw [← Ny223.out] at ho55)); replace HO219 := rb_ HO219 hb; have HO225 := rl_ ho55; replace HB := hb_ hb; clear hb ho55; obtain ⟨Ao56, co56, eo56⟩ := Kd.R_slice HO225.out; subst eo56) | ((with_reducible refine gate_callee (f := 10) rfl ?_); refine goesL_ (some 20) rfl rfl Tryd.func10 (by kernel_rfl) rfl #[.int .i64 3, .slice Ao56 y223.length co56] rfl (as_) ?_; (with_reducible refine (oneway_Bridges.calls k 3 _ _ y223 t226 t227 _ ?side1 ?side2 A2.out).mono ?_); (case side1 => exact cr_ HO225.out); (case side2 => exact (Kd.R_reads' HO225.out).2.1); rintro e w57 ⟨v228, rfl, ho0, hb⟩; refine ⟨_, rfl, ?_⟩; replace HO219 := rb_ HO219 hb; replace HO225 := rb_ HO225 hb; have HO229 := rl_ ho0; replace HB := hb_ hb; clear hb ho0) | ((with_reducible refine gate_dst (N := 26) rfl ?_); (try (refine gate_guard (by rfl) ?_; dsimp only)); refine Kd.R_lit k39 _ 39 ?hg (N := 26) ?hd (xs := ([(⟨0, 1⟩ : S39), (⟨1, 2⟩ : S39)] : List (S39))) (inner := [.int .i64 0, .int .i64 1, .int .i64 1, .int .i64 2]) (ok := fun _ => True) (okp := fun _ => True) ?hr ?hp (fun _ hk => hk) trivial (Below.refl _ _) (Nat.le_refl _) (by simp) ?_; (case hd => rfl); (case hg => rfl); (case hr => first | (go_simp; done) | (go_simp; rfl)); (case hp => exact (Reps.c2 (show Kd.M k39 _ _ _ (⟨0, 1⟩ : S39) [.int .i64 0, .int .i64 1] from (k39_mkM _ _ _ (⟨0, 1⟩ : S39) )) (Reps.c2 (show Kd.M k39 _ _ _ (⟨1, 2⟩ : S39) [.int .i64 1, .int .i64 2] from (k39_mkM _ _ _ (⟨1, 2⟩ : S39) )) (Reps.none _ _)))); intro v231 w58 ho59 hb hg_ hnew_; clear hg_ hnew_; (first | rw [← Ny230.out] at ho59 | (simp only [Int.reduceToNat] at ho59; rw [← Ny230.out] at ho59)); replace HO219 := rb_ HO219 hb; replace HO229 := rb_ HO229 hb; have HO232 := rl_ (rn_ ho59 HO225); replace HO225 := re_ HO225 ho59 hb; replace HB := hb_ hb; clear hb ho59; obtain ⟨Ao60, co60, eo60⟩ := Kd.R_slice HO232.out; subst eo60) | ((with_reducible refine gate_callee (f := 8) rfl ?_); refine goesL_ (some 27) rfl rfl Tryd.func8 (by kernel_rfl) rfl #[.int .i64 3, .slice Ao60 y230.length co60] rfl (as_) ?_; (with_reducible refine (fetch_Mend.calls k 3 (fun k_ => some k_ = (.slice Ao60 y230.length co60 : Value).ownBlock) _ _ y230 t233 t236 _ ?side1 A3.out).mono ?_); (case side1 => exact Kd.R_V (Kd.R_tight rfl (Kd.R_apart' (Kd.R_apart' (HO232.out) (Kd.R_typed HO219.out) (by decide)) (Kd.R_typed HO229.out) (by decide)))); rintro e w61 ⟨v234, rfl, ho0, hb⟩; refine ⟨_, rfl, ?_⟩; have HO235 := Aside0.mk (Kd.V_lower (Kd.V_mono (ok' := fun k_ => some k_ ≠ (.slice Ao52 y217.length co52 : Value).ownBlock ∧ some k_ ≠ (.slice Ao56 y223.length co56 : Value).ownBlock ∧ some k_ ≠ (v228 : Value).ownBlock) ho0 (fun k_ hk_ => ⟨Or.elim hk_ (fun hs_ => ((Kd.R_apart' (Kd.R_apart' (HO232.out) (Kd.R_typed HO219.out) (by decide)) (Kd.R_typed HO229.out) (by decide)).1 k_ hs_.symm).1.2) (fun hn_ => (Kd.fresh' (Kd.R_lt (kr_ HO219.out)) k_ hn_)), Or.elim hk_ (fun hs_ => ((Kd.R_apart' (Kd.R_apart' (HO232.out) (Kd.R_typed HO219.out) (by decide)) (Kd.R_typed HO229.out) (by decide)).1 k_ hs_.symm).1.1.2) (fun hn_ => (Kd.fresh' (Kd.R_lt (kr_ HO225.out)) k_ hn_)), Or.elim hk_ (fun hs_ => ((Kd.R_apart' (Kd.R_apart' (HO232.out) (Kd.R_typed HO219.out) (by decide)) (Kd.R_typed HO229.out) (by decide)).1 k_ hs_.symm).2) (fun hn_ => (Kd.fresh' (Kd.R_lt (kr_ HO229.out)) k_ hn_))⟩)) (below_size (bl_))); replace HO219 := rb_ HO219 hb; replace HO225 := rb_ HO225 hb; replace HO229 := rb_ HO229 hb; replace HO232 := rb_ HO232 hb; replace HB := hb_ hb; clear hb ho0))
     go_ret
     exact ⟨er_, bl_⟩
   ·rw [if_neg c6] at H
    have c6b0 : (t221 == 2) = false := beq_eq_false_iff_ne.mpr c6
    have c6b1 : (t221 != 2) = true := bne_iff_ne.mpr c6
    obtain rfl := Option.some.inj H
    go_enter Tryd.func4, Tryd.ntmps4
    go_wp2_with (first | ((with_reducible refine gate_dst (N := 11) rfl ?_); (try (refine gate_guard (by rfl) ?_; dsimp only)); refine Kd.R_lit k36 _ 36 ?hg (N := 11) ?hd (xs := ([(⟨0, 1, 0⟩ : S36), (⟨1, 2, 0⟩ : S36)] : List (S36))) (inner := [.int .i64 0, .int .i64 1, .int .i64 0, .int .i64 1, .int .i64 2, .int .i64 0]) (ok := fun _ => True) (okp := fun _ => True) ?hr ?hp (fun _ hk => hk) trivial (Below.refl _ _) (Nat.le_refl _) (by simp) ?_; (case hd => rfl); (case hg => rfl); (case hr => first | (go_simp; done) | (go_simp; rfl)); (case hp => exact (Reps.c3 (show Kd.M k36 _ _ _ (⟨0, 1, 0⟩ : S36) [.int .i64 0, .int .i64 1, .int .i64 0] from (k36_mkM _ _ _ (⟨0, 1, 0⟩ : S36) )) (Reps.c3 (show Kd.M k36 _ _ _ (⟨1, 2, 0⟩ : S36) [.int .i64 1, .int .i64 2, .int .i64 0] from (k36_mkM _ _ _ (⟨1, 2, 0⟩ : S36) )) (Reps.none _ _)))); intro v218 w62 ho63 hb hg_ hnew_; clear hg_ hnew_; (first | rw [← Ny217.out] at ho63 | (simp only [Int.reduceToNat] at ho63; rw [← Ny217.out] at ho63)); have HO219 := rl_ ho63; replace HB := hb_ hb; clear hb ho63; obtain ⟨Ao64, co64, eo64⟩ := Kd.R_slice HO219.out; subst eo64) | ((with_reducible refine gate_callee (f := 9) rfl ?_); refine goesL_ (some 12) rfl rfl Tryd.func9 (by kernel_rfl) rfl #[.int .i64 3, .slice Ao64 y217.length co64] rfl (as_) ?_; (with_reducible refine (branch_Narrow.calls k 3 _ _ y217 t220 t221 t222 _ ?side1 ?side2 A1.out).mono ?_); (case side1 => exact cr_ HO219.out); (case side2 => exact (Kd.R_reads' HO219.out).2.1); rintro e w65 ⟨rfl, hb⟩; refine ⟨_, rfl, ?_⟩; replace HO219 := rb_ HO219 hb; replace HB := hb_ hb; clear hb) | ((with_reducible refine gate_dst (N := 19) rfl ?_); (try (refine gate_guard (by rfl) ?_; dsimp only)); refine Kd.R_lit k39 _ 39 ?hg (N := 19) ?hd (xs := ([(⟨0, 1⟩ : S39), (⟨1, 2⟩ : S39)] : List (S39))) (inner := [.int .i64 0, .int .i64 1, .int .i64 1, .int .i64 2]) (ok := fun _ => True) (okp := fun _ => True) ?hr ?hp (fun _ hk => hk) trivial (Below.refl _ _) (Nat.le_refl _) (by simp) ?_; (case hd => rfl); (case hg => rfl); (case hr => first | (go_simp; done) | (go_simp; rfl)); (case hp => exact (Reps.c2 (show Kd.M k39 _ _ _ (⟨0, 1⟩ : S39) [.int .i64 0, .int .i64 1] from (k39_mkM _ _ _ (⟨0, 1⟩ : S39) )) (Reps.c2 (show Kd.M k39 _ _ _ (⟨1, 2⟩ : S39) [.int .i64 1, .int .i64 2] from (k39_mkM _ _ _ (⟨1, 2⟩ : S39) )) (Reps.none _ _)))); intro v224 w66 ho67 hb hg_ hnew_; clear hg_ hnew_; (first | rw [← Ny223.out] at ho67 | (simp only [Int.reduceToNat] at ho67; rw [← Ny223.out] at ho67)); replace HO219 := rb_ HO219 hb; have HO225 := rl_ ho67; replace HB := hb_ hb; clear hb ho67; obtain ⟨Ao68, co68, eo68⟩ := Kd.R_slice HO225.out; subst eo68) | ((with_reducible refine gate_callee (f := 10) rfl ?_); refine goesL_ (some 20) rfl rfl Tryd.func10 (by kernel_rfl) rfl #[.int .i64 3, .slice Ao68 y223.length co68] rfl (as_) ?_; (with_reducible refine (oneway_Bridges.calls k 3 _ _ y223 t226 t227 _ ?side1 ?side2 A2.out).mono ?_); (case side1 => exact cr_ HO225.out); (case side2 => exact (Kd.R_reads' HO225.out).2.1); rintro e w69 ⟨v228, rfl, ho0, hb⟩; refine ⟨_, rfl, ?_⟩; replace HO219 := rb_ HO219 hb; replace HO225 := rb_ HO225 hb; have HO229 := rl_ ho0; replace HB := hb_ hb; clear hb ho0) | ((with_reducible refine gate_dst (N := 26) rfl ?_); (try (refine gate_guard (by rfl) ?_; dsimp only)); refine Kd.R_lit k39 _ 39 ?hg (N := 26) ?hd (xs := ([(⟨0, 1⟩ : S39), (⟨1, 2⟩ : S39)] : List (S39))) (inner := [.int .i64 0, .int .i64 1, .int .i64 1, .int .i64 2]) (ok := fun _ => True) (okp := fun _ => True) ?hr ?hp (fun _ hk => hk) trivial (Below.refl _ _) (Nat.le_refl _) (by simp) ?_; (case hd => rfl); (case hg => rfl); (case hr => first | (go_simp; done) | (go_simp; rfl)); (case hp => exact (Reps.c2 (show Kd.M k39 _ _ _ (⟨0, 1⟩ : S39) [.int .i64 0, .int .i64 1] from (k39_mkM _ _ _ (⟨0, 1⟩ : S39) )) (Reps.c2 (show Kd.M k39 _ _ _ (⟨1, 2⟩ : S39) [.int .i64 1, .int .i64 2] from (k39_mkM _ _ _ (⟨1, 2⟩ : S39) )) (Reps.none _ _)))); intro v231 w70 ho71 hb hg_ hnew_; clear hg_ hnew_; (first | rw [← Ny230.out] at ho71 | (simp only [Int.reduceToNat] at ho71; rw [← Ny230.out] at ho71)); replace HO219 := rb_ HO219 hb; replace HO229 := rb_ HO229 hb; have HO232 := rl_ (rn_ ho71 HO225); replace HO225 := re_ HO225 ho71 hb; replace HB := hb_ hb; clear hb ho71; obtain ⟨Ao72, co72, eo72⟩ := Kd.R_slice HO232.out; subst eo72) | ((with_reducible refine gate_callee (f := 8) rfl ?_); refine goesL_ (some 27) rfl rfl Tryd.func8 (by kernel_rfl) rfl #[.int .i64 3, .slice Ao72 y230.length co72] rfl (as_) ?_; (with_reducible refine (fetch_Mend.calls k 3 (fun k_ => some k_ = (.slice Ao72 y230.length co72 : Value).ownBlock) _ _ y230 t233 t236 _ ?side1 A3.out).mono ?_); (case side1 => exact Kd.R_V (Kd.R_tight rfl (Kd.R_apart' (Kd.R_apart' (HO232.out) (Kd.R_typed HO219.out) (by decide)) (Kd.R_typed HO229.out) (by decide)))); rintro e w73 ⟨v234, rfl, ho0, hb⟩; refine ⟨_, rfl, ?_⟩; have HO235 := Aside0.mk (Kd.V_lower (Kd.V_mono (ok' := fun k_ => some k_ ≠ (.slice Ao64 y217.length co64 : Value).ownBlock ∧ some k_ ≠ (.slice Ao68 y223.length co68 : Value).ownBlock ∧ some k_ ≠ (v228 : Value).ownBlock) ho0 (fun k_ hk_ => ⟨Or.elim hk_ (fun hs_ => ((Kd.R_apart' (Kd.R_apart' (HO232.out) (Kd.R_typed HO219.out) (by decide)) (Kd.R_typed HO229.out) (by decide)).1 k_ hs_.symm).1.2) (fun hn_ => (Kd.fresh' (Kd.R_lt (kr_ HO219.out)) k_ hn_)), Or.elim hk_ (fun hs_ => ((Kd.R_apart' (Kd.R_apart' (HO232.out) (Kd.R_typed HO219.out) (by decide)) (Kd.R_typed HO229.out) (by decide)).1 k_ hs_.symm).1.1.2) (fun hn_ => (Kd.fresh' (Kd.R_lt (kr_ HO225.out)) k_ hn_)), Or.elim hk_ (fun hs_ => ((Kd.R_apart' (Kd.R_apart' (HO232.out) (Kd.R_typed HO219.out) (by decide)) (Kd.R_typed HO229.out) (by decide)).1 k_ hs_.symm).2) (fun hn_ => (Kd.fresh' (Kd.R_lt (kr_ HO229.out)) k_ hn_))⟩)) (below_size (bl_))); replace HO219 := rb_ HO219 hb; replace HO225 := rb_ HO225 hb; replace HO229 := rb_ HO229 hb; replace HO232 := rb_ HO232 hb; replace HB := hb_ hb; clear hb ho0))
    go_ret
    exact ⟨er_, bl_⟩
  ·rw [if_neg c5] at H
   have c5b0 : (t220 == 1) = false := beq_eq_false_iff_ne.mpr c5
   have c5b1 : (t220 != 1) = true := bne_iff_ne.mpr c5
   obtain rfl := Option.some.inj H
   go_enter Tryd.func4, Tryd.ntmps4
   go_wp2_with (first | ((with_reducible refine gate_dst (N := 11) rfl ?_); (try (refine gate_guard (by rfl) ?_; dsimp only)); refine Kd.R_lit k36 _ 36 ?hg (N := 11) ?hd (xs := ([(⟨0, 1, 0⟩ : S36), (⟨1, 2, 0⟩ : S36)] : List (S36))) (inner := [.int .i64 0, .int .i64 1, .int .i64 0, .int .i64 1, .int .i64 2, .int .i64 0]) (ok := fun _ => True) (okp := fun _ => True) ?hr ?hp (fun _ hk => hk) trivial (Below.refl _ _) (Nat.le_refl _) (by simp) ?_; (case hd => rfl); (case hg => rfl); (case hr => first | (go_simp; done) | (go_simp; rfl)); (case hp => exact (Reps.c3 (show Kd.M k36 _ _ _ (⟨0, 1, 0⟩ : S36) [.int .i64 0, .int .i64 1, .int .i64 0] from (k36_mkM _ _ _ (⟨0, 1, 0⟩ : S36) )) (Reps.c3 (show Kd.M k36 _ _ _ (⟨1, 2, 0⟩ : S36) [.int .i64 1, .int .i64 2, .int .i64 0] from (k36_mkM _ _ _ (⟨1, 2, 0⟩ : S36) )) (Reps.none _ _)))); intro v218 w74 ho75 hb hg_ hnew_; clear hg_ hnew_; (first | rw [← Ny217.out] at ho75 | (simp only [Int.reduceToNat] at ho75; rw [← Ny217.out] at ho75)); have HO219 := rl_ ho75; replace HB := hb_ hb; clear hb ho75; obtain ⟨Ao76, co76, eo76⟩ := Kd.R_slice HO219.out; subst eo76) | ((with_reducible refine gate_callee (f := 9) rfl ?_); refine goesL_ (some 12) rfl rfl Tryd.func9 (by kernel_rfl) rfl #[.int .i64 3, .slice Ao76 y217.length co76] rfl (as_) ?_; (with_reducible refine (branch_Narrow.calls k 3 _ _ y217 t220 t221 t222 _ ?side1 ?side2 A1.out).mono ?_); (case side1 => exact cr_ HO219.out); (case side2 => exact (Kd.R_reads' HO219.out).2.1); rintro e w77 ⟨rfl, hb⟩; refine ⟨_, rfl, ?_⟩; replace HO219 := rb_ HO219 hb; replace HB := hb_ hb; clear hb) | ((with_reducible refine gate_dst (N := 19) rfl ?_); (try (refine gate_guard (by rfl) ?_; dsimp only)); refine Kd.R_lit k39 _ 39 ?hg (N := 19) ?hd (xs := ([(⟨0, 1⟩ : S39), (⟨1, 2⟩ : S39)] : List (S39))) (inner := [.int .i64 0, .int .i64 1, .int .i64 1, .int .i64 2]) (ok := fun _ => True) (okp := fun _ => True) ?hr ?hp (fun _ hk => hk) trivial (Below.refl _ _) (Nat.le_refl _) (by simp) ?_; (case hd => rfl); (case hg => rfl); (case hr => first | (go_simp; done) | (go_simp; rfl)); (case hp => exact (Reps.c2 (show Kd.M k39 _ _ _ (⟨0, 1⟩ : S39) [.int .i64 0, .int .i64 1] from (k39_mkM _ _ _ (⟨0, 1⟩ : S39) )) (Reps.c2 (show Kd.M k39 _ _ _ (⟨1, 2⟩ : S39) [.int .i64 1, .int .i64 2] from (k39_mkM _ _ _ (⟨1, 2⟩ : S39) )) (Reps.none _ _)))); intro v224 w78 ho79 hb hg_ hnew_; clear hg_ hnew_; (first | rw [← Ny223.out] at ho79 | (simp only [Int.reduceToNat] at ho79; rw [← Ny223.out] at ho79)); replace HO219 := rb_ HO219 hb; have HO225 := rl_ ho79; replace HB := hb_ hb; clear hb ho79; obtain ⟨Ao80, co80, eo80⟩ := Kd.R_slice HO225.out; subst eo80) | ((with_reducible refine gate_callee (f := 10) rfl ?_); refine goesL_ (some 20) rfl rfl Tryd.func10 (by kernel_rfl) rfl #[.int .i64 3, .slice Ao80 y223.length co80] rfl (as_) ?_; (with_reducible refine (oneway_Bridges.calls k 3 _ _ y223 t226 t227 _ ?side1 ?side2 A2.out).mono ?_); (case side1 => exact cr_ HO225.out); (case side2 => exact (Kd.R_reads' HO225.out).2.1); rintro e w81 ⟨v228, rfl, ho0, hb⟩; refine ⟨_, rfl, ?_⟩; replace HO219 := rb_ HO219 hb; replace HO225 := rb_ HO225 hb; have HO229 := rl_ ho0; replace HB := hb_ hb; clear hb ho0) | ((with_reducible refine gate_dst (N := 26) rfl ?_); (try (refine gate_guard (by rfl) ?_; dsimp only)); refine Kd.R_lit k39 _ 39 ?hg (N := 26) ?hd (xs := ([(⟨0, 1⟩ : S39), (⟨1, 2⟩ : S39)] : List (S39))) (inner := [.int .i64 0, .int .i64 1, .int .i64 1, .int .i64 2]) (ok := fun _ => True) (okp := fun _ => True) ?hr ?hp (fun _ hk => hk) trivial (Below.refl _ _) (Nat.le_refl _) (by simp) ?_; (case hd => rfl); (case hg => rfl); (case hr => first | (go_simp; done) | (go_simp; rfl)); (case hp => exact (Reps.c2 (show Kd.M k39 _ _ _ (⟨0, 1⟩ : S39) [.int .i64 0, .int .i64 1] from (k39_mkM _ _ _ (⟨0, 1⟩ : S39) )) (Reps.c2 (show Kd.M k39 _ _ _ (⟨1, 2⟩ : S39) [.int .i64 1, .int .i64 2] from (k39_mkM _ _ _ (⟨1, 2⟩ : S39) )) (Reps.none _ _)))); intro v231 w82 ho83 hb hg_ hnew_; clear hg_ hnew_; (first | rw [← Ny230.out] at ho83 | (simp only [Int.reduceToNat] at ho83; rw [← Ny230.out] at ho83)); replace HO219 := rb_ HO219 hb; replace HO229 := rb_ HO229 hb; have HO232 := rl_ (rn_ ho83 HO225); replace HO225 := re_ HO225 ho83 hb; replace HB := hb_ hb; clear hb ho83; obtain ⟨Ao84, co84, eo84⟩ := Kd.R_slice HO232.out; subst eo84) | ((with_reducible refine gate_callee (f := 8) rfl ?_); refine goesL_ (some 27) rfl rfl Tryd.func8 (by kernel_rfl) rfl #[.int .i64 3, .slice Ao84 y230.length co84] rfl (as_) ?_; (with_reducible refine (fetch_Mend.calls k 3 (fun k_ => some k_ = (.slice Ao84 y230.length co84 : Value).ownBlock) _ _ y230 t233 t236 _ ?side1 A3.out).mono ?_); (case side1 => exact Kd.R_V (Kd.R_tight rfl (Kd.R_apart' (Kd.R_apart' (HO232.out) (Kd.R_typed HO219.out) (by decide)) (Kd.R_typed HO229.out) (by decide)))); rintro e w85 ⟨v234, rfl, ho0, hb⟩; refine ⟨_, rfl, ?_⟩; have HO235 := Aside0.mk (Kd.V_lower (Kd.V_mono (ok' := fun k_ => some k_ ≠ (.slice Ao76 y217.length co76 : Value).ownBlock ∧ some k_ ≠ (.slice Ao80 y223.length co80 : Value).ownBlock ∧ some k_ ≠ (v228 : Value).ownBlock) ho0 (fun k_ hk_ => ⟨Or.elim hk_ (fun hs_ => ((Kd.R_apart' (Kd.R_apart' (HO232.out) (Kd.R_typed HO219.out) (by decide)) (Kd.R_typed HO229.out) (by decide)).1 k_ hs_.symm).1.2) (fun hn_ => (Kd.fresh' (Kd.R_lt (kr_ HO219.out)) k_ hn_)), Or.elim hk_ (fun hs_ => ((Kd.R_apart' (Kd.R_apart' (HO232.out) (Kd.R_typed HO219.out) (by decide)) (Kd.R_typed HO229.out) (by decide)).1 k_ hs_.symm).1.1.2) (fun hn_ => (Kd.fresh' (Kd.R_lt (kr_ HO225.out)) k_ hn_)), Or.elim hk_ (fun hs_ => ((Kd.R_apart' (Kd.R_apart' (HO232.out) (Kd.R_typed HO219.out) (by decide)) (Kd.R_typed HO229.out) (by decide)).1 k_ hs_.symm).2) (fun hn_ => (Kd.fresh' (Kd.R_lt (kr_ HO229.out)) k_ hn_))⟩)) (below_size (bl_))); replace HO219 := rb_ HO219 hb; replace HO225 := rb_ HO225 hb; replace HO229 := rb_ HO229 hb; replace HO232 := rb_ HO232 hb; replace HB := hb_ hb; clear hb ho0))
   go_ret
   exact ⟨er_, bl_⟩
 ·rw [if_neg c4] at H
  have c4b0 : (t222 == 0) = false := beq_eq_false_iff_ne.mpr c4
  have c4b1 : (t222 != 0) = true := bne_iff_ne.mpr c4
  obtain rfl := Option.some.inj H
  go_enter Tryd.func4, Tryd.ntmps4
  go_wp2_with (first | ((with_reducible refine gate_dst (N := 11) rfl ?_); (try (refine gate_guard (by rfl) ?_; dsimp only)); refine Kd.R_lit k36 _ 36 ?hg (N := 11) ?hd (xs := ([(⟨0, 1, 0⟩ : S36), (⟨1, 2, 0⟩ : S36)] : List (S36))) (inner := [.int .i64 0, .int .i64 1, .int .i64 0, .int .i64 1, .int .i64 2, .int .i64 0]) (ok := fun _ => True) (okp := fun _ => True) ?hr ?hp (fun _ hk => hk) trivial (Below.refl _ _) (Nat.le_refl _) (by simp) ?_; (case hd => rfl); (case hg => rfl); (case hr => first | (go_simp; done) | (go_simp; rfl)); (case hp => exact (Reps.c3 (show Kd.M k36 _ _ _ (⟨0, 1, 0⟩ : S36) [.int .i64 0, .int .i64 1, .int .i64 0] from (k36_mkM _ _ _ (⟨0, 1, 0⟩ : S36) )) (Reps.c3 (show Kd.M k36 _ _ _ (⟨1, 2, 0⟩ : S36) [.int .i64 1, .int .i64 2, .int .i64 0] from (k36_mkM _ _ _ (⟨1, 2, 0⟩ : S36) )) (Reps.none _ _)))); intro v218 w86 ho87 hb hg_ hnew_; clear hg_ hnew_; (first | rw [← Ny217.out] at ho87 | (simp only [Int.reduceToNat] at ho87; rw [← Ny217.out] at ho87)); have HO219 := rl_ ho87; replace HB := hb_ hb; clear hb ho87; obtain ⟨Ao88, co88, eo88⟩ := Kd.R_slice HO219.out; subst eo88) | ((with_reducible refine gate_callee (f := 9) rfl ?_); refine goesL_ (some 12) rfl rfl Tryd.func9 (by kernel_rfl) rfl #[.int .i64 3, .slice Ao88 y217.length co88] rfl (as_) ?_; (with_reducible refine (branch_Narrow.calls k 3 _ _ y217 t220 t221 t222 _ ?side1 ?side2 A1.out).mono ?_); (case side1 => exact cr_ HO219.out); (case side2 => exact (Kd.R_reads' HO219.out).2.1); rintro e w89 ⟨rfl, hb⟩; refine ⟨_, rfl, ?_⟩; replace HO219 := rb_ HO219 hb; replace HB := hb_ hb; clear hb) | ((with_reducible refine gate_dst (N := 19) rfl ?_); (try (refine gate_guard (by rfl) ?_; dsimp only)); refine Kd.R_lit k39 _ 39 ?hg (N := 19) ?hd (xs := ([(⟨0, 1⟩ : S39), (⟨1, 2⟩ : S39)] : List (S39))) (inner := [.int .i64 0, .int .i64 1, .int .i64 1, .int .i64 2]) (ok := fun _ => True) (okp := fun _ => True) ?hr ?hp (fun _ hk => hk) trivial (Below.refl _ _) (Nat.le_refl _) (by simp) ?_; (case hd => rfl); (case hg => rfl); (case hr => first | (go_simp; done) | (go_simp; rfl)); (case hp => exact (Reps.c2 (show Kd.M k39 _ _ _ (⟨0, 1⟩ : S39) [.int .i64 0, .int .i64 1] from (k39_mkM _ _ _ (⟨0, 1⟩ : S39) )) (Reps.c2 (show Kd.M k39 _ _ _ (⟨1, 2⟩ : S39) [.int .i64 1, .int .i64 2] from (k39_mkM _ _ _ (⟨1, 2⟩ : S39) )) (Reps.none _ _)))); intro v224 w90 ho91 hb hg_ hnew_; clear hg_ hnew_; (first | rw [← Ny223.out] at ho91 | (simp only [Int.reduceToNat] at ho91; rw [← Ny223.out] at ho91)); replace HO219 := rb_ HO219 hb; have HO225 := rl_ ho91; replace HB := hb_ hb; clear hb ho91; obtain ⟨Ao92, co92, eo92⟩ := Kd.R_slice HO225.out; subst eo92) | ((with_reducible refine gate_callee (f := 10) rfl ?_); refine goesL_ (some 20) rfl rfl Tryd.func10 (by kernel_rfl) rfl #[.int .i64 3, .slice Ao92 y223.length co92] rfl (as_) ?_; (with_reducible refine (oneway_Bridges.calls k 3 _ _ y223 t226 t227 _ ?side1 ?side2 A2.out).mono ?_); (case side1 => exact cr_ HO225.out); (case side2 => exact (Kd.R_reads' HO225.out).2.1); rintro e w93 ⟨v228, rfl, ho0, hb⟩; refine ⟨_, rfl, ?_⟩; replace HO219 := rb_ HO219 hb; replace HO225 := rb_ HO225 hb; have HO229 := rl_ ho0; replace HB := hb_ hb; clear hb ho0) | ((with_reducible refine gate_dst (N := 26) rfl ?_); (try (refine gate_guard (by rfl) ?_; dsimp only)); refine Kd.R_lit k39 _ 39 ?hg (N := 26) ?hd (xs := ([(⟨0, 1⟩ : S39), (⟨1, 2⟩ : S39)] : List (S39))) (inner := [.int .i64 0, .int .i64 1, .int .i64 1, .int .i64 2]) (ok := fun _ => True) (okp := fun _ => True) ?hr ?hp (fun _ hk => hk) trivial (Below.refl _ _) (Nat.le_refl _) (by simp) ?_; (case hd => rfl); (case hg => rfl); (case hr => first | (go_simp; done) | (go_simp; rfl)); (case hp => exact (Reps.c2 (show Kd.M k39 _ _ _ (⟨0, 1⟩ : S39) [.int .i64 0, .int .i64 1] from (k39_mkM _ _ _ (⟨0, 1⟩ : S39) )) (Reps.c2 (show Kd.M k39 _ _ _ (⟨1, 2⟩ : S39) [.int .i64 1, .int .i64 2] from (k39_mkM _ _ _ (⟨1, 2⟩ : S39) )) (Reps.none _ _)))); intro v231 w94 ho95 hb hg_ hnew_; clear hg_ hnew_; (first | rw [← Ny230.out] at ho95 | (simp only [Int.reduceToNat] at ho95; rw [← Ny230.out] at ho95)); replace HO219 := rb_ HO219 hb; replace HO229 := rb_ HO229 hb; have HO232 := rl_ (rn_ ho95 HO225); replace HO225 := re_ HO225 ho95 hb; replace HB := hb_ hb; clear hb ho95; obtain ⟨Ao96, co96, eo96⟩ := Kd.R_slice HO232.out; subst eo96) | ((with_reducible refine gate_callee (f := 8) rfl ?_); refine goesL_ (some 27) rfl rfl Tryd.func8 (by kernel_rfl) rfl #[.int .i64 3, .slice Ao96 y230.length co96] rfl (as_) ?_; (with_reducible refine (fetch_Mend.calls k 3 (fun k_ => some k_ = (.slice Ao96 y230.length co96 : Value).ownBlock) _ _ y230 t233 t236 _ ?side1 A3.out).mono ?_); (case side1 => exact Kd.R_V (Kd.R_tight rfl (Kd.R_apart' (Kd.R_apart' (HO232.out) (Kd.R_typed HO219.out) (by decide)) (Kd.R_typed HO229.out) (by decide)))); rintro e w97 ⟨v234, rfl, ho0, hb⟩; refine ⟨_, rfl, ?_⟩; have HO235 := Aside0.mk (Kd.V_lower (Kd.V_mono (ok' := fun k_ => some k_ ≠ (.slice Ao88 y217.length co88 : Value).ownBlock ∧ some k_ ≠ (.slice Ao92 y223.length co92 : Value).ownBlock ∧ some k_ ≠ (v228 : Value).ownBlock) ho0 (fun k_ hk_ => ⟨Or.elim hk_ (fun hs_ => ((Kd.R_apart' (Kd.R_apart' (HO232.out) (Kd.R_typed HO219.out) (by decide)) (Kd.R_typed HO229.out) (by decide)).1 k_ hs_.symm).1.2) (fun hn_ => (Kd.fresh' (Kd.R_lt (kr_ HO219.out)) k_ hn_)), Or.elim hk_ (fun hs_ => ((Kd.R_apart' (Kd.R_apart' (HO232.out) (Kd.R_typed HO219.out) (by decide)) (Kd.R_typed HO229.out) (by decide)).1 k_ hs_.symm).1.1.2) (fun hn_ => (Kd.fresh' (Kd.R_lt (kr_ HO225.out)) k_ hn_)), Or.elim hk_ (fun hs_ => ((Kd.R_apart' (Kd.R_apart' (HO232.out) (Kd.R_typed HO219.out) (by decide)) (Kd.R_typed HO229.out) (by decide)).1 k_ hs_.symm).2) (fun hn_ => (Kd.fresh' (Kd.R_lt (kr_ HO229.out)) k_ hn_))⟩)) (below_size (bl_))); replace HO219 := rb_ HO219 hb; replace HO225 := rb_ HO225 hb; replace HO229 := rb_ HO229 hb; replace HO232 := rb_ HO232 hb; replace HB := hb_ hb; clear hb ho0))
  go_ret
  exact ⟨er_, bl_⟩

/-! ### strings_trimLeftByte: function 41 -/
def strings_trimLeftByte.l0 : Nat → ByteArray → Int → Option (ByteArray)
  | 0, _, _ => none
  | k + 1, x0, x1 => if (x0.size : Int) > 0 then (if 0 < (x0.size : Int) then (if (bt x0 0) = x1 then (if 1 ≤ (x0.size : Int) then (strings_trimLeftByte.l0 k (x0.extract 1 x0.size) x1) else (none)) else (some x0)) else (none)) else (some x0)
def strings_trimLeftByte.f (k : Nat) (a0 : ByteArray) (a1 : Int) : Option (ByteArray) := strings_trimLeftByte.l0 k a0 a1
theorem strings_trimLeftByte.mono_l : ∀ k, (∀ y0 y1, LeO (strings_trimLeftByte.l0 k y0 y1) (strings_trimLeftByte.l0 (k + 1) y0 y1))
  | 0 => fun _ _ r h => by simp [strings_trimLeftByte.l0] at h
  | k + 1 => by
    have ih0 := strings_trimLeftByte.mono_l k
    · intro y0 y1
      unfold strings_trimLeftByte.l0
      with_reducible repeat' first | exact ih0 _ _ | exact LeO.refl _ | exact LeO.none _ | refine LeO.ite ?_ ?_ | refine LeO.bind ?_ (fun _ => ?_)
theorem strings_trimLeftByte.mono : ∀ a0 a1 k, LeO (strings_trimLeftByte.f k a0 a1) (strings_trimLeftByte.f (k + 1) a0 a1) := by
  intro a0 a1 k
  have ih0 := strings_trimLeftByte.mono_l k
  unfold strings_trimLeftByte.f
  with_reducible repeat' first | exact ih0 _ _ | exact LeO.refl _ | exact LeO.none _ | refine LeO.ite ?_ ?_ | refine LeO.bind ?_ (fun _ => ?_)
set_option maxHeartbeats 8000000 in
set_option maxRecDepth 100000 in
theorem strings_trimLeftByte.calls (k : Nat) (a0 : ByteArray) (a1 : Int) (r : ByteArray) (w : World) (h : strings_trimLeftByte.f k a0 a1 = some r) :
    Calls Tryd.prog 41 #[.string a0, .int .u8 a1] w fun e w' => e = .returned (.string r) ∧ Drawn0 w w' := by
 have H : (strings_trimLeftByte.l0 k a0 a1) = some r := h
 clear h
 have H' := Aside0.mk H
 clear H
 go_enter Tryd.func41, Tryd.ntmps41
 go_wp2
 go_loopg [0] k (fun kq v0 w' => ∃ (x0_1 : ByteArray), v0 = .string x0_1 ∧ Aside0 (strings_trimLeftByte.l0 kq x0_1 a1 = some r) ∧ Aside0 (kq ≤ k) ∧ Drawn0 w w')
 case atStart => exact ⟨(a0), rs_, H', ⟨Nat.le_refl _⟩, by repeat (first | exact Drawn0.refl _ | apply Drawn0.step)⟩
 case round =>
  clear H'
  try clear p2
  obtain ⟨x0_1, rfl, HA, HK1, ⟨m1, rfl⟩⟩ := hrel
  cases gk with
  | zero => exact absurd HA.out (by simp [strings_trimLeftByte.l0])
  | succ k1 =>
   have H := HA.out
   clear HA
   simp only [strings_trimLeftByte.l0] at H
   by_cases c3 : (x0_1.size : Int) > 0
   ·rw [if_pos c3] at H
    have c3b0 : decide (0 < (x0_1.size : Int)) = true := decide_eq_true c3
    have c3b1 : decide (0 < x0_1.size) = true := decide_eq_true (by omega)
    clear c3
    have c4 : 0 < (x0_1.size : Int) := fl_ fun c4 => by rw [if_neg c4] at H; exact absurd H (by simp)
    rw [if_pos c4] at H
    have c4b0 : decide (0 < (x0_1.size : Int)) = true := decide_eq_true c4
    have c4b1 : decide (0 < x0_1.size) = true := decide_eq_true (by omega)
    clear c4
    by_cases c6 : (bt x0_1 0) = a1
    ·rw [if_pos c6] at H
     have c6b0 : ((bt x0_1 0) == a1) = true := beq_iff_eq.mpr c6
     have c6b1 : ((bt x0_1 0) != a1) = false := bne_eq_false_iff_eq.mpr c6
     clear c6
     have c7 : 1 ≤ (x0_1.size : Int) := fl_ fun c7 => by rw [if_neg c7] at H; exact absurd H (by simp)
     rw [if_pos c7] at H
     have c7b0 := eq_true c7
     have c7b1 : decide (1 ≤ (x0_1.size : Int)) = true := decide_eq_true c7
     clear c7
     have H' := Aside0.mk H
     clear H
     have p5 : 0 ≤ (0 : Int) := (by omega)
     have q5 : 0 < x0_1.size := (by have : (0 : Int) < (x0_1.size : Int) := od_; omega)
     have hx5 : ∀ h : 0 < x0_1.size, ((x0_1[0]'h).toNat : Int) = bt x0_1 0 := bt_at x0_1 0
     clear p5
     have qi5 : (0 < (x0_1.size : Int)) = True := eq_true (od_)
     replace q5 := eq_true q5
     go_wp2
     go_roundg k1
     case measure => have := HK1.out; omega
     case rel => exact ⟨(x0_1.extract 1 x0_1.size), rs_, H', ⟨by have := HK1.out; omega⟩, by repeat (first | exact Drawn0.refl _ | apply Drawn0.step)⟩
    ·rw [if_neg c6] at H
     have c6b0 : ((bt x0_1 0) == a1) = false := beq_eq_false_iff_ne.mpr c6
     have c6b1 : ((bt x0_1 0) != a1) = true := bne_iff_ne.mpr c6
     obtain rfl := Option.some.inj H
     have p5 : 0 ≤ (0 : Int) := (by omega)
     have q5 : 0 < x0_1.size := (by have : (0 : Int) < (x0_1.size : Int) := od_; omega)
     have hx5 : ∀ h : 0 < x0_1.size, ((x0_1[0]'h).toNat : Int) = bt x0_1 0 := bt_at x0_1 0
     clear p5
     have qi5 : (0 < (x0_1.size : Int)) = True := eq_true (od_)
     replace q5 := eq_true q5
     go_wp2
     go_ret
     exact ⟨by first | rfl | (simp; done) | (simp [*]; done), by repeat (first | exact Drawn0.refl _ | apply Drawn0.step)⟩
   ·rw [if_neg c3] at H
    have c3b0 : decide (0 < (x0_1.size : Int)) = false := decide_eq_false c3
    have c3b1 : decide (0 < x0_1.size) = false := decide_eq_false (by omega)
    clear c3
    obtain rfl := Option.some.inj H
    go_wp2
    go_ret
    exact ⟨by first | rfl | (simp; done) | (simp [*]; done), by repeat (first | exact Drawn0.refl _ | apply Drawn0.step)⟩

end Go.Proofs.YtlcgoacmlbeliaaDoor.P
