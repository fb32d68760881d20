-- Written by wip/tools/myprint.py of this session's repo, over the kit's printer and hand texts.
import Derived.Test.YtlcgoacmlbeliaaPx0
import Derived.Test.YtlcgoacmlbeliaaPre
import Derived.Test.YtlcgoacmlbeliaaPx1
namespace Go.Proofs.Ytlcgoacmlbeliaa.P
open Go.RowKit Go.Proofs.YtlcgoacmlbeliaaW.PrintWords Go.Proofs.YtlcgoacmlbeliaaW.PrintLast Go.Proofs.YtlcgoacmlbeliaaW.PrintMore
attribute [local go_sem] max2_int min2_int max_two min_two max_three min_three max_four min_four   -- for this text's walks alone
set_option linter.unusedVariables false
set_option linter.unusedSimpArgs false

/-! ### oneway_Bridges: function 5 -/
def oneway_Bridges.l0 : Nat → Int → List Int → List (S37) → Int → Int → Int → List (S37) → Option (List Int × Int)
  | 0, _, _, _, _, _, _, _ => none
  | k + 1, x0, x8, x20, x21, x22, x129000, x129001 => if x22 < x21 then (if 0 ≤ x22 then (if x22 < (x20.length : Int) then ((oneway_quarter_both.f k x129000 x129001 x22).bind fun t131 => ((oneway_arcs_far.f k t131 x0 ((rd_T37 x20 x22).f0)).bind fun t134 => (if 0 ≤ ((rd_T37 x20 x22).f1) then (if ((rd_T37 x20 x22).f1) < (t134.length : Int) then (if (rd t134 ((rd_T37 x20 x22).f1)) < 0 then (if x8.length < 17592186044416 then (oneway_Bridges.l0 k x0 (x8 ++ [x22]) x20 x21 (wrap64 (x22 + 1)) x129000 x129001) else (none)) else (oneway_Bridges.l0 k x0 x8 x20 x21 (wrap64 (x22 + 1)) x129000 x129001)) else (none)) else (none)))) else (none)) else (none)) else (some (x8, 0))
def oneway_Bridges.f (k : Nat) (a0 : Int) (l1 : List (S37)) : Option (List Int × Int) := (oneway_read.f k a0 l1).bind fun bt123 => (if bt123.2.2 = 0 then (oneway_Bridges.l0 k a0 ([] : List Int) l1 (l1.length : Int) 0 bt123.1 bt123.2.1) else (some (([] : List Int), bt123.2.2)))
theorem oneway_Bridges.mono_l : ∀ k, (∀ y0 y1 y2 y3 y4 y5 y6, LeO (oneway_Bridges.l0 k y0 y1 y2 y3 y4 y5 y6) (oneway_Bridges.l0 (k + 1) y0 y1 y2 y3 y4 y5 y6))
  | 0 => fun _ _ _ _ _ _ _ r h => by simp [oneway_Bridges.l0] at h
  | k + 1 => by
    have ih0 := oneway_Bridges.mono_l k
    · intro y0 y1 y2 y3 y4 y5 y6
      unfold oneway_Bridges.l0
      with_reducible repeat' first | exact ih0 _ _ _ _ _ _ _ | exact oneway_arcs_far.mono _ _ _ _ | exact oneway_quarter_both.mono _ _ _ _ | exact oneway_read.mono _ _ _ | exact LeO.refl _ | exact LeO.none _ | refine LeO.ite ?_ ?_ | refine LeO.bind ?_ (fun _ => ?_)
theorem oneway_Bridges.mono : ∀ a0 a1 k, LeO (oneway_Bridges.f k a0 a1) (oneway_Bridges.f (k + 1) a0 a1) := by
  intro a0 a1 k
  have ih0 := oneway_Bridges.mono_l k
  unfold oneway_Bridges.f
  with_reducible repeat' first | exact ih0 _ _ _ _ _ _ _ | exact oneway_arcs_far.mono _ _ _ _ | exact oneway_quarter_both.mono _ _ _ _ | exact oneway_read.mono _ _ _ | exact LeO.refl _ | exact LeO.none _ | refine LeO.ite ?_ ?_ | refine LeO.bind ?_ (fun _ => ?_)
def oneway_Bridges.T8 : Bool × List (List Nat × List Nat) := (true, [([], []), ([], []), ([0, 1], [0, 1]), ([], []), ([], []), ([4], [4]), ([2, 3, 5, 2], [2, 3, 5]), ([], []), ([7], [7]), ([6, 8], [6, 8]), ([9], [9]), ([10], [10])])
def oneway_Bridges.B8 : List Nat := [0, 0, 3, 0, 0, 16, 63, 0, 128, 511, 1023, 2047]
theorem oneway_Bridges.tab8 : rtab .any (opsOf Try.f5 8) = oneway_Bridges.T8 := by kernel_rfl
theorem oneway_Bridges.bits8 : waitsOk oneway_Bridges.T8.2 oneway_Bridges.B8 = true := by kernel_rfl
set_option maxHeartbeats 8000000 in
set_option maxRecDepth 100000 in
theorem oneway_Bridges.calls (k : Nat) (a0 : Int) (A1 : Option Addr) (c1 : Nat) (l1 : List (S37)) (r1 : List Int) (r2 : Int) (w : World) (hr1 : Kd.C k37 w A1 l1.length l1) (hc1 : l1.length ≤ c1) (h : oneway_Bridges.f k a0 l1 = some (r1, r2)) :
    Calls Try.prog 5 #[.int .i64 a0, .slice A1 l1.length c1] w fun e w' => ∃ v0_ : Value, e = .returned (.tuple #[v0_, .int .i64 r2]) ∧ Kd.R (Kd.int .i64) 3 w' w.heap.size (fun _ => True) v0_ r1 ∧ Below w.heap.size w w' := by
 have hu39 := Try.underlying39
 have hu37 := Try.underlying37
 have HR1 := Aside0.mk hr1
 have HC1 := Aside0.mk hc1
 clear hr1 hc1
 have HB := Aside0.mk (Below.refl w.heap.size w)
 have H : ((oneway_read.f k a0 l1).bind fun bt123 => (if bt123.2.2 = 0 then (oneway_Bridges.l0 k a0 ([] : List Int) l1 (l1.length : Int) 0 bt123.1 bt123.2.1) else (some (([] : List Int), bt123.2.2)))) = some (r1, r2) := h
 clear h
 obtain ⟨⟨t123, t124, t127⟩, A3, H⟩ := bi_ H
 replace H : (if t127 = 0 then (oneway_Bridges.l0 k a0 ([] : List Int) l1 (l1.length : Int) 0 t123 t124) else (some (([] : List Int), t127))) = some (r1, r2) := H
 by_cases c4 : t127 = 0
 ·rw [if_pos c4] at H
  have c4b0 : (t127 == 0) = true := beq_iff_eq.mpr c4
  have c4b1 : (t127 != 0) = false := bne_eq_false_iff_eq.mpr c4
  clear c4
  have H' := Aside0.mk H
  clear H
  go_enter Try.func5, Try.ntmps5
  go_wp2_with (first | ((with_reducible refine gate_callee (f := 9) rfl ?_); refine goesL_ (some 14) rfl rfl Try.func9 (by kernel_rfl) rfl #[.int .i64 a0, .slice A1 l1.length c1] rfl (as_) ?_; (with_reducible refine (oneway_read.calls k a0 (fun k_ => k_ < w.heap.size) _ _ l1 t123 t124 t127 _ ?side1 A3.out).mono ?_); (case side1 => exact Kd.V_mk HC1.out (Kd.F_below (Kd.C_F k37_heap HR1.out) (bl_))); rintro e w5 ⟨v125, rfl, ho0, hb⟩; refine ⟨_, rfl, ?_⟩; have HO126 := Aside0.mk (Kd.V_lower (Kd.V_mono (ok' := fun k_ => True) ho0 (fun k_ hk_ => trivial)) (below_size (bl_))); replace HB := hb_ hb; clear hb ho0) | ((with_reducible refine gate_dst (N := 6) rfl ?_); refine be_ #[.int .i64 0, .slice none 0 0] 39 ?_; intro gb128 hg w6 hbox hb; replace HO126 := ve_ HO126 hg hb; have BK128 := Aside0.mk (hbox); have GW128 := gw_ hg; have GE128 := gw_ hg; replace HB := hb_ hb; clear hb hbox hg; have hcz7_0 := bc_ BK128 0 (.int .i64 0); have hcz7_1 := bc_ BK128 1 (.slice none 0 0); have hfz7_0 := bz_ BK128 0; have hfz7_1 := bz_ BK128 1; obtain ⟨Ao8, co8, eo8⟩ := Kd.V_slice HO126.out; subst eo8))
  go_loopg [8, 22] k (fun kq v8 v22 w' => ∃ (x8_1 : List Int) (x22_1 : Int), v22 = .int .i64 x22_1 ∧ Aside0 (oneway_Bridges.l0 kq a0 x8_1 l1 (l1.length : Int) x22_1 t123 t124 = some (r1, r2)) ∧ Aside0 (kq ≤ k) ∧ Aside0 (Kd.R (Kd.int .i64) 3 w' w.heap.size (fun _ => True) v8 x8_1) ∧ Aside0 (Kd.V k37 37 w' w.heap.size (fun k_ => some k_ ≠ (v8 : Value).ownBlock ∧ k_ ≠ gb128) (.slice Ao8 t124.length co8) t124) ∧ Aside0 (w'.heap[gb128]? = some (.cells #[.int .i64 t123, (.slice Ao8 t124.length co8)] 39 (0, 0))) ∧ Aside0 (Below w.heap.size w w'))
  case atStart => exact ⟨(([] : List Int)), (0), rs_, H', ⟨Nat.le_refl _⟩, ⟨by first | exact Kd.R_nil _ _ _ _ _ | exact Kd.N_nil _ _ _ _ _ | exact Kd.V_nil _ _ _ _ _ | exact Kd.Q_nil _ _ _ _ _ | exact Kd.S_nil _ _ _ _ _⟩, ⟨by refine kv_ ?_; exact Kd.V_mono (Kd.V_far (p := ⟨gb128, 1, none⟩) (Kd.V_far (p := ⟨gb128, 0, none⟩) (Kd.V_mono HO126.out (fun k_ hk => (⟨hk, hk.2⟩ : _ ∧ k_ ≠ gb128))) (fun _ hk => hk.2) (.int .i64 t123)) (fun _ hk => hk.2) (.slice Ao8 t124.length co8)) (fun _ hk => ⟨(by simp [Value.ownBlock]), hk.1.2⟩)⟩, ⟨by refine bk_ ?_; refine blk_put (cs := #[.int .i64 t123, .slice none 0 0]) ?_ 1 _ rfl; refine bk_ ?_; refine blk_put (cs := #[.int .i64 0, .slice none 0 0]) ?_ 0 _ rfl; refine bk_ ?_; exact BK128.out⟩, ⟨bl_⟩⟩
  case round =>
   clear H'
   try clear c1
   try clear p2
   try clear c4
   try clear c4b0
   try clear c4b1
   try clear c5
   try clear hcz7_0
   try clear hcz7_1
   try clear hfz7_0
   try clear hfz7_1
   obtain ⟨x8_1, x22_1, rfl, HA, HK1, HO_8, HO_129001, BK128, HB⟩ := hrel
   cases gk with
   | zero => exact absurd HA.out (by simp [oneway_Bridges.l0])
   | succ k1 =>
    have H := HA.out
    clear HA
    simp only [oneway_Bridges.l0] at H
    by_cases c9 : x22_1 < (l1.length : Int)
    ·rw [if_pos c9] at H
     have c9b0 : decide (x22_1 < (l1.length : Int)) = true := decide_eq_true c9
     clear c9
     obtain ⟨c10b0, H⟩ := fp_ H
     obtain ⟨c11b0, H⟩ := fp_ H
     obtain ⟨t131, A12, H⟩ := bi_ H
     replace H : ((oneway_arcs_far.f k1 t131 a0 ((rd_T37 l1 x22_1).f0)).bind fun t134 => (if 0 ≤ ((rd_T37 l1 x22_1).f1) then (if ((rd_T37 l1 x22_1).f1) < (t134.length : Int) then (if (rd t134 ((rd_T37 l1 x22_1).f1)) < 0 then (if x8_1.length < 17592186044416 then (oneway_Bridges.l0 k1 a0 (x8_1 ++ [x22_1]) l1 (l1.length : Int) (wrap64 (x22_1 + 1)) t123 t124) else (none)) else (oneway_Bridges.l0 k1 a0 x8_1 l1 (l1.length : Int) (wrap64 (x22_1 + 1)) t123 t124)) else (none)) else (none))) = some (r1, r2) := H
     obtain ⟨t134, A13, H⟩ := bi_ H
     replace H : (if 0 ≤ ((rd_T37 l1 x22_1).f1) then (if ((rd_T37 l1 x22_1).f1) < (t134.length : Int) then (if (rd t134 ((rd_T37 l1 x22_1).f1)) < 0 then (if x8_1.length < 17592186044416 then (oneway_Bridges.l0 k1 a0 (x8_1 ++ [x22_1]) l1 (l1.length : Int) (wrap64 (x22_1 + 1)) t123 t124) else (none)) else (oneway_Bridges.l0 k1 a0 x8_1 l1 (l1.length : Int) (wrap64 (x22_1 + 1)) t123 t124)) else (none)) else (none)) = some (r1, r2) := H
     obtain ⟨c14b0, H⟩ := fp_ H
     obtain ⟨c15b0, H⟩ := fp_ H
     by_cases c16 : (rd t134 ((rd_T37 l1 x22_1).f1)) < 0
     ·rw [if_pos c16] at H
      have c16b0 : decide ((rd t134 ((rd_T37 l1 x22_1).f1)) < 0) = true := decide_eq_true c16
      clear c16
      have c17 : x8_1.length < 17592186044416 := fl_ fun c17 => by rw [if_neg c17] at H; exact absurd H (by simp)
      rw [if_pos c17] at H
      have LMc17 := Aside0.mk c17
      clear c17
      obtain ⟨y138, hy138⟩ : ∃ y_ : List Int, y_ = (x8_1 ++ [x22_1]) := ⟨_, rfl⟩
      replace H : (oneway_Bridges.l0 k1 a0 y138 l1 (l1.length : Int) (wrap64 (x22_1 + 1)) t123 t124) = some (r1, r2) := by first | (rw [hy138]; with_reducible exact H) | (have H2_ := (Option.bind_some _ _).symm.trans H; rw [hy138]; with_reducible exact H2_) | (have H2_ := (Option.bind_some _ _).symm.trans H; with_reducible exact H2_) | with_reducible exact H | (rw [hy138]; exact H) | exact H
      have Ny138 := Aside0.mk hy138
      clear hy138
      have H' := Aside0.mk H
      clear H
      have p129 : 0 ≤ (x22_1 : Int) := od_
      have q129 : x22_1 < (l1.length : Int) := od_
      obtain ⟨ad129, e129, hx129_0, hx129_1⟩ := at_T37 HR1.out x22_1 p129 q129
      cases e129
      replace hx129_0 := hc_ HB hx129_0
      replace hx129_1 := hc_ HB hx129_1
      replace p129 := eq_true p129
      replace q129 := eq_true q129
      try go_wp2_with (first | ((with_reducible refine gate_dst (N := 10) rfl ?_); refine be_ #[.int .i64 0, .int .i64 0] 37 ?_; intro gb130 hg w18 hbox hb; replace HO_8 := rb_ HO_8 hb; replace HO_129001 := ve_ HO_129001 hg hb; have BK130 := Aside0.mk (hbox); have GW130 := gw_ hg; have GE130 := gw_ hg; replace HB := hb_ hb; have NB128_130 := nl_ hg BK128; have NB130_128 := sy_ NB128_130; replace BK128 := bb_ BK128 hb; clear hb hbox hg; have hnb19 := NB130_128.out; have hnc19 := NB128_130.out; have hcz20_0 := bc_ BK130 0 (.int .i64 0); have hcz20_1 := bc_ BK130 1 (.int .i64 0); have hfz20_0 := bz_ BK130 0; have hfz20_1 := bz_ BK130 1))
      have n0_ : Aside0 (Kd.R (Kd.int .i64) 3 ((w18.setCell ⟨gb130, 0, none⟩ (.int .i64 ((rd_T37 l1 x22_1).f0))).setCell ⟨gb130, 1, none⟩ (.int .i64 ((rd_T37 l1 x22_1).f1))) w.heap.size (fun _ => True) u8 x8_1) := ⟨by refine kr_ ?_; exact Kd.R_mono (Kd.R_far (p := ⟨gb130, 1, none⟩) (Kd.R_far (p := ⟨gb130, 0, none⟩) (Kd.R_types HO_8.out BK130.out (by decide)) (fun _ hk => hk.2) (.int .i64 ((rd_T37 l1 x22_1).f0))) (fun _ hk => hk.2) (.int .i64 ((rd_T37 l1 x22_1).f1))) (fun _ hk => trivial)⟩
      have n1_ : Aside0 (Kd.V k37 37 ((w18.setCell ⟨gb130, 0, none⟩ (.int .i64 ((rd_T37 l1 x22_1).f0))).setCell ⟨gb130, 1, none⟩ (.int .i64 ((rd_T37 l1 x22_1).f1))) w.heap.size (fun k_ => some k_ ≠ (u8 : Value).ownBlock ∧ k_ ≠ gb128 ∧ k_ ≠ gb130) (.slice Ao8 t124.length co8) t124) := ⟨by refine kv_ ?_; exact Kd.V_mono (Kd.V_far (p := ⟨gb130, 1, none⟩) (Kd.V_far (p := ⟨gb130, 0, none⟩) (Kd.V_mono HO_129001.out (fun k_ hk => (⟨hk, hk.2⟩ : _ ∧ k_ ≠ gb130))) (fun _ hk => hk.2) (.int .i64 ((rd_T37 l1 x22_1).f0))) (fun _ hk => hk.2) (.int .i64 ((rd_T37 l1 x22_1).f1))) (fun _ hk => ⟨hk.1.1.1, ⟨hk.1.1.2, hk.1.2⟩⟩)⟩
      have n2_ : Aside0 (((w18.setCell ⟨gb130, 0, none⟩ (.int .i64 ((rd_T37 l1 x22_1).f0))).setCell ⟨gb130, 1, none⟩ (.int .i64 ((rd_T37 l1 x22_1).f1))).heap[gb128]? = some (.cells #[.int .i64 t123, .slice Ao8 t124.length co8] 39 (0, 0))) := ⟨by refine bk_ ?_; refine blk_far ?_ NB128_130.out _; refine bk_ ?_; refine blk_far ?_ NB128_130.out _; refine bk_ ?_; exact BK128.out⟩
      have n3_ : Aside0 (((w18.setCell ⟨gb130, 0, none⟩ (.int .i64 ((rd_T37 l1 x22_1).f0))).setCell ⟨gb130, 1, none⟩ (.int .i64 ((rd_T37 l1 x22_1).f1))).heap[gb130]? = some (.cells #[.int .i64 ((rd_T37 l1 x22_1).f0), .int .i64 ((rd_T37 l1 x22_1).f1)] 37 (0, 0))) := ⟨by refine bk_ ?_; refine blk_put (cs := #[.int .i64 ((rd_T37 l1 x22_1).f0), .int .i64 0]) ?_ 1 _ rfl; refine bk_ ?_; refine blk_put (cs := #[.int .i64 0, .int .i64 0]) ?_ 0 _ rfl; refine bk_ ?_; exact BK130.out⟩
      have n4_ : Aside0 (Below w.heap.size w ((w18.setCell ⟨gb130, 0, none⟩ (.int .i64 ((rd_T37 l1 x22_1).f0))).setCell ⟨gb130, 1, none⟩ (.int .i64 ((rd_T37 l1 x22_1).f1)))) := ⟨bl_⟩
      (try clear HO_8)
      (try clear HO_129001)
      (try clear BK128)
      (try clear BK130)
      (try clear HB)
      generalize ((w18.setCell ⟨gb130, 0, none⟩ (.int .i64 ((rd_T37 l1 x22_1).f0))).setCell ⟨gb130, 1, none⟩ (.int .i64 ((rd_T37 l1 x22_1).f1))) = w21 at n0_ n1_ n2_ n3_ n4_ ⊢
      have HO_8 := n0_
      have HO_129001 := n1_
      have BK128 := n2_
      have BK130 := n3_
      have HB := n4_
      clear n0_ n1_ n2_ n3_ n4_
      replace HO_8 := Aside0.mk (Kd.R_drew HO_8.out)
      replace HO_129001 := Aside0.mk (Kd.V_drew HO_129001.out)
      replace BK128 := Aside0.mk (blk_drew BK128.out)
      replace BK130 := Aside0.mk (blk_drew BK130.out)
      replace HB := Aside0.mk (below_drew1 HB.out)
      refine start_ (n := 12) (S := fun w' => w'.cell? ⟨gb128, 0, none⟩ = some (.int .i64 t123) ∧ w'.cell? ⟨gb128, 1, none⟩ = some (.slice Ao8 t124.length co8) ∧ w'.cell? ⟨gb130, 0, none⟩ = some (.int .i64 ((rd_T37 l1 x22_1).f0)) ∧ w'.cell? ⟨gb130, 1, none⟩ = some (.int .i64 ((rd_T37 l1 x22_1).f1))) (ds := []) #[false, false, false, false, false, false, false, false, false, false, false, false] (by kernel_rfl) rfl rfl ⟨(blk_cell BK128.out 0).trans rfl, (blk_cell BK128.out 1).trans rfl, (blk_cell BK130.out 0).trans rfl, (blk_cell BK130.out 1).trans rfl⟩ (fun hHeld => ?_); refine with_tabW oneway_Bridges.tab8 oneway_Bridges.bits8 (fun HT_ HW_ => ?_)
      generalize w21.drew = w22 at HO_8 HO_129001 BK128 BK130 HB hHeld ⊢
      refine pu_ 1 28 HT_.out (h := ?_)
      refine pu_ 3 30 HT_.out (h := ?_)
      refine pu_ 4 31 HT_.out (h := ?_)
      refine pu_ 7 34 HT_.out (h := ?_)
      refine ta_ 0 27 HT_.out HW_.out hHeld (h := ?_)
      refine ta_ 5 32 HT_.out HW_.out hHeld (h := ?_)
      refine ta_ 8 35 HT_.out HW_.out hHeld (h := ?_)
      refine one_ (i := 2) (N := some 29) #[true, true, true, true, true, true, false, true, true, false, false, false] rfl rfl (one_of HT_.out (by kernel_rfl)) (by decide) (fun K hK => ?_)
      refine goes_ Try.func10 (by kernel_rfl) rfl #[.agg #[.int .i64 t123, .slice Ao8 t124.length co8], .int .i64 x22_1] (by rfl) rfl rfl (as_) ?_
      with_reducible refine (oneway_quarter_both.calls k1 t123 _ _ t124 x22_1 t131 _ ?side1 ?side2 A12.out).mono ?_
      (case side1 => repeat (first | exact (Kd.V_reads' HO_129001.out).2.2 | (with_reducible refine Kd.C_alloc ?_ _) | (with_reducible refine Kd.C_drewN ?_ _) | (with_reducible refine Kd.C_drew ?_)))
      (case side2 => exact (Kd.V_reads' HO_129001.out).2.1)
      rintro e w23 ⟨v132, rfl, ho0, hb⟩
      refine ⟨_, rfl, ?_⟩
      replace HO_8 := rb_ HO_8 hb
      replace HO_129001 := Aside0.mk (Kd.V_elder' (kv_ HO_129001.out) (Kd.R_base ho0) hb)
      have HO133 := Aside0.mk (Kd.R_lower (Kd.R_newB ho0 (g := gb130) (o := .cells #[.int .i64 ((rd_T37 l1 x22_1).f0), .int .i64 ((rd_T37 l1 x22_1).f1)] 37 (0, 0)) (bk_ BK130.out)) (below_size (bl_)))
      replace BK128 := bb_ BK128 hb
      replace BK130 := bb_ BK130 hb
      replace HB := hb_ hb
      clear hb ho0
      obtain ⟨Ao24, co24, eo24⟩ := Kd.R_slice HO133.out
      (first | subst eo24 | (injection eo24 with f1_ f2_ f3_; have f4_ := f1_.symm; have f5_ := f3_.symm; clear f1_ f2_ f3_; subst f4_; subst f5_))
      refine hK.out _ _ ⟨(blk_cell BK128.out 0).trans rfl, (blk_cell BK128.out 1).trans rfl, (blk_cell BK130.out 0).trans rfl, (blk_cell BK130.out 1).trans rfl⟩ (fun hHeld => ?_)
      clear hK K
      refine np_ 29 (h := ?_)
      refine one_ (i := 6) (N := some 33) #[true, true, true, true, true, true, true, true, true, false, false, false] rfl rfl (one_of HT_.out (by kernel_rfl)) (by decide) (fun K hK => ?_)
      refine goes_ Try.func11 (by kernel_rfl) rfl #[.slice Ao24 t131.length co24, .int .i64 a0, .int .i64 ((rd_T37 l1 x22_1).f0)] (by rfl) rfl rfl (as_) ?_
      with_reducible refine (oneway_arcs_far.calls k1 _ _ t131 a0 ((rd_T37 l1 x22_1).f0) t134 _ ?side1 ?side2 A13.out).mono ?_
      (case side1 => exact cr_ HO133.out)
      (case side2 => exact (Kd.R_reads' HO133.out).2.1)
      rintro e w25 ⟨v135, rfl, ho0, hb⟩
      refine ⟨_, rfl, ?_⟩
      replace HO_129001 := Aside0.mk (Kd.V_elder' (kv_ HO_129001.out) (Kd.R_base ho0) hb)
      replace HO133 := rb_ HO133 hb
      have HO136 := rl_ (rn_ ho0 HO_8)
      replace HO_8 := re_ HO_8 ho0 hb
      replace BK128 := bb_ BK128 hb
      replace BK130 := bb_ BK130 hb
      replace HB := hb_ hb
      clear hb ho0
      obtain ⟨Ao26, co26, eo26⟩ := Kd.R_slice HO136.out
      (first | subst eo26 | (injection eo26 with f1_ f2_ f3_; have f4_ := f1_.symm; have f5_ := f3_.symm; clear f1_ f2_ f3_; subst f4_; subst f5_))
      obtain ⟨ad137, e137, hx137_0, p137, q137⟩ := ai_ (Kd.R_reads' HO136.out).2.2 ((rd_T37 l1 x22_1).f1)
      cases e137
      refine hK.out _ _ ⟨(blk_cell BK128.out 0).trans rfl, (blk_cell BK128.out 1).trans rfl, (blk_cell BK130.out 0).trans rfl, (blk_cell BK130.out 1).trans rfl⟩ (fun hHeld => ?_)
      clear hK K
      refine np_ 33 (h := ?_)
      refine pu_ 9 36 HT_.out (h := ?_)
      refine one_ (i := 10) (N := some 37) #[true, true, true, true, true, true, true, true, true, true, true, false] rfl rfl (one_of HT_.out (by kernel_rfl)) (by decide) (fun K hK => ?_)
      refine event_step (by rfl) (w1 := _) (by go_simp; first | exact ⟨rfl, rfl⟩ | rfl) ?_
      refine hK.out _ _ hHeld (fun hHeld => ?_)
      clear hK K
      refine np_ 37 (h := ?_)
      refine pu_ 11 38 HT_.out (h := ?_)
      refine done_ (done_of HT_.out (by kernel_rfl)) ?_
      try go_wp2_with (first | ((with_reducible refine gate_builtin (b := .append) (xs := #[.tmp 39, .tmp 41]) rfl ?_); at_builtin; refine Kd.R_append (Kd.int .i64) (w0 := w) w.heap.size rfl (.tmp 39) (.tmp 41) 24 3 (.int .i64 0) 8 rfl Try.underlying24 info3 rfl (by decide) (by omega) u8 x8_1 x22_1 [.int .i64 x22_1] (fun k_ => some k_ ≠ (.slice (some ad137) t134.length co26 : Value).ownBlock) (fun _ => False) rfl rfl ?aP (fun _ hk => hk.elim) ?aF ?aO ?aB ?aS ?aL ?_; (case aP => exact rfl); (case aB => exact (bl_)); (case aF => exact (fun k_ hk => Kd.fresh' (Kd.R_lt (kr_ HO136.out)) k_ hk)); (case aO => exact (by refine kr_ ?_; exact Kd.R_mono HO_8.out (fun _ hk => hk.2))); (case aS => exact (below_size (bl_))); (case aL => have := LMc17.out; omega); intro v139 w27 ho hb hg hat; rw [← Ny138.out] at ho; replace HO_129001 := Aside0.mk (Kd.V_afterv (ok := (fun k_ => some k_ ≠ (.slice Ao24 t131.length co24 : Value).ownBlock ∧ some k_ ≠ (.slice (some ad137) t134.length co26 : Value).ownBlock ∧ k_ ≠ gb128 ∧ k_ ≠ gb130)) (by refine kv_ ?_; exact Kd.V_mono HO_129001.out (fun _ hk => ⟨⟨hk.1.2, ⟨hk.2, ⟨hk.1.1.2.1, hk.1.1.2.2⟩⟩⟩, hk.1.1.1⟩)) hg hat); replace BK128 := Aside0.mk (blk_grown (g := gb128) (o := .cells #[.int .i64 t123, .slice Ao8 t124.length co8] 39 (0, 0)) (bk_ BK128.out) hg (Kd.R_ne HO_8.out BK128.out (by decide))); replace BK130 := Aside0.mk (blk_grown (g := gb130) (o := .cells #[.int .i64 ((rd_T37 l1 x22_1).f0), .int .i64 ((rd_T37 l1 x22_1).f1)] 37 (0, 0)) (bk_ BK130.out) hg (Kd.R_ne HO_8.out BK130.out (by decide))); replace HO133 := Aside0.mk (Kd.R_over' (kr_ HO133.out) (Kd.R_typed (kr_ HO_8.out)) (by decide) hg); replace HO136 := Aside0.mk (Kd.R_after (ok := (fun _ => True)) (kr_ HO136.out) hg hat); replace HB := Aside0.mk (hb); have HO140 := Aside0.mk (ho); clear HO_8; clear ho hb hg hat))
      go_roundg k1
      case measure => have := HK1.out; omega
      case rel => exact ⟨(y138), (wrap64 (x22_1 + 1)), rs_, H', ⟨by have := HK1.out; omega⟩, ⟨by refine kr_ ?_; exact Kd.R_mono HO140.out (fun _ hk => trivial)⟩, ⟨by refine kv_ ?_; exact Kd.V_mono HO_129001.out (fun _ hk => ⟨hk.2, hk.1.2.2.1⟩)⟩, ⟨bk_ BK128.out⟩, ⟨bl_⟩⟩
     ·rw [if_neg c16] at H
      have c16b0 : decide ((rd t134 ((rd_T37 l1 x22_1).f1)) < 0) = false := decide_eq_false c16
      clear c16
      have H' := Aside0.mk H
      clear H
      have p129 : 0 ≤ (x22_1 : Int) := od_
      have q129 : x22_1 < (l1.length : Int) := od_
      obtain ⟨ad129, e129, hx129_0, hx129_1⟩ := at_T37 HR1.out x22_1 p129 q129
      cases e129
      replace hx129_0 := hc_ HB hx129_0
      replace hx129_1 := hc_ HB hx129_1
      replace p129 := eq_true p129
      replace q129 := eq_true q129
      try go_wp2_with (first | ((with_reducible refine gate_dst (N := 10) rfl ?_); refine be_ #[.int .i64 0, .int .i64 0] 37 ?_; intro gb130 hg w28 hbox hb; replace HO_8 := rb_ HO_8 hb; replace HO_129001 := ve_ HO_129001 hg hb; have BK130 := Aside0.mk (hbox); have GW130 := gw_ hg; have GE130 := gw_ hg; replace HB := hb_ hb; have NB128_130 := nl_ hg BK128; have NB130_128 := sy_ NB128_130; replace BK128 := bb_ BK128 hb; clear hb hbox hg; have hnb29 := NB130_128.out; have hnc29 := NB128_130.out; have hcz30_0 := bc_ BK130 0 (.int .i64 0); have hcz30_1 := bc_ BK130 1 (.int .i64 0); have hfz30_0 := bz_ BK130 0; have hfz30_1 := bz_ BK130 1))
      have n0_ : Aside0 (Kd.R (Kd.int .i64) 3 ((w28.setCell ⟨gb130, 0, none⟩ (.int .i64 ((rd_T37 l1 x22_1).f0))).setCell ⟨gb130, 1, none⟩ (.int .i64 ((rd_T37 l1 x22_1).f1))) w.heap.size (fun _ => True) u8 x8_1) := ⟨by refine kr_ ?_; exact Kd.R_mono (Kd.R_far (p := ⟨gb130, 1, none⟩) (Kd.R_far (p := ⟨gb130, 0, none⟩) (Kd.R_types HO_8.out BK130.out (by decide)) (fun _ hk => hk.2) (.int .i64 ((rd_T37 l1 x22_1).f0))) (fun _ hk => hk.2) (.int .i64 ((rd_T37 l1 x22_1).f1))) (fun _ hk => trivial)⟩
      have n1_ : Aside0 (Kd.V k37 37 ((w28.setCell ⟨gb130, 0, none⟩ (.int .i64 ((rd_T37 l1 x22_1).f0))).setCell ⟨gb130, 1, none⟩ (.int .i64 ((rd_T37 l1 x22_1).f1))) w.heap.size (fun k_ => some k_ ≠ (u8 : Value).ownBlock ∧ k_ ≠ gb128 ∧ k_ ≠ gb130) (.slice Ao8 t124.length co8) t124) := ⟨by refine kv_ ?_; exact Kd.V_mono (Kd.V_far (p := ⟨gb130, 1, none⟩) (Kd.V_far (p := ⟨gb130, 0, none⟩) (Kd.V_mono HO_129001.out (fun k_ hk => (⟨hk, hk.2⟩ : _ ∧ k_ ≠ gb130))) (fun _ hk => hk.2) (.int .i64 ((rd_T37 l1 x22_1).f0))) (fun _ hk => hk.2) (.int .i64 ((rd_T37 l1 x22_1).f1))) (fun _ hk => ⟨hk.1.1.1, ⟨hk.1.1.2, hk.1.2⟩⟩)⟩
      have n2_ : Aside0 (((w28.setCell ⟨gb130, 0, none⟩ (.int .i64 ((rd_T37 l1 x22_1).f0))).setCell ⟨gb130, 1, none⟩ (.int .i64 ((rd_T37 l1 x22_1).f1))).heap[gb128]? = some (.cells #[.int .i64 t123, .slice Ao8 t124.length co8] 39 (0, 0))) := ⟨by refine bk_ ?_; refine blk_far ?_ NB128_130.out _; refine bk_ ?_; refine blk_far ?_ NB128_130.out _; refine bk_ ?_; exact BK128.out⟩
      have n3_ : Aside0 (((w28.setCell ⟨gb130, 0, none⟩ (.int .i64 ((rd_T37 l1 x22_1).f0))).setCell ⟨gb130, 1, none⟩ (.int .i64 ((rd_T37 l1 x22_1).f1))).heap[gb130]? = some (.cells #[.int .i64 ((rd_T37 l1 x22_1).f0), .int .i64 ((rd_T37 l1 x22_1).f1)] 37 (0, 0))) := ⟨by refine bk_ ?_; refine blk_put (cs := #[.int .i64 ((rd_T37 l1 x22_1).f0), .int .i64 0]) ?_ 1 _ rfl; refine bk_ ?_; refine blk_put (cs := #[.int .i64 0, .int .i64 0]) ?_ 0 _ rfl; refine bk_ ?_; exact BK130.out⟩
      have n4_ : Aside0 (Below w.heap.size w ((w28.setCell ⟨gb130, 0, none⟩ (.int .i64 ((rd_T37 l1 x22_1).f0))).setCell ⟨gb130, 1, none⟩ (.int .i64 ((rd_T37 l1 x22_1).f1)))) := ⟨bl_⟩
      (try clear HO_8)
      (try clear HO_129001)
      (try clear BK128)
      (try clear BK130)
      (try clear HB)
      generalize ((w28.setCell ⟨gb130, 0, none⟩ (.int .i64 ((rd_T37 l1 x22_1).f0))).setCell ⟨gb130, 1, none⟩ (.int .i64 ((rd_T37 l1 x22_1).f1))) = w31 at n0_ n1_ n2_ n3_ n4_ ⊢
      have HO_8 := n0_
      have HO_129001 := n1_
      have BK128 := n2_
      have BK130 := n3_
      have HB := n4_
      clear n0_ n1_ n2_ n3_ n4_
      replace HO_8 := Aside0.mk (Kd.R_drew HO_8.out)
      replace HO_129001 := Aside0.mk (Kd.V_drew HO_129001.out)
      replace BK128 := Aside0.mk (blk_drew BK128.out)
      replace BK130 := Aside0.mk (blk_drew BK130.out)
      replace HB := Aside0.mk (below_drew1 HB.out)
      refine start_ (n := 12) (S := fun w' => w'.cell? ⟨gb128, 0, none⟩ = some (.int .i64 t123) ∧ w'.cell? ⟨gb128, 1, none⟩ = some (.slice Ao8 t124.length co8) ∧ w'.cell? ⟨gb130, 0, none⟩ = some (.int .i64 ((rd_T37 l1 x22_1).f0)) ∧ w'.cell? ⟨gb130, 1, none⟩ = some (.int .i64 ((rd_T37 l1 x22_1).f1))) (ds := []) #[false, false, false, false, false, false, false, false, false, false, false, false] (by kernel_rfl) rfl rfl ⟨(blk_cell BK128.out 0).trans rfl, (blk_cell BK128.out 1).trans rfl, (blk_cell BK130.out 0).trans rfl, (blk_cell BK130.out 1).trans rfl⟩ (fun hHeld => ?_); refine with_tabW oneway_Bridges.tab8 oneway_Bridges.bits8 (fun HT_ HW_ => ?_)
      generalize w31.drew = w32 at HO_8 HO_129001 BK128 BK130 HB hHeld ⊢
      refine pu_ 1 28 HT_.out (h := ?_)
      refine pu_ 3 30 HT_.out (h := ?_)
      refine pu_ 4 31 HT_.out (h := ?_)
      refine pu_ 7 34 HT_.out (h := ?_)
      refine ta_ 0 27 HT_.out HW_.out hHeld (h := ?_)
      refine ta_ 5 32 HT_.out HW_.out hHeld (h := ?_)
      refine ta_ 8 35 HT_.out HW_.out hHeld (h := ?_)
      refine one_ (i := 2) (N := some 29) #[true, true, true, true, true, true, false, true, true, false, false, false] rfl rfl (one_of HT_.out (by kernel_rfl)) (by decide) (fun K hK => ?_)
      refine goes_ Try.func10 (by kernel_rfl) rfl #[.agg #[.int .i64 t123, .slice Ao8 t124.length co8], .int .i64 x22_1] (by rfl) rfl rfl (as_) ?_
      with_reducible refine (oneway_quarter_both.calls k1 t123 _ _ t124 x22_1 t131 _ ?side1 ?side2 A12.out).mono ?_
      (case side1 => repeat (first | exact (Kd.V_reads' HO_129001.out).2.2 | (with_reducible refine Kd.C_alloc ?_ _) | (with_reducible refine Kd.C_drewN ?_ _) | (with_reducible refine Kd.C_drew ?_)))
      (case side2 => exact (Kd.V_reads' HO_129001.out).2.1)
      rintro e w33 ⟨v132, rfl, ho0, hb⟩
      refine ⟨_, rfl, ?_⟩
      replace HO_8 := rb_ HO_8 hb
      replace HO_129001 := Aside0.mk (Kd.V_elder' (kv_ HO_129001.out) (Kd.R_base ho0) hb)
      have HO133 := Aside0.mk (Kd.R_lower (Kd.R_newB ho0 (g := gb130) (o := .cells #[.int .i64 ((rd_T37 l1 x22_1).f0), .int .i64 ((rd_T37 l1 x22_1).f1)] 37 (0, 0)) (bk_ BK130.out)) (below_size (bl_)))
      replace BK128 := bb_ BK128 hb
      replace BK130 := bb_ BK130 hb
      replace HB := hb_ hb
      clear hb ho0
      obtain ⟨Ao34, co34, eo34⟩ := Kd.R_slice HO133.out
      (first | subst eo34 | (injection eo34 with f1_ f2_ f3_; have f4_ := f1_.symm; have f5_ := f3_.symm; clear f1_ f2_ f3_; subst f4_; subst f5_))
      refine hK.out _ _ ⟨(blk_cell BK128.out 0).trans rfl, (blk_cell BK128.out 1).trans rfl, (blk_cell BK130.out 0).trans rfl, (blk_cell BK130.out 1).trans rfl⟩ (fun hHeld => ?_)
      clear hK K
      refine np_ 29 (h := ?_)
      refine one_ (i := 6) (N := some 33) #[true, true, true, true, true, true, true, true, true, false, false, false] rfl rfl (one_of HT_.out (by kernel_rfl)) (by decide) (fun K hK => ?_)
      refine goes_ Try.func11 (by kernel_rfl) rfl #[.slice Ao34 t131.length co34, .int .i64 a0, .int .i64 ((rd_T37 l1 x22_1).f0)] (by rfl) rfl rfl (as_) ?_
      with_reducible refine (oneway_arcs_far.calls k1 _ _ t131 a0 ((rd_T37 l1 x22_1).f0) t134 _ ?side1 ?side2 A13.out).mono ?_
      (case side1 => exact cr_ HO133.out)
      (case side2 => exact (Kd.R_reads' HO133.out).2.1)
      rintro e w35 ⟨v135, rfl, ho0, hb⟩
      refine ⟨_, rfl, ?_⟩
      replace HO_129001 := Aside0.mk (Kd.V_elder' (kv_ HO_129001.out) (Kd.R_base ho0) hb)
      replace HO133 := rb_ HO133 hb
      have HO136 := rl_ (rn_ ho0 HO_8)
      replace HO_8 := re_ HO_8 ho0 hb
      replace BK128 := bb_ BK128 hb
      replace BK130 := bb_ BK130 hb
      replace HB := hb_ hb
      clear hb ho0
      obtain ⟨Ao36, co36, eo36⟩ := Kd.R_slice HO136.out
      (first | subst eo36 | (injection eo36 with f1_ f2_ f3_; have f4_ := f1_.symm; have f5_ := f3_.symm; clear f1_ f2_ f3_; subst f4_; subst f5_))
      obtain ⟨ad137, e137, hx137_0, p137, q137⟩ := ai_ (Kd.R_reads' HO136.out).2.2 ((rd_T37 l1 x22_1).f1)
      cases e137
      refine hK.out _ _ ⟨(blk_cell BK128.out 0).trans rfl, (blk_cell BK128.out 1).trans rfl, (blk_cell BK130.out 0).trans rfl, (blk_cell BK130.out 1).trans rfl⟩ (fun hHeld => ?_)
      clear hK K
      refine np_ 33 (h := ?_)
      refine pu_ 9 36 HT_.out (h := ?_)
      refine one_ (i := 10) (N := some 37) #[true, true, true, true, true, true, true, true, true, true, true, false] rfl rfl (one_of HT_.out (by kernel_rfl)) (by decide) (fun K hK => ?_)
      refine event_step (by rfl) (w1 := _) (by go_simp; first | exact ⟨rfl, rfl⟩ | rfl) ?_
      refine hK.out _ _ hHeld (fun hHeld => ?_)
      clear hK K
      refine np_ 37 (h := ?_)
      refine pu_ 11 38 HT_.out (h := ?_)
      refine done_ (done_of HT_.out (by kernel_rfl)) ?_
      try go_wp2
      go_roundg k1
      case measure => have := HK1.out; omega
      case rel => exact ⟨(x8_1), (wrap64 (x22_1 + 1)), rs_, H', ⟨by have := HK1.out; omega⟩, ⟨by refine kr_ ?_; exact Kd.R_mono HO_8.out (fun _ hk => trivial)⟩, ⟨by refine kv_ ?_; exact Kd.V_mono HO_129001.out (fun _ hk => ⟨hk.1.1.1, hk.1.1.2.1⟩)⟩, ⟨bk_ BK128.out⟩, ⟨bl_⟩⟩
    ·rw [if_neg c9] at H
     have c9b0 : decide (x22_1 < (l1.length : Int)) = false := decide_eq_false c9
     clear c9
     simp only [Option.some.injEq, Prod.mk.injEq] at H
     obtain ⟨rfl, rfl⟩ := H
     go_wp2
     go_ret2
     exact ⟨_, er_, by refine kr_ ?_; exact HO_8.out, bl_⟩
 ·rw [if_neg c4] at H
  have c4b0 : (t127 == 0) = false := beq_eq_false_iff_ne.mpr c4
  have c4b1 : (t127 != 0) = true := bne_iff_ne.mpr c4
  simp only [Option.some.injEq, Prod.mk.injEq] at H
  obtain ⟨rfl, rfl⟩ := H
  go_enter Try.func5, Try.ntmps5
  go_wp2_with (first | ((with_reducible refine gate_callee (f := 9) rfl ?_); refine goesL_ (some 14) rfl rfl Try.func9 (by kernel_rfl) rfl #[.int .i64 a0, .slice A1 l1.length c1] rfl (as_) ?_; (with_reducible refine (oneway_read.calls k a0 (fun k_ => k_ < w.heap.size) _ _ l1 t123 t124 t127 _ ?side1 A3.out).mono ?_); (case side1 => exact Kd.V_mk HC1.out (Kd.F_below (Kd.C_F k37_heap HR1.out) (bl_))); rintro e w37 ⟨v125, rfl, ho0, hb⟩; refine ⟨_, rfl, ?_⟩; have HO126 := Aside0.mk (Kd.V_lower (Kd.V_mono (ok' := fun k_ => True) ho0 (fun k_ hk_ => trivial)) (below_size (bl_))); replace HB := hb_ hb; clear hb ho0) | ((with_reducible refine gate_dst (N := 6) rfl ?_); refine be_ #[.int .i64 0, .slice none 0 0] 39 ?_; intro gb128 hg w38 hbox hb; replace HO126 := ve_ HO126 hg hb; have BK128 := Aside0.mk (hbox); have GW128 := gw_ hg; have GE128 := gw_ hg; replace HB := hb_ hb; clear hb hbox hg; have hcz39_0 := bc_ BK128 0 (.int .i64 0); have hcz39_1 := bc_ BK128 1 (.slice none 0 0); have hfz39_0 := bz_ BK128 0; have hfz39_1 := bz_ BK128 1; obtain ⟨Ao40, co40, eo40⟩ := Kd.V_slice HO126.out; subst eo40))
  go_ret2
  exact ⟨_, er_, by first | exact Kd.R_nil _ _ _ _ _ | exact Kd.N_nil _ _ _ _ _ | exact Kd.V_nil _ _ _ _ _ | exact Kd.Q_nil _ _ _ _ _ | exact Kd.S_nil _ _ _ _ _, bl_⟩

end Go.Proofs.Ytlcgoacmlbeliaa.P
