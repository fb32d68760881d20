-- Written by wip/tools/myprint.py of this session's repo, over the kit's printer and hand texts.
import Derived.Test.YtgobffgogmnmpaaDoorPx0
import Derived.Test.YtgobffgogmnmpaaDoorPre
import Derived.Test.YtgobffgogmnmpaaDoorPx3
import Derived.Test.YtgobffgogmnmpaaDoorPx8
namespace Go.Proofs.YtgobffgogmnmpaaDoor.P
open Go.RowKit Go.Proofs.YtgobffgogmnmpaaDoorW.PrintWords Go.Proofs.YtgobffgogmnmpaaDoorW.PrintLast Go.Proofs.YtgobffgogmnmpaaDoorW.PrintMore
attribute [local go_sem] max2_int min2_int max_two min_two max_three min_three max_four min_four   -- for this text's walks alone
set_option linter.unusedVariables false
set_option linter.unusedSimpArgs false

/-! ### turn_Deviation: function 25 -/
def turn_Deviation.f (k : Nat) (l0 : List Int) (l1 : List Int) : Option (Int × Int × Int) := (turn_worked.f k l0 l1).bind fun bt227 => (if bt227.2.2 = 0 then ((turn_table_deviation.f k bt227.1 bt227.2.1 l1).bind fun t233 => ((ratio_Of.f k t233 bt227.2.1).bind fun bt234 => (some (bt234.1, bt234.2, 0)))) else (some (0, 0, bt227.2.2)))
theorem turn_Deviation.mono : ∀ a0 a1 k, LeO (turn_Deviation.f k a0 a1) (turn_Deviation.f (k + 1) a0 a1) := by
  intro a0 a1 k
  unfold turn_Deviation.f
  with_reducible repeat' first | exact ratio_Of.mono _ _ _ | exact turn_table_deviation.mono _ _ _ _ | exact turn_worked.mono _ _ _ | exact LeO.refl _ | exact LeO.none _ | refine LeO.ite ?_ ?_ | refine LeO.bind ?_ (fun _ => ?_)
def turn_Deviation.T4 : Bool × List (List Nat × List Nat) := (true, [([], []), ([], []), ([0, 1], [0, 1]), ([], []), ([3], [3]), ([2, 4, 2], [2, 4]), ([5, 5, 0, 1, 2, 3, 4, 5], [5]), ([6, 0, 1, 2, 3, 4, 5, 6], [])])
def turn_Deviation.B4 : List Nat := [0, 0, 3, 0, 8, 31, 63, 127]
theorem turn_Deviation.tab4 : rtab .any (opsOf Tryd.f25 4) = turn_Deviation.T4 := by kernel_rfl
theorem turn_Deviation.bits4 : waitsOk turn_Deviation.T4.2 turn_Deviation.B4 = true := by kernel_rfl
set_option maxHeartbeats 8000000 in
set_option maxRecDepth 100000 in
theorem turn_Deviation.calls (k : Nat) (A0 : Option Addr) (c0 : Nat) (l0 : List Int) (A1 : Option Addr) (c1 : Nat) (l1 : List Int) (r1 : Int) (r2 : Int) (r3 : Int) (w : World) (hr0 : Kd.C (Kd.int .i64) w A0 l0.length l0) (hc0 : l0.length ≤ c0) (hr1 : Kd.C (Kd.int .i64) w A1 l1.length l1) (hc1 : l1.length ≤ c1) (h : turn_Deviation.f k l0 l1 = some (r1, r2, r3)) :
    Calls Tryd.prog 25 #[.slice A0 l0.length c0, .slice A1 l1.length c1] w fun e w' => e = .returned (.tuple #[.agg #[.int .i64 r1, .int .i64 r2], .int .i64 r3]) ∧ Below w.heap.size w w' := by
 have hu26 := Tryd.underlying26
 have hu60 := Tryd.underlying60
 have HR0 := Aside0.mk hr0
 have HC0 := Aside0.mk hc0
 clear hr0 hc0
 have HR1 := Aside0.mk hr1
 have HC1 := Aside0.mk hc1
 clear hr1 hc1
 have HB := Aside0.mk (Below.refl w.heap.size w)
 have H : ((turn_worked.f k l0 l1).bind fun bt227 => (if bt227.2.2 = 0 then ((turn_table_deviation.f k bt227.1 bt227.2.1 l1).bind fun t233 => ((ratio_Of.f k t233 bt227.2.1).bind fun bt234 => (some (bt234.1, bt234.2, 0)))) else (some (0, 0, bt227.2.2)))) = some (r1, r2, r3) := h
 clear h
 obtain ⟨⟨t227, t230, t231⟩, A3, H⟩ := bi_ H
 replace H : (if t231 = 0 then ((turn_table_deviation.f k t227 t230 l1).bind fun t233 => ((ratio_Of.f k t233 t230).bind fun bt234 => (some (bt234.1, bt234.2, 0)))) else (some (0, 0, t231))) = some (r1, r2, r3) := H
 by_cases c4 : t231 = 0
 ·rw [if_pos c4] at H
  have c4b0 : (t231 == 0) = true := beq_iff_eq.mpr c4
  have c4b1 : (t231 != 0) = false := bne_eq_false_iff_eq.mpr c4
  clear c4
  obtain ⟨t233, A5, H⟩ := bi_ H
  replace H : ((ratio_Of.f k t233 t230).bind fun bt234 => (some (bt234.1, bt234.2, 0))) = some (r1, r2, r3) := H
  obtain ⟨⟨t234, t235⟩, A6, H⟩ := bi_ H
  replace H : (some (t234, t235, 0)) = some (r1, r2, r3) := H
  simp only [Option.some.injEq, Prod.mk.injEq] at H
  obtain ⟨rfl, rfl, rfl⟩ := H
  go_enter Tryd.func25, Tryd.ntmps25
  try go_wp2_with (first | ((with_reducible refine gate_dst (N := 4) rfl ?_); refine be_ #[.int .i64 0, .int .i64 0] 26 ?_; intro gb226 hg w7 hbox hb; have BK226 := Aside0.mk (hbox); have GW226 := gw_ hg; have GE226 := gw_ hg; replace HB := hb_ hb; clear hb hbox hg) | ((with_reducible refine gate_callee (f := 50) rfl ?_); refine goesL_ (some 11) rfl rfl Tryd.func50 (by kernel_rfl) rfl #[.slice A0 l0.length c0, .slice A1 l1.length c1] rfl (as_) ?_; (with_reducible refine (turn_worked.calls k (fun k_ => k_ < w.heap.size) _ _ l0 _ _ l1 t227 t230 t231 _ ?side1 ?side2 ?side3 A3.out).mono ?_); (case side1 => exact Kd.V_mk HC0.out (Kd.F_below (Kd.C_F (Kd.heap_int .i64) HR0.out) (bl_))); (case side2 => exact cb_ HR1.out); (case side3 => exact HC1.out); rintro e w8 ⟨v228, rfl, ho0, hb⟩; refine ⟨_, rfl, ?_⟩; have HO229 := Aside0.mk (Kd.V_lower (Kd.V_mono (ok' := fun k_ => k_ ≠ gb226) ho0 (fun k_ hk_ => Or.elim hk_ (fun hs_ => fun e_ => Nat.not_le.2 hs_ (by rw [e_]; exact GW226.out)) (fun hn_ => (Kd.freshB (g := gb226) (o := .cells #[.int .i64 0, .int .i64 0] 26 (0, 0)) (bk_ BK226.out) k_ hn_)))) (below_size (bl_))); replace BK226 := bb_ BK226 hb; replace HB := hb_ hb; clear hb ho0) | ((with_reducible refine gate_dst (N := 6) rfl ?_); refine be_ #[.slice none 0 0, .int .i64 0] 60 ?_; intro gb232 hg w9 hbox hb; replace HO229 := ve_ HO229 hg hb; have BK232 := Aside0.mk (hbox); have GW232 := gw_ hg; have GE232 := gw_ hg; replace HB := hb_ hb; have NB226_232 := nl_ hg BK226; have NB232_226 := sy_ NB226_232; replace BK226 := bb_ BK226 hb; clear hb hbox hg; obtain ⟨Ao10, co10, eo10⟩ := Kd.V_slice HO229.out; subst eo10; have hnb11 := NB232_226.out; have hnc11 := NB226_232.out; have hcz12_0 := bc_ BK232 0 (.slice none 0 0); have hcz12_1 := bc_ BK232 1 (.int .i64 0); have hfz12_0 := bz_ BK232 0; have hfz12_1 := bz_ BK232 1))
  have n0_ : Aside0 (Kd.V (Kd.int .i64) 3 ((w9.setCell ⟨gb232, 0, none⟩ (.slice Ao10 t227.length co10)).setCell ⟨gb232, 1, none⟩ (.int .i64 t230)) w.heap.size (fun k_ => k_ ≠ gb226 ∧ k_ ≠ gb232) (.slice Ao10 t227.length co10) t227) := ⟨by refine kv_ ?_; exact Kd.V_mono (Kd.V_far (p := ⟨gb232, 1, none⟩) (Kd.V_far (p := ⟨gb232, 0, none⟩) (Kd.V_mono HO229.out (fun k_ hk => (⟨hk, hk.2⟩ : _ ∧ k_ ≠ gb232))) (fun _ hk => hk.2) (.slice Ao10 t227.length co10)) (fun _ hk => hk.2) (.int .i64 t230)) (fun _ hk => ⟨hk.1.1, hk.1.2⟩)⟩
  have n1_ : Aside0 (((w9.setCell ⟨gb232, 0, none⟩ (.slice Ao10 t227.length co10)).setCell ⟨gb232, 1, none⟩ (.int .i64 t230)).heap[gb226]? = some (.cells #[.int .i64 0, .int .i64 0] 26 (0, 0))) := ⟨by refine bk_ ?_; refine blk_far ?_ NB226_232.out _; refine bk_ ?_; refine blk_far ?_ NB226_232.out _; refine bk_ ?_; exact BK226.out⟩
  have n2_ : Aside0 (((w9.setCell ⟨gb232, 0, none⟩ (.slice Ao10 t227.length co10)).setCell ⟨gb232, 1, none⟩ (.int .i64 t230)).heap[gb232]? = some (.cells #[.slice Ao10 t227.length co10, .int .i64 t230] 60 (0, 0))) := ⟨by refine bk_ ?_; refine blk_put (cs := #[.slice Ao10 t227.length co10, .int .i64 0]) ?_ 1 _ rfl; refine bk_ ?_; refine blk_put (cs := #[.slice none 0 0, .int .i64 0]) ?_ 0 _ rfl; refine bk_ ?_; exact BK232.out⟩
  have n3_ : Aside0 (Below w.heap.size w ((w9.setCell ⟨gb232, 0, none⟩ (.slice Ao10 t227.length co10)).setCell ⟨gb232, 1, none⟩ (.int .i64 t230))) := ⟨bl_⟩
  (try clear HO229)
  (try clear BK226)
  (try clear BK232)
  (try clear HB)
  generalize ((w9.setCell ⟨gb232, 0, none⟩ (.slice Ao10 t227.length co10)).setCell ⟨gb232, 1, none⟩ (.int .i64 t230)) = w13 at n0_ n1_ n2_ n3_ ⊢
  have HO229 := n0_
  have BK226 := n1_
  have BK232 := n2_
  have HB := n3_
  clear n0_ n1_ n2_ n3_
  replace HO229 := Aside0.mk (Kd.V_drew HO229.out)
  replace BK226 := Aside0.mk (blk_drew BK226.out)
  replace BK232 := Aside0.mk (blk_drew BK232.out)
  replace HB := Aside0.mk (below_drew1 HB.out)
  refine start_ (n := 8) (S := fun w' => w'.cell? ⟨gb232, 0, none⟩ = some (.slice Ao10 t227.length co10) ∧ w'.cell? ⟨gb232, 1, none⟩ = some (.int .i64 t230)) (ds := []) #[false, false, false, false, false, false, false, false] (by kernel_rfl) rfl rfl ⟨(blk_cell BK232.out 0).trans rfl, (blk_cell BK232.out 1).trans rfl⟩ (fun hHeld => ?_); refine with_tabW turn_Deviation.tab4 turn_Deviation.bits4 (fun HT_ HW_ => ?_)
  generalize w13.drew = w14 at HO229 BK226 BK232 HB hHeld ⊢
  refine pu_ 1 19 HT_.out (h := ?_)
  refine pu_ 3 21 HT_.out (h := ?_)
  refine ta_ 0 18 HT_.out HW_.out hHeld (h := ?_)
  refine ta_ 4 22 HT_.out HW_.out hHeld (h := ?_)
  refine one_ (i := 2) (N := some 20) #[true, true, true, true, true, false, false, false] rfl rfl (one_of HT_.out (by kernel_rfl)) (by decide) (fun K hK => ?_)
  refine goes_ Tryd.func52 (by kernel_rfl) rfl #[.agg #[.slice Ao10 t227.length co10, .int .i64 t230], .slice A1 l1.length c1] (by rfl) rfl rfl (as_) ?_
  with_reducible refine (turn_table_deviation.calls k _ _ t227 t230 _ _ l1 t233 _ ?side1 ?side2 ?side3 ?side4 A5.out).mono ?_
  (case side1 => repeat (first | exact (Kd.V_reads' HO229.out).2.2 | (with_reducible refine Kd.C_alloc ?_ _) | (with_reducible refine Kd.C_drewN ?_ _) | (with_reducible refine Kd.C_drew ?_)))
  (case side2 => exact (Kd.V_reads' HO229.out).2.1)
  (case side3 => exact cb_ HR1.out)
  (case side4 => exact HC1.out)
  rintro e w15 ⟨rfl, hb⟩
  refine ⟨_, rfl, ?_⟩
  replace HO229 := Aside0.mk (Kd.V_below (kv_ HO229.out) hb)
  replace BK226 := bb_ BK226 hb
  replace BK232 := bb_ BK232 hb
  replace HB := hb_ hb
  clear hb
  refine hK.out _ _ ⟨(blk_cell BK232.out 0).trans rfl, (blk_cell BK232.out 1).trans rfl⟩ (fun hHeld => ?_)
  clear hK K
  refine np_ 20 (h := ?_)
  refine one_ (i := 5) (N := some 23) #[true, true, true, true, true, true, false, false] rfl rfl (one_of HT_.out (by kernel_rfl)) (by decide) (fun K hK => ?_)
  refine goes_ Tryd.func51 (by kernel_rfl) rfl #[.int .i64 t233, .int .i64 t230] (by rfl) rfl rfl (as_) ?_
  with_reducible refine (ratio_Of.calls k t233 t230 t234 t235 _ A6.out).mono ?_
  rintro e w16 ⟨rfl, hb⟩
  refine ⟨_, rfl, ?_⟩
  replace HO229 := Aside0.mk (Kd.V_below (kv_ HO229.out) hb)
  replace BK226 := bb_ BK226 hb
  replace BK232 := bb_ BK232 hb
  replace HB := hb_ hb
  clear hb
  refine hK.out _ _ ⟨(blk_cell BK232.out 0).trans rfl, (blk_cell BK232.out 1).trans rfl⟩ (fun hHeld => ?_)
  clear hK K
  refine np_ 23 (h := ?_)
  refine one_ (i := 6) (N := none) #[true, true, true, true, true, true, true, false] rfl rfl (one_of HT_.out (by kernel_rfl)) (by decide) (fun K hK => ?_)
  have hs17 : w16.cell? ⟨gb226, 0, none⟩ = some (.int .i64 0) := (blk_cell BK226.out 0).trans rfl
  have hfs17 := bz_ BK226 0
  have hns17_1 := NB232_226.out
  have hms17_1 := NB226_232.out
  have hs18 : w16.cell? ⟨gb226, 1, none⟩ = some (.int .i64 0) := (blk_cell BK226.out 1).trans rfl
  have hfs18 := bz_ BK226 1
  have hns18_1 := NB232_226.out
  have hms18_1 := NB226_232.out
  refine skip_ (w1 := ?_) (by rfl) rfl ?_ ?_
  rotate_left
  ·go_simp
   rfl
  refine hK.out _ _ ⟨((cell_far (p := ⟨gb226, _, none⟩) NB232_226.out _).trans (((cell_far (p := ⟨gb226, _, none⟩) NB232_226.out _).trans (hHeld.1)))), ((cell_far (p := ⟨gb226, _, none⟩) NB232_226.out _).trans (((cell_far (p := ⟨gb226, _, none⟩) NB232_226.out _).trans (hHeld.2))))⟩ (fun hHeld => ?_)
  clear hK K
  refine pu_ 7 5 HT_.out (h := ?_)
  refine done_ (done_of HT_.out (by kernel_rfl)) ?_
  try go_wp2
  refine bodyPost_ret (results_ct rfl _ _ gb226 26 #[.int .i64 t234, .int .i64 t235] (0, 0) _ rfl (by refine bk_ ?_; refine blk_put (cs := #[.int .i64 t234, .int .i64 0]) ?_ 1 _ rfl; refine bk_ ?_; refine blk_put (cs := #[.int .i64 0, .int .i64 0]) ?_ 0 _ rfl; refine bk_ ?_; exact BK226.out) Tryd.underlying26 rfl (by kernel_rfl)) rfl ?_
  exact ⟨er_, bl_⟩
 ·rw [if_neg c4] at H
  have c4b0 : (t231 == 0) = false := beq_eq_false_iff_ne.mpr c4
  have c4b1 : (t231 != 0) = true := bne_iff_ne.mpr c4
  simp only [Option.some.injEq, Prod.mk.injEq] at H
  obtain ⟨rfl, rfl, rfl⟩ := H
  go_enter Tryd.func25, Tryd.ntmps25
  go_wp2_with (first | ((with_reducible refine gate_dst (N := 4) rfl ?_); refine be_ #[.int .i64 0, .int .i64 0] 26 ?_; intro gb226 hg w19 hbox hb; have BK226 := Aside0.mk (hbox); have GW226 := gw_ hg; have GE226 := gw_ hg; replace HB := hb_ hb; clear hb hbox hg) | ((with_reducible refine gate_callee (f := 50) rfl ?_); refine goesL_ (some 11) rfl rfl Tryd.func50 (by kernel_rfl) rfl #[.slice A0 l0.length c0, .slice A1 l1.length c1] rfl (as_) ?_; (with_reducible refine (turn_worked.calls k (fun k_ => k_ < w.heap.size) _ _ l0 _ _ l1 t227 t230 t231 _ ?side1 ?side2 ?side3 A3.out).mono ?_); (case side1 => exact Kd.V_mk HC0.out (Kd.F_below (Kd.C_F (Kd.heap_int .i64) HR0.out) (bl_))); (case side2 => exact cb_ HR1.out); (case side3 => exact HC1.out); rintro e w20 ⟨v228, rfl, ho0, hb⟩; refine ⟨_, rfl, ?_⟩; have HO229 := Aside0.mk (Kd.V_lower (Kd.V_mono (ok' := fun k_ => k_ ≠ gb226) ho0 (fun k_ hk_ => Or.elim hk_ (fun hs_ => fun e_ => Nat.not_le.2 hs_ (by rw [e_]; exact GW226.out)) (fun hn_ => (Kd.freshB (g := gb226) (o := .cells #[.int .i64 0, .int .i64 0] 26 (0, 0)) (bk_ BK226.out) k_ hn_)))) (below_size (bl_))); replace BK226 := bb_ BK226 hb; replace HB := hb_ hb; clear hb ho0) | ((with_reducible refine gate_dst (N := 6) rfl ?_); refine be_ #[.slice none 0 0, .int .i64 0] 60 ?_; intro gb232 hg w21 hbox hb; replace HO229 := ve_ HO229 hg hb; have BK232 := Aside0.mk (hbox); have GW232 := gw_ hg; have GE232 := gw_ hg; replace HB := hb_ hb; have NB226_232 := nl_ hg BK226; have NB232_226 := sy_ NB226_232; replace BK226 := bb_ BK226 hb; clear hb hbox hg; obtain ⟨Ao22, co22, eo22⟩ := Kd.V_slice HO229.out; subst eo22; have hnb23 := NB232_226.out; have hnc23 := NB226_232.out; have hcz24_0 := bc_ BK232 0 (.slice none 0 0); have hcz24_1 := bc_ BK232 1 (.int .i64 0); have hfz24_0 := bz_ BK232 0; have hfz24_1 := bz_ BK232 1; have hcz25_0 := bc_ BK226 0 (.int .i64 0); have hcz25_1 := bc_ BK226 1 (.int .i64 0); have hfz25_0 := bz_ BK226 0; have hfz25_1 := bz_ BK226 1))
  refine bodyPost_ret (results_ct rfl _ _ gb226 26 #[.int .i64 0, .int .i64 0] (0, 0) _ rfl (by refine bk_ ?_; refine blk_put (cs := #[.int .i64 0, .int .i64 0]) ?_ 1 _ rfl; refine bk_ ?_; refine blk_put (cs := #[.int .i64 0, .int .i64 0]) ?_ 0 _ rfl; refine bk_ ?_; refine blk_far ?_ NB226_232.out _; refine bk_ ?_; refine blk_far ?_ NB226_232.out _; refine bk_ ?_; exact BK226.out) Tryd.underlying26 rfl (by kernel_rfl)) rfl ?_
  exact ⟨er_, bl_⟩

/-! ### turn_Fair_1: function 56 -/
mutual
def turn_Fair_1.l0 : Nat → Int → Int → Int → Int → Bool → List Int → Int → Int → List Int → Int → Option (Int)
  | 0, _, _, _, _, _, _, _, _, _, _ => none
  | k + 1, x1, x7, x8, x9, x10, x19, x20, x21, x237000, x237001 => if x21 < x20 then (if 0 ≤ x21 then (if x21 < (x19.length : Int) then ((turn_table_owed.f x237000 x237001 x21 x1 (rd x19 x21)).bind fun t238 => (if x7 = 0 then (turn_Fair_1.j1 k x1 x7 x8 x9 x10 x21 (wrap64 (x7 * t238)) x19 x20 x21 true x237000 x237001) else (turn_Fair_1.j1 k x1 x7 x8 x9 x10 x21 (wrap64 (x7 * t238)) x19 x20 x21 (decide ((wrap64 (x7 * t238)) < x237001)) x237000 x237001))) else (none)) else (none)) else (some x8)
def turn_Fair_1.j1 : Nat → Int → Int → Int → Int → Bool → Int → Int → List Int → Int → Int → Bool → List Int → Int → Option (Int)
  | 0, _, _, _, _, _, _, _, _, _, _, _, _, _ => none
  | k + 1, x1, x7, x8, x9, x10, x11, x13, x19, x20, x21, x40, x237000, x237001 => if x40 = true then (turn_Fair_1.l0 k x1 x7 x8 x9 x10 x19 x20 (wrap64 (x21 + 1)) x237000 x237001) else (if x10 = true then (if 0 ≤ x8 then (if x8 < (x237000.length : Int) then (if 0 ≤ x11 then (if x11 < (x237000.length : Int) then (if (wrap64 ((wrap64 ((wrap64 ((wrap64 (x7 - 1)) * x237001)) - x13)) * (rd x237000 x8))) < (wrap64 (x9 * (rd x237000 x11))) then (turn_Fair_1.l0 k x1 x7 x11 (wrap64 ((wrap64 ((wrap64 (x7 - 1)) * x237001)) - x13)) true x19 x20 (wrap64 (x21 + 1)) x237000 x237001) else (turn_Fair_1.l0 k x1 x7 x8 x9 x10 x19 x20 (wrap64 (x21 + 1)) x237000 x237001)) else (none)) else (none)) else (none)) else (none)) else (turn_Fair_1.l0 k x1 x7 x11 (wrap64 ((wrap64 ((wrap64 (x7 - 1)) * x237001)) - x13)) true x19 x20 (wrap64 (x21 + 1)) x237000 x237001))
end
def turn_Fair_1.f (k : Nat) (l0_0 : List Int) (a0_1 : Int) (a1 : Int) (l2 : List Int) : Option (Int) := turn_Fair_1.l0 k a1 (wrap64 ((wrap64 (2 * (l2.length : Int))) - 2)) 0 0 false l2 (l2.length : Int) 0 l0_0 a0_1
theorem turn_Fair_1.mono_l : ∀ k, (∀ y0 y1 y2 y3 y4 y5 y6 y7 y8 y9, LeO (turn_Fair_1.l0 k y0 y1 y2 y3 y4 y5 y6 y7 y8 y9) (turn_Fair_1.l0 (k + 1) y0 y1 y2 y3 y4 y5 y6 y7 y8 y9)) ∧ (∀ y0 y1 y2 y3 y4 y5 y6 y7 y8 y9 y10 y11 y12, LeO (turn_Fair_1.j1 k y0 y1 y2 y3 y4 y5 y6 y7 y8 y9 y10 y11 y12) (turn_Fair_1.j1 (k + 1) y0 y1 y2 y3 y4 y5 y6 y7 y8 y9 y10 y11 y12))
  | 0 => ⟨fun _ _ _ _ _ _ _ _ _ _ r h => by simp [turn_Fair_1.l0] at h, fun _ _ _ _ _ _ _ _ _ _ _ _ _ r h => by simp [turn_Fair_1.j1] at h⟩
  | k + 1 => by
    obtain ⟨ih0, ih1⟩ := turn_Fair_1.mono_l k
    refine ⟨?_, ?_⟩
    · intro y0 y1 y2 y3 y4 y5 y6 y7 y8 y9
      unfold turn_Fair_1.l0
      with_reducible repeat' first | exact ih0 _ _ _ _ _ _ _ _ _ _ | exact ih1 _ _ _ _ _ _ _ _ _ _ _ _ _ | exact LeO.refl _ | exact LeO.none _ | refine LeO.ite ?_ ?_ | refine LeO.bind ?_ (fun _ => ?_)
    · intro y0 y1 y2 y3 y4 y5 y6 y7 y8 y9 y10 y11 y12
      unfold turn_Fair_1.j1
      with_reducible repeat' first | exact ih0 _ _ _ _ _ _ _ _ _ _ | exact ih1 _ _ _ _ _ _ _ _ _ _ _ _ _ | exact LeO.refl _ | exact LeO.none _ | refine LeO.ite ?_ ?_ | refine LeO.bind ?_ (fun _ => ?_)
theorem turn_Fair_1.mono : ∀ a0 a1 a2 a3 k, LeO (turn_Fair_1.f k a0 a1 a2 a3) (turn_Fair_1.f (k + 1) a0 a1 a2 a3) := by
  intro a0 a1 a2 a3 k
  obtain ⟨ih0, ih1⟩ := turn_Fair_1.mono_l k
  unfold turn_Fair_1.f
  with_reducible repeat' first | exact ih0 _ _ _ _ _ _ _ _ _ _ | exact ih1 _ _ _ _ _ _ _ _ _ _ _ _ _ | exact LeO.refl _ | exact LeO.none _ | refine LeO.ite ?_ ?_ | refine LeO.bind ?_ (fun _ => ?_)
set_option maxHeartbeats 8000000 in
set_option maxRecDepth 100000 in
theorem turn_Fair_1.calls (k : Nat) (A0_0 : Option Addr) (c0_0 : Nat) (l0_0 : List Int) (a0_1 : Int) (a1 : Int) (A2 : Option Addr) (c2 : Nat) (l2 : List Int) (r : Int) (w : World) (hr0_0 : Kd.C (Kd.int .i64) w A0_0 l0_0.length l0_0) (hc0_0 : l0_0.length ≤ c0_0) (hr2 : Kd.C (Kd.int .i64) w A2 l2.length l2) (hc2 : l2.length ≤ c2) (h : turn_Fair_1.f k l0_0 a0_1 a1 l2 = some r) :
    Calls Tryd.prog 56 #[.agg #[.slice A0_0 l0_0.length c0_0, .int .i64 a0_1], .int .i64 a1, .slice A2 l2.length c2] w fun e w' => e = .returned (.int .i64 r) ∧ Below w.heap.size w w' := by
 have hu60 := Tryd.underlying60
 have HR0_0 := Aside0.mk hr0_0
 have HC0_0 := Aside0.mk hc0_0
 clear hr0_0 hc0_0
 have HR2 := Aside0.mk hr2
 have HC2 := Aside0.mk hc2
 clear hr2 hc2
 have HB := Aside0.mk (Below.refl w.heap.size w)
 have H : (turn_Fair_1.l0 k a1 (wrap64 ((wrap64 (2 * (l2.length : Int))) - 2)) 0 0 false l2 (l2.length : Int) 0 l0_0 a0_1) = some r := h
 clear h
 have H' := Aside0.mk H
 clear H
 go_enter Tryd.func56, Tryd.ntmps56
 go_wp2_with (first | ((with_reducible refine gate_dst (N := 3) rfl ?_); refine be_ #[.slice A0_0 l0_0.length c0_0, .int .i64 a0_1] 60 ?_; intro gb236 hg w4 hbox hb; have BK236 := Aside0.mk (hbox); have GW236 := gw_ hg; have GE236 := gw_ hg; replace HB := hb_ hb; clear hb hbox hg))
 repeat (go_quiet (first | ((with_reducible refine gate_dst (N := 3) rfl ?_); refine be_ #[.slice A0_0 l0_0.length c0_0, .int .i64 a0_1] 60 ?_; intro gb236 hg w4 hbox hb; have BK236 := Aside0.mk (hbox); have GW236 := gw_ hg; have GE236 := gw_ hg; replace HB := hb_ hb; clear hb hbox hg)); try go_wp2_with (first | ((with_reducible refine gate_dst (N := 3) rfl ?_); refine be_ #[.slice A0_0 l0_0.length c0_0, .int .i64 a0_1] 60 ?_; intro gb236 hg w4 hbox hb; have BK236 := Aside0.mk (hbox); have GW236 := gw_ hg; have GE236 := gw_ hg; replace HB := hb_ hb; clear hb hbox hg)))
 go_loopg [8, 9, 10, 21] k (fun kq v8 v9 v10 v21 w' => ∃ (x8_1 : Int) (x9_1 : Int) (x10_1 : Bool) (x21_1 : Int), v8 = .int .i64 x8_1 ∧ v9 = .int .i64 x9_1 ∧ v10 = .bool x10_1 ∧ v21 = .int .i64 x21_1 ∧ Aside0 (turn_Fair_1.l0 kq a1 (wrap64 ((wrap64 (2 * (l2.length : Int))) - 2)) x8_1 x9_1 x10_1 l2 (l2.length : Int) x21_1 l0_0 a0_1 = some r) ∧ Aside0 (kq ≤ k) ∧ Aside0 (w'.heap[gb236]? = some (.cells #[(.slice A0_0 l0_0.length c0_0), .int .i64 a0_1] 60 (0, 0))) ∧ Aside0 (Below w.heap.size w w'))
 case atStart => exact ⟨(0), (0), (false), (0), rs_, rs_, rs_, rs_, H', ⟨Nat.le_refl _⟩, ⟨bk_ BK236.out⟩, ⟨bl_⟩⟩
 case round =>
  clear H'
  try clear c2
  try clear p2
  obtain ⟨x8_1, x9_1, x10_1, x21_1, rfl, rfl, rfl, rfl, HA, HK1, BK236, HB⟩ := hrel
  cases gk with
  | zero => exact absurd HA.out (by simp [turn_Fair_1.l0])
  | succ k1 =>
   have H := HA.out
   clear HA
   simp only [turn_Fair_1.l0] at H
   by_cases c5 : x21_1 < (l2.length : Int)
   ·rw [if_pos c5] at H
    have c5b0 : decide (x21_1 < (l2.length : Int)) = true := decide_eq_true c5
    clear c5
    obtain ⟨c6b0, H⟩ := fp_ H
    obtain ⟨c7b0, H⟩ := fp_ H
    obtain ⟨t238, A8, H⟩ := bi_ H
    replace H : (if (wrap64 ((wrap64 (2 * (l2.length : Int))) - 2)) = 0 then (turn_Fair_1.j1 k1 a1 (wrap64 ((wrap64 (2 * (l2.length : Int))) - 2)) x8_1 x9_1 x10_1 x21_1 (wrap64 ((wrap64 ((wrap64 (2 * (l2.length : Int))) - 2)) * t238)) l2 (l2.length : Int) x21_1 true l0_0 a0_1) else (turn_Fair_1.j1 k1 a1 (wrap64 ((wrap64 (2 * (l2.length : Int))) - 2)) x8_1 x9_1 x10_1 x21_1 (wrap64 ((wrap64 ((wrap64 (2 * (l2.length : Int))) - 2)) * t238)) l2 (l2.length : Int) x21_1 (decide ((wrap64 ((wrap64 ((wrap64 (2 * (l2.length : Int))) - 2)) * t238)) < a0_1)) l0_0 a0_1)) = some r := H
    have HC9 := Aside0.mk H
    clear H
    obtain ⟨ad237, e237, hx237_0, p237, q237⟩ := ai_ HR2.out x21_1
    cases e237
    replace hx237_0 := hc_ HB hx237_0
    have hcz10_0 := bc_ BK236 0 (.slice A0_0 l0_0.length c0_0)
    have hcz10_1 := bc_ BK236 1 (.int .i64 a0_1)
    have hfz10_0 := bz_ BK236 0
    have hfz10_1 := bz_ BK236 1
    go_upto_region 8 with (first | (go_at_call 57; (with_reducible refine (turn_table_owed.calls _ _ l0_0 a0_1 x21_1 a1 (rd l2 x21_1) t238 _ ?side1 ?side2 A8.out).mono ?_); (case side1 => exact cb_ HR0_0.out); (case side2 => exact HC0_0.out); rintro e w11 ⟨rfl, hb⟩; replace BK236 := bb_ BK236 hb; replace HB := hb_ hb; clear hb))
    repeat (go_quiet (first | (go_at_call 57; (with_reducible refine (turn_table_owed.calls _ _ l0_0 a0_1 x21_1 a1 (rd l2 x21_1) t238 _ ?side1 ?side2 A8.out).mono ?_); (case side1 => exact cb_ HR0_0.out); (case side2 => exact HC0_0.out); rintro e w11 ⟨rfl, hb⟩; replace BK236 := bb_ BK236 hb; replace HB := hb_ hb; clear hb)); go_upto_region 8 with (first | (go_at_call 57; (with_reducible refine (turn_table_owed.calls _ _ l0_0 a0_1 x21_1 a1 (rd l2 x21_1) t238 _ ?side1 ?side2 A8.out).mono ?_); (case side1 => exact cb_ HR0_0.out); (case side2 => exact HC0_0.out); rintro e w11 ⟨rfl, hb⟩; replace BK236 := bb_ BK236 hb; replace HB := hb_ hb; clear hb)))
    (try simp only [Act.put, List.setIfInBounds_toArray, List.set_cons_zero, List.set_cons_succ])
    go_cut [40] (fun v40 wc => ∃ (kq : Nat) (x40_8 : Bool), v40 = .bool x40_8 ∧ Aside0 (turn_Fair_1.j1 kq a1 (wrap64 ((wrap64 (2 * (l2.length : Int))) - 2)) x8_1 x9_1 x10_1 x21_1 (wrap64 ((wrap64 ((wrap64 (2 * (l2.length : Int))) - 2)) * t238)) l2 (l2.length : Int) x21_1 x40_8 l0_0 a0_1 = some r) ∧ Aside0 (kq ≤ k1) ∧ Aside0 (wc.heap[gb236]? = some (.cells #[(.slice A0_0 l0_0.length c0_0), .int .i64 a0_1] 60 (0, 0))) ∧ Aside0 (Below w.heap.size w wc))
    case first =>
     have H := HC9.out
     clear HC9
     by_cases c12 : (wrap64 ((wrap64 (2 * (l2.length : Int))) - 2)) = 0
     ·rw [if_pos c12] at H
      have c12b0 : ((wrap64 ((wrap64 (2 * (l2.length : Int))) - 2)) == 0) = true := beq_iff_eq.mpr c12
      have c12b1 : ((wrap64 ((wrap64 (2 * (l2.length : Int))) - 2)) != 0) = false := bne_eq_false_iff_eq.mpr c12
      clear c12
      (first | rw [c12b0] | (simp only [i64_w, i32_w]; rw [c12b0]) | skip)
      have H' := Aside0.mk H
      clear H
      go_wp2
      repeat (go_quiet (fail); try go_wp2)
      go_meet
      case rel => exact ⟨_, (true), rs_, H', ⟨by have := HK1.out; first | omega | exact Nat.le_refl _⟩, ⟨bk_ BK236.out⟩, ⟨bl_⟩⟩
     ·rw [if_neg c12] at H
      have c12b0 : ((wrap64 ((wrap64 (2 * (l2.length : Int))) - 2)) == 0) = false := beq_eq_false_iff_ne.mpr c12
      have c12b1 : ((wrap64 ((wrap64 (2 * (l2.length : Int))) - 2)) != 0) = true := bne_iff_ne.mpr c12
      (first | rw [c12b0] | (simp only [i64_w, i32_w]; rw [c12b0]) | skip)
      have H' := Aside0.mk H
      clear H
      have hcz13_0 := bc_ BK236 0 (.slice A0_0 l0_0.length c0_0)
      have hcz13_1 := bc_ BK236 1 (.int .i64 a0_1)
      have hfz13_0 := bz_ BK236 0
      have hfz13_1 := bz_ BK236 1
      go_wp2
      repeat (go_quiet (fail); try go_wp2)
      go_meet
      case rel => exact ⟨_, (decide ((wrap64 ((wrap64 ((wrap64 (2 * (l2.length : Int))) - 2)) * t238)) < a0_1)), rs_, H', ⟨by have := HK1.out; first | omega | exact Nat.le_refl _⟩, ⟨bk_ BK236.out⟩, ⟨bl_⟩⟩
    case rest =>
     clear HC9
     try clear c1
     try clear c2
     try clear p2
     try clear q2
     try clear hx2
     try clear c5
     try clear c5b0
     try clear c6
     try clear c6b0
     try clear p6
     try clear c7
     try clear c7b0
     try clear c12
     try clear c12b0
     try clear c12b1
     try clear hcz10_0
     try clear hcz10_1
     try clear hcz13_0
     try clear hcz13_1
     try clear hfz10_0
     try clear hfz10_1
     try clear hfz13_0
     try clear hfz13_1
     try clear hx237_0
     try clear p2
     try clear p237
     try clear q237
     obtain ⟨kq, x40_8, rfl, HA, HJ8, BK236, HB⟩ := hcut
     cases kq with
     | zero => exact absurd HA.out (by simp [turn_Fair_1.j1])
     | succ kj8 =>
      have H := HA.out
      clear HA
      simp only [turn_Fair_1.j1] at H
      by_cases c14 : x40_8 = true
      ·subst c14
       have H1 : (turn_Fair_1.l0 kj8 a1 (wrap64 ((wrap64 (2 * (l2.length : Int))) - 2)) x8_1 x9_1 x10_1 l2 (l2.length : Int) (wrap64 (x21_1 + 1)) l0_0 a0_1) = some r := by rw [if_pos rfl] at H; exact H
       clear H
       have H := H1
       clear H1
       have H' := Aside0.mk H
       clear H
       go_wp2
       repeat (go_quiet (fail); try go_wp2)
       go_roundg kj8
       case measure => have := HK1.out; have := HJ8.out; omega
       case rel => exact ⟨(x8_1), (x9_1), (x10_1), (wrap64 (x21_1 + 1)), rs_, rs_, rs_, rs_, H', ⟨by have := HK1.out; have := HJ8.out; omega⟩, ⟨bk_ BK236.out⟩, ⟨bl_⟩⟩
      ·replace c14 := Bool.eq_false_iff.mpr c14
       subst c14
       have H1 : (if x10_1 = true then (if 0 ≤ x8_1 then (if x8_1 < (l0_0.length : Int) then (if 0 ≤ x21_1 then (if x21_1 < (l0_0.length : Int) then (if (wrap64 ((wrap64 ((wrap64 ((wrap64 ((wrap64 ((wrap64 (2 * (l2.length : Int))) - 2)) - 1)) * a0_1)) - (wrap64 ((wrap64 ((wrap64 (2 * (l2.length : Int))) - 2)) * t238)))) * (rd l0_0 x8_1))) < (wrap64 (x9_1 * (rd l0_0 x21_1))) then (turn_Fair_1.l0 kj8 a1 (wrap64 ((wrap64 (2 * (l2.length : Int))) - 2)) x21_1 (wrap64 ((wrap64 ((wrap64 ((wrap64 ((wrap64 (2 * (l2.length : Int))) - 2)) - 1)) * a0_1)) - (wrap64 ((wrap64 ((wrap64 (2 * (l2.length : Int))) - 2)) * t238)))) true l2 (l2.length : Int) (wrap64 (x21_1 + 1)) l0_0 a0_1) else (turn_Fair_1.l0 kj8 a1 (wrap64 ((wrap64 (2 * (l2.length : Int))) - 2)) x8_1 x9_1 x10_1 l2 (l2.length : Int) (wrap64 (x21_1 + 1)) l0_0 a0_1)) else (none)) else (none)) else (none)) else (none)) else (turn_Fair_1.l0 kj8 a1 (wrap64 ((wrap64 (2 * (l2.length : Int))) - 2)) x21_1 (wrap64 ((wrap64 ((wrap64 ((wrap64 ((wrap64 (2 * (l2.length : Int))) - 2)) - 1)) * a0_1)) - (wrap64 ((wrap64 ((wrap64 (2 * (l2.length : Int))) - 2)) * t238)))) true l2 (l2.length : Int) (wrap64 (x21_1 + 1)) l0_0 a0_1)) = some r := by rw [if_neg (show ¬ (false = true) by decide)] at H; exact H
       clear H
       have H := H1
       clear H1
       by_cases c15 : x10_1 = true
       ·subst c15
        have H1 : (if 0 ≤ x8_1 then (if x8_1 < (l0_0.length : Int) then (if 0 ≤ x21_1 then (if x21_1 < (l0_0.length : Int) then (if (wrap64 ((wrap64 ((wrap64 ((wrap64 ((wrap64 ((wrap64 (2 * (l2.length : Int))) - 2)) - 1)) * a0_1)) - (wrap64 ((wrap64 ((wrap64 (2 * (l2.length : Int))) - 2)) * t238)))) * (rd l0_0 x8_1))) < (wrap64 (x9_1 * (rd l0_0 x21_1))) then (turn_Fair_1.l0 kj8 a1 (wrap64 ((wrap64 (2 * (l2.length : Int))) - 2)) x21_1 (wrap64 ((wrap64 ((wrap64 ((wrap64 ((wrap64 (2 * (l2.length : Int))) - 2)) - 1)) * a0_1)) - (wrap64 ((wrap64 ((wrap64 (2 * (l2.length : Int))) - 2)) * t238)))) true l2 (l2.length : Int) (wrap64 (x21_1 + 1)) l0_0 a0_1) else (turn_Fair_1.l0 kj8 a1 (wrap64 ((wrap64 (2 * (l2.length : Int))) - 2)) x8_1 x9_1 true l2 (l2.length : Int) (wrap64 (x21_1 + 1)) l0_0 a0_1)) else (none)) else (none)) else (none)) else (none)) = some r := by rw [if_pos rfl] at H; exact H
        clear H
        have H := H1
        clear H1
        obtain ⟨c16b0, H⟩ := fp_ H
        obtain ⟨c17b0, H⟩ := fp_ H
        obtain ⟨c18b0, H⟩ := fp_ H
        obtain ⟨c19b0, H⟩ := fp_ H
        by_cases c20 : (wrap64 ((wrap64 ((wrap64 ((wrap64 ((wrap64 ((wrap64 (2 * (l2.length : Int))) - 2)) - 1)) * a0_1)) - (wrap64 ((wrap64 ((wrap64 (2 * (l2.length : Int))) - 2)) * t238)))) * (rd l0_0 x8_1))) < (wrap64 (x9_1 * (rd l0_0 x21_1)))
        ·rw [if_pos c20] at H
         have c20b0 : decide ((wrap64 ((wrap64 ((wrap64 ((wrap64 ((wrap64 ((wrap64 (2 * (l2.length : Int))) - 2)) - 1)) * a0_1)) - (wrap64 ((wrap64 ((wrap64 (2 * (l2.length : Int))) - 2)) * t238)))) * (rd l0_0 x8_1))) < (wrap64 (x9_1 * (rd l0_0 x21_1)))) = true := decide_eq_true c20
         clear c20
         have H' := Aside0.mk H
         clear H
         have hcz21_0 := bc_ BK236 0 (.slice A0_0 l0_0.length c0_0)
         have hcz21_1 := bc_ BK236 1 (.int .i64 a0_1)
         have hfz21_0 := bz_ BK236 0
         have hfz21_1 := bz_ BK236 1
         obtain ⟨ad239, e239, hx239_0, p239, q239⟩ := ai_ HR0_0.out x8_1
         cases e239
         replace hx239_0 := hc_ HB hx239_0
         obtain ⟨ad240, e240, hx240_0, p240, q240⟩ := ai_ HR0_0.out x21_1
         obtain rfl : ad239 = ad240 := (by injection e240)
         replace hx240_0 := hc_ HB hx240_0
         go_wp2
         repeat (go_quiet (fail); try go_wp2)
         go_roundg kj8
         case measure => have := HK1.out; have := HJ8.out; omega
         case rel => exact ⟨(x21_1), (wrap64 ((wrap64 ((wrap64 ((wrap64 ((wrap64 (2 * (l2.length : Int))) - 2)) - 1)) * a0_1)) - (wrap64 ((wrap64 ((wrap64 (2 * (l2.length : Int))) - 2)) * t238)))), (true), (wrap64 (x21_1 + 1)), rs_, rs_, rs_, rs_, H', ⟨by have := HK1.out; have := HJ8.out; omega⟩, ⟨bk_ BK236.out⟩, ⟨bl_⟩⟩
        ·rw [if_neg c20] at H
         have c20b0 : decide ((wrap64 ((wrap64 ((wrap64 ((wrap64 ((wrap64 ((wrap64 (2 * (l2.length : Int))) - 2)) - 1)) * a0_1)) - (wrap64 ((wrap64 ((wrap64 (2 * (l2.length : Int))) - 2)) * t238)))) * (rd l0_0 x8_1))) < (wrap64 (x9_1 * (rd l0_0 x21_1)))) = false := decide_eq_false c20
         clear c20
         have H' := Aside0.mk H
         clear H
         have hcz22_0 := bc_ BK236 0 (.slice A0_0 l0_0.length c0_0)
         have hcz22_1 := bc_ BK236 1 (.int .i64 a0_1)
         have hfz22_0 := bz_ BK236 0
         have hfz22_1 := bz_ BK236 1
         obtain ⟨ad239, e239, hx239_0, p239, q239⟩ := ai_ HR0_0.out x8_1
         cases e239
         replace hx239_0 := hc_ HB hx239_0
         obtain ⟨ad240, e240, hx240_0, p240, q240⟩ := ai_ HR0_0.out x21_1
         obtain rfl : ad239 = ad240 := (by injection e240)
         replace hx240_0 := hc_ HB hx240_0
         go_wp2
         repeat (go_quiet (fail); try go_wp2)
         go_roundg kj8
         case measure => have := HK1.out; have := HJ8.out; omega
         case rel => exact ⟨(x8_1), (x9_1), (true), (wrap64 (x21_1 + 1)), rs_, rs_, rs_, rs_, H', ⟨by have := HK1.out; have := HJ8.out; omega⟩, ⟨bk_ BK236.out⟩, ⟨bl_⟩⟩
       ·replace c15 := Bool.eq_false_iff.mpr c15
        subst c15
        have H1 : (turn_Fair_1.l0 kj8 a1 (wrap64 ((wrap64 (2 * (l2.length : Int))) - 2)) x21_1 (wrap64 ((wrap64 ((wrap64 ((wrap64 ((wrap64 (2 * (l2.length : Int))) - 2)) - 1)) * a0_1)) - (wrap64 ((wrap64 ((wrap64 (2 * (l2.length : Int))) - 2)) * t238)))) true l2 (l2.length : Int) (wrap64 (x21_1 + 1)) l0_0 a0_1) = some r := by rw [if_neg (show ¬ (false = true) by decide)] at H; exact H
        clear H
        have H := H1
        clear H1
        have H' := Aside0.mk H
        clear H
        have hcz23_0 := bc_ BK236 0 (.slice A0_0 l0_0.length c0_0)
        have hcz23_1 := bc_ BK236 1 (.int .i64 a0_1)
        have hfz23_0 := bz_ BK236 0
        have hfz23_1 := bz_ BK236 1
        go_wp2
        repeat (go_quiet (fail); try go_wp2)
        go_roundg kj8
        case measure => have := HK1.out; have := HJ8.out; omega
        case rel => exact ⟨(x21_1), (wrap64 ((wrap64 ((wrap64 ((wrap64 ((wrap64 (2 * (l2.length : Int))) - 2)) - 1)) * a0_1)) - (wrap64 ((wrap64 ((wrap64 (2 * (l2.length : Int))) - 2)) * t238)))), (true), (wrap64 (x21_1 + 1)), rs_, rs_, rs_, rs_, H', ⟨by have := HK1.out; have := HJ8.out; omega⟩, ⟨bk_ BK236.out⟩, ⟨bl_⟩⟩
   ·rw [if_neg c5] at H
    have c5b0 : decide (x21_1 < (l2.length : Int)) = false := decide_eq_false c5
    clear c5
    obtain rfl := Option.some.inj H
    go_wp2
    repeat (go_quiet (fail); try go_wp2)
    go_ret
    exact ⟨er_, bl_⟩

/-! ### turn_called_F: function 113 -/
def turn_called_F.l0 : Nat → List Int → List Int → Int → Int → List Int → Int → Option (List Int × Int)
  | 0, _, _, _, _, _, _ => none
  | k + 1, x10, x11, x33, x34, x247000, x247001 => if x34 < x33 then ((turn_Fair_1.f k x247000 x247001 (wrap64 (x34 + 1)) x10).bind fun t250 => (if 0 ≤ t250 then (if t250 < (x10.length : Int) then (if x11.length < 17592186044416 then (turn_called_F.l0 k (x10.set (t250 : Int).toNat (wrap64 ((rd x10 t250) + 1))) (x11 ++ [t250]) x33 (wrap64 (x34 + 1)) x247000 x247001) else (none)) else (none)) else (none))) else (some (x11, 0))
def turn_called_F.f (k : Nat) (l0 : List Int) (a1 : Int) : Option (List Int × Int) := (turn_read.f k l0).bind fun bt241 => (if bt241.2.2 = 0 then (if a1 < 0 then (some (([] : List Int), 2)) else (if a1 > 400 then (some (([] : List Int), 2)) else (if 0 ≤ (l0.length : Int) then (if ((l0.length : Int) : Int).toNat ≤ 35184372088832 then (turn_called_F.l0 k (List.replicate ((l0.length : Int) : Int).toNat 0) ([] : List Int) a1 0 bt241.1 bt241.2.1) else (none)) else (none)))) else (some (([] : List Int), bt241.2.2)))
theorem turn_called_F.mono_l : ∀ k, (∀ y0 y1 y2 y3 y4 y5, LeO (turn_called_F.l0 k y0 y1 y2 y3 y4 y5) (turn_called_F.l0 (k + 1) y0 y1 y2 y3 y4 y5))
  | 0 => fun _ _ _ _ _ _ r h => by simp [turn_called_F.l0] at h
  | k + 1 => by
    have ih0 := turn_called_F.mono_l k
    · intro y0 y1 y2 y3 y4 y5
      unfold turn_called_F.l0
      with_reducible repeat' first | exact ih0 _ _ _ _ _ _ | exact turn_Fair_1.mono _ _ _ _ _ | exact turn_read.mono _ _ | exact LeO.refl _ | exact LeO.none _ | refine LeO.ite ?_ ?_ | refine LeO.bind ?_ (fun _ => ?_)
theorem turn_called_F.mono : ∀ a0 a1 k, LeO (turn_called_F.f k a0 a1) (turn_called_F.f (k + 1) a0 a1) := by
  intro a0 a1 k
  have ih0 := turn_called_F.mono_l k
  unfold turn_called_F.f
  with_reducible repeat' first | exact ih0 _ _ _ _ _ _ | exact turn_Fair_1.mono _ _ _ _ _ | exact turn_read.mono _ _ | exact LeO.refl _ | exact LeO.none _ | refine LeO.ite ?_ ?_ | refine LeO.bind ?_ (fun _ => ?_)
/-- A call of a function value, as an arm of go_wp2_with. -/
theorem goesF_ {P : Program} {ops : Array Oper} {Q : Exit → Act → World → Prop} {rest : List Oper} {oi : Oper} {a : Act} {w : World} (N : Option Tmp) (hd : oi.dst = N) (hg : oi.guard = none) {f : FuncId} {fn : Func} {op : Operand} {xs : Array Operand} {ts : Array TypeId} {cap : Array Value} (hop : oi.op = .call { callee := .value op, args := xs, argTypes := ts }) (hv : a.eval op = .func (.func f) #[] cap) (hf : P.funcs[f]? = some fn) (hname : (fn.name == "runtime.NumGoroutine") = false) (hb : fn.body.isSome = true) (args : Array Value)
    (hargs : xs.map a.eval ++ cap = args)
    (h : Calls P f args w fun e w' => ∃ v, e = .returned v ∧ wpList P ops Q rest (a.put N v) w') : wpList P ops Q (oi :: rest) a w := by
  refine wpList_plain hg fun K hK => ?_
  have he := enters_ hf hname hb args w
  have hrun : (execOp a.eval oi).run P w = .ok (.enter f args) w := by
    unfold execOp
    have hv' : a.eval op = .func (.func f) #[] cap := hv
    simp [hop, resolve, Deferred.ofValue, invoke, Act.eval, ← hargs, he] at hv' ⊢
    simp [hv', invoke, Act.eval, hargs, he]
  unfold Oper.wp
  rw [hrun, Oper.upon_enter]
  refine h.mono fun e w'' hh => ?_
  obtain ⟨v, rfl, hk⟩ := hh
  subst hd
  exact hK _ _ hk
set_option maxHeartbeats 8000000 in
set_option maxRecDepth 100000 in
theorem turn_called_F.calls (k : Nat) (A0 : Option Addr) (c0 : Nat) (l0 : List Int) (a1 : Int) (r1 : List Int) (r2 : Int) (w : World) (hr0 : Kd.C (Kd.int .i64) w A0 l0.length l0) (hc0 : l0.length ≤ c0) (h : turn_called_F.f k l0 a1 = some (r1, r2)) :
    Calls Tryd.prog 55 #[.slice A0 l0.length c0, .int .i64 a1, .func (.func 56) #[] #[]] w fun e w' => ∃ v0_ : Value, e = .returned (.tuple #[v0_, .int .i64 r2]) ∧ Kd.R (Kd.int .i64) 3 w' w.heap.size (fun _ => True) v0_ r1 ∧ Below w.heap.size w w' := by
 have hu60 := Tryd.underlying60
 have HR0 := Aside0.mk hr0
 have HC0 := Aside0.mk hc0
 clear hr0 hc0
 have HB := Aside0.mk (Below.refl w.heap.size w)
 have H : ((turn_read.f k l0).bind fun bt241 => (if bt241.2.2 = 0 then (if a1 < 0 then (some (([] : List Int), 2)) else (if a1 > 400 then (some (([] : List Int), 2)) else (if 0 ≤ (l0.length : Int) then (if ((l0.length : Int) : Int).toNat ≤ 35184372088832 then (turn_called_F.l0 k (List.replicate ((l0.length : Int) : Int).toNat 0) ([] : List Int) a1 0 bt241.1 bt241.2.1) else (none)) else (none)))) else (some (([] : List Int), bt241.2.2)))) = some (r1, r2) := h
 clear h
 obtain ⟨⟨t241, t244, t245⟩, A3, H⟩ := bi_ H
 replace H : (if t245 = 0 then (if a1 < 0 then (some (([] : List Int), 2)) else (if a1 > 400 then (some (([] : List Int), 2)) else (if 0 ≤ (l0.length : Int) then (if ((l0.length : Int) : Int).toNat ≤ 35184372088832 then (turn_called_F.l0 k (List.replicate ((l0.length : Int) : Int).toNat 0) ([] : List Int) a1 0 t241 t244) else (none)) else (none)))) else (some (([] : List Int), t245))) = some (r1, r2) := H
 by_cases c4 : t245 = 0
 ·rw [if_pos c4] at H
  have c4b0 : (t245 == 0) = true := beq_iff_eq.mpr c4
  have c4b1 : (t245 != 0) = false := bne_eq_false_iff_eq.mpr c4
  clear c4
  by_cases c5 : a1 < 0
  ·rw [if_pos c5] at H
   have c5b0 : decide (a1 < 0) = true := decide_eq_true c5
   clear c5
   simp only [Option.some.injEq, Prod.mk.injEq] at H
   obtain ⟨rfl, rfl⟩ := H
   go_enter Tryd.func55, Tryd.ntmps55
   go_wp2_with (first | ((with_reducible refine gate_callee (f := 43) rfl ?_); refine goesL_ (some 16) rfl rfl Tryd.func43 (by kernel_rfl) rfl #[.slice A0 l0.length c0] rfl (as_) ?_; (with_reducible refine (turn_read.calls k (fun k_ => k_ < w.heap.size) _ _ l0 t241 t244 t245 _ ?side1 A3.out).mono ?_); (case side1 => exact Kd.V_mk HC0.out (Kd.F_below (Kd.C_F (Kd.heap_int .i64) HR0.out) (bl_))); rintro e w6 ⟨v242, rfl, ho0, hb⟩; refine ⟨_, rfl, ?_⟩; have HO243 := Aside0.mk (Kd.V_lower (Kd.V_mono (ok' := fun k_ => True) ho0 (fun k_ hk_ => trivial)) (below_size (bl_))); replace HB := hb_ hb; clear hb ho0) | ((with_reducible refine gate_dst (N := 8) rfl ?_); refine be_ #[.slice none 0 0, .int .i64 0] 60 ?_; intro gb246 hg w7 hbox hb; replace HO243 := ve_ HO243 hg hb; have BK246 := Aside0.mk (hbox); have GW246 := gw_ hg; have GE246 := gw_ hg; replace HB := hb_ hb; clear hb hbox hg; obtain ⟨Ao8, co8, eo8⟩ := Kd.V_slice HO243.out; subst eo8; have hcz9_0 := bc_ BK246 0 (.slice none 0 0); have hcz9_1 := bc_ BK246 1 (.int .i64 0); have hfz9_0 := bz_ BK246 0; have hfz9_1 := bz_ BK246 1))
   go_ret2
   exact ⟨_, er_, by first | exact Kd.R_nil _ _ _ _ _ | exact Kd.N_nil _ _ _ _ _ | exact Kd.V_nil _ _ _ _ _ | exact Kd.Q_nil _ _ _ _ _ | exact Kd.S_nil _ _ _ _ _, bl_⟩
  ·rw [if_neg c5] at H
   have c5b0 : decide (a1 < 0) = false := decide_eq_false c5
   clear c5
   by_cases c10 : a1 > 400
   ·rw [if_pos c10] at H
    have c10b0 : decide (400 < a1) = true := decide_eq_true c10
    clear c10
    simp only [Option.some.injEq, Prod.mk.injEq] at H
    obtain ⟨rfl, rfl⟩ := H
    go_enter Tryd.func55, Tryd.ntmps55
    go_wp2_with (first | ((with_reducible refine gate_callee (f := 43) rfl ?_); refine goesL_ (some 16) rfl rfl Tryd.func43 (by kernel_rfl) rfl #[.slice A0 l0.length c0] rfl (as_) ?_; (with_reducible refine (turn_read.calls k (fun k_ => k_ < w.heap.size) _ _ l0 t241 t244 t245 _ ?side1 A3.out).mono ?_); (case side1 => exact Kd.V_mk HC0.out (Kd.F_below (Kd.C_F (Kd.heap_int .i64) HR0.out) (bl_))); rintro e w11 ⟨v242, rfl, ho0, hb⟩; refine ⟨_, rfl, ?_⟩; have HO243 := Aside0.mk (Kd.V_lower (Kd.V_mono (ok' := fun k_ => True) ho0 (fun k_ hk_ => trivial)) (below_size (bl_))); replace HB := hb_ hb; clear hb ho0) | ((with_reducible refine gate_dst (N := 8) rfl ?_); refine be_ #[.slice none 0 0, .int .i64 0] 60 ?_; intro gb246 hg w12 hbox hb; replace HO243 := ve_ HO243 hg hb; have BK246 := Aside0.mk (hbox); have GW246 := gw_ hg; have GE246 := gw_ hg; replace HB := hb_ hb; clear hb hbox hg; obtain ⟨Ao13, co13, eo13⟩ := Kd.V_slice HO243.out; subst eo13; have hcz14_0 := bc_ BK246 0 (.slice none 0 0); have hcz14_1 := bc_ BK246 1 (.int .i64 0); have hfz14_0 := bz_ BK246 0; have hfz14_1 := bz_ BK246 1))
    go_ret2
    exact ⟨_, er_, by first | exact Kd.R_nil _ _ _ _ _ | exact Kd.N_nil _ _ _ _ _ | exact Kd.V_nil _ _ _ _ _ | exact Kd.Q_nil _ _ _ _ _ | exact Kd.S_nil _ _ _ _ _, bl_⟩
   ·rw [if_neg c10] at H
    have c10b0 : decide (400 < a1) = false := decide_eq_false c10
    clear c10
    have c15 : 0 ≤ (l0.length : Int) := fl_ fun c15 => by rw [if_neg c15] at H; exact absurd H (by simp)
    rw [if_pos c15] at H
    have c15b0 := eq_true c15
    have c15b1 : decide (0 ≤ (l0.length : Int)) = true := decide_eq_true c15
    clear c15
    have c16 : ((l0.length : Int) : Int).toNat ≤ 35184372088832 := fl_ fun c16 => by rw [if_neg c16] at H; exact absurd H (by simp)
    rw [if_pos c16] at H
    have c16b0 := eq_true c16
    have c16b1 : decide (((l0.length : Int) : Int).toNat ≤ 35184372088832) = true := decide_eq_true c16
    clear c16
    obtain ⟨y247, hy247⟩ : ∃ y_ : List Int, y_ = (List.replicate ((l0.length : Int) : Int).toNat 0) := ⟨_, rfl⟩
    replace H : (turn_called_F.l0 k y247 ([] : List Int) a1 0 t241 t244) = some (r1, r2) := by first | (rw [hy247]; with_reducible exact H) | (have H2_ := (Option.bind_some _ _).symm.trans H; rw [hy247]; with_reducible exact H2_) | (have H2_ := (Option.bind_some _ _).symm.trans H; with_reducible exact H2_) | with_reducible exact H | (rw [hy247]; exact H) | exact H
    have Ny247 := Aside0.mk hy247
    clear hy247
    have H' := Aside0.mk H
    clear H
    go_enter Tryd.func55, Tryd.ntmps55
    go_wp2_with (first | ((with_reducible refine gate_callee (f := 43) rfl ?_); refine goesL_ (some 16) rfl rfl Tryd.func43 (by kernel_rfl) rfl #[.slice A0 l0.length c0] rfl (as_) ?_; (with_reducible refine (turn_read.calls k (fun k_ => k_ < w.heap.size) _ _ l0 t241 t244 t245 _ ?side1 A3.out).mono ?_); (case side1 => exact Kd.V_mk HC0.out (Kd.F_below (Kd.C_F (Kd.heap_int .i64) HR0.out) (bl_))); rintro e w17 ⟨v242, rfl, ho0, hb⟩; refine ⟨_, rfl, ?_⟩; have HO243 := Aside0.mk (Kd.V_lower (Kd.V_mono (ok' := fun k_ => True) ho0 (fun k_ hk_ => trivial)) (below_size (bl_))); replace HB := hb_ hb; clear hb ho0) | ((with_reducible refine gate_dst (N := 8) rfl ?_); refine be_ #[.slice none 0 0, .int .i64 0] 60 ?_; intro gb246 hg w18 hbox hb; replace HO243 := ve_ HO243 hg hb; have BK246 := Aside0.mk (hbox); have GW246 := gw_ hg; have GE246 := gw_ hg; replace HB := hb_ hb; clear hb hbox hg; obtain ⟨Ao19, co19, eo19⟩ := Kd.V_slice HO243.out; subst eo19; have hcz20_0 := bc_ BK246 0 (.slice none 0 0); have hcz20_1 := bc_ BK246 1 (.int .i64 0); have hfz20_0 := bz_ BK246 0; have hfz20_1 := bz_ BK246 1) | ((with_reducible refine gate_dst (N := 32) rfl ?_); refine Kd.R_make (Kd.int .i64) _ 3 rfl (N := 32) rfl 22 _ _ rfl (l0.length : Int) rfl rfl Tryd.underlying22 (.int .i64 0) 8 info3 rfl (by decide) (by omega) 0 (ok := fun _ => True) (okp := fun _ => True) rfl (fun _ hk => hk) trivial (od_) (Nat.le_trans (Nat.mul_le_mul_right _ (od_ : (l0.length : Int).toNat ≤ 35184372088832)) (by omega)) (Below.refl _ _) (Nat.le_refl _) ?_; intro v248 w21 ho22 hb hg_ hnew_; clear hg_ hnew_; (first | rw [← Ny247.out] at ho22 | (simp only [Int.reduceToNat] at ho22; rw [← Ny247.out] at ho22)); replace HO243 := Aside0.mk (Kd.V_elder' (by refine kv_ ?_; exact (Kd.V_mono (Kd.V_far (p := ⟨gb246, 1, none⟩) (Kd.V_far (p := ⟨gb246, 0, none⟩) (Kd.V_mono HO243.out (fun k_ hk => (⟨hk, hk.2⟩ : _ ∧ k_ ≠ gb246))) (fun _ hk => hk.2) (.slice Ao19 t241.length co19)) (fun _ hk => hk.2) (.int .i64 t244)) (fun _ h_ => h_.1))) (Kd.R_base ho22) hb); have HO249 := rl_ ho22; replace BK246 := Aside0.mk (blk_below (g := gb246) (o := .cells #[.slice Ao19 t241.length co19, .int .i64 t244] 60 (0, 0)) (by refine bk_ ?_; refine blk_put (cs := #[.slice Ao19 t241.length co19, .int .i64 0]) ?_ 1 _ rfl; refine bk_ ?_; refine blk_put (cs := #[.slice none 0 0, .int .i64 0]) ?_ 0 _ rfl; refine bk_ ?_; exact BK246.out) hb); replace HB := hb_ hb; clear hb ho22))
    go_loopg [11, 34] k (fun kq v11 v34 w' => ∃ (x10_1 : List Int) (x11_1 : List Int) (x34_1 : Int), v34 = .int .i64 x34_1 ∧ Aside0 (turn_called_F.l0 kq x10_1 x11_1 a1 x34_1 t241 t244 = some (r1, r2)) ∧ Aside0 (kq ≤ k) ∧ Aside0 (Kd.R (Kd.int .i64) 3 w' w.heap.size (fun k_ => some k_ ≠ (v11 : Value).ownBlock) v248 x10_1) ∧ Aside0 (Kd.R (Kd.int .i64) 3 w' w.heap.size (fun k_ => some k_ ≠ (v248 : Value).ownBlock) v11 x11_1) ∧ Aside0 (Kd.V (Kd.int .i64) 3 w' w.heap.size (fun k_ => some k_ ≠ (v248 : Value).ownBlock ∧ some k_ ≠ (v11 : Value).ownBlock ∧ k_ ≠ gb246) (.slice Ao19 t241.length co19) t241) ∧ Aside0 (w'.heap[gb246]? = some (.cells #[(.slice Ao19 t241.length co19), .int .i64 t244] 60 (0, 0))) ∧ Aside0 (Below w.heap.size w w'))
    case atStart => exact ⟨(y247), (([] : List Int)), (0), rs_, H', ⟨Nat.le_refl _⟩, ⟨by refine kr_ ?_; exact Kd.R_mono HO249.out (fun _ hk => (by simp [Value.ownBlock]))⟩, ⟨by first | exact Kd.R_nil _ _ _ _ _ | exact Kd.N_nil _ _ _ _ _ | exact Kd.V_nil _ _ _ _ _ | exact Kd.Q_nil _ _ _ _ _ | exact Kd.S_nil _ _ _ _ _⟩, ⟨by refine kv_ ?_; exact Kd.V_mono HO243.out (fun _ hk => ⟨hk.2, ⟨(by simp [Value.ownBlock]), hk.1.2⟩⟩)⟩, ⟨bk_ BK246.out⟩, ⟨bl_⟩⟩
    case round =>
     clear H'
     try clear c1
     try clear p2
     try clear c4
     try clear c4b0
     try clear c4b1
     try clear c5
     try clear c5b0
     try clear c10
     try clear c10b0
     try clear c11
     try clear c15
     try clear c15b0
     try clear c15b1
     try clear c16
     try clear c16b0
     try clear c16b1
     try clear hcz14_0
     try clear hcz14_1
     try clear hcz20_0
     try clear hcz20_1
     try clear hcz9_0
     try clear hcz9_1
     try clear hfz14_0
     try clear hfz14_1
     try clear hfz20_0
     try clear hfz20_1
     try clear hfz9_0
     try clear hfz9_1
     obtain ⟨x10_1, x11_1, x34_1, rfl, HA, HK1, HO_10, HO_11, HO_247000, BK246, HB⟩ := hrel
     cases gk with
     | zero => exact absurd HA.out (by simp [turn_called_F.l0])
     | succ k1 =>
      have H := HA.out
      clear HA
      simp only [turn_called_F.l0] at H
      by_cases c23 : x34_1 < a1
      ·rw [if_pos c23] at H
       have c23b0 : decide (x34_1 < a1) = true := decide_eq_true c23
       clear c23
       obtain ⟨t250, A24, H⟩ := bi_ H
       replace H : (if 0 ≤ t250 then (if t250 < (x10_1.length : Int) then (if x11_1.length < 17592186044416 then (turn_called_F.l0 k1 (x10_1.set (t250 : Int).toNat (wrap64 ((rd x10_1 t250) + 1))) (x11_1 ++ [t250]) a1 (wrap64 (x34_1 + 1)) t241 t244) else (none)) else (none)) else (none)) = some (r1, r2) := H
       obtain ⟨c25b0, H⟩ := fp_ H
       obtain ⟨c26b0, H⟩ := fp_ H
       obtain ⟨y252, hy252⟩ : ∃ y_ : List Int, y_ = (x10_1.set (t250 : Int).toNat (wrap64 ((rd x10_1 t250) + 1))) := ⟨_, rfl⟩
       replace H : (if x11_1.length < 17592186044416 then (turn_called_F.l0 k1 y252 (x11_1 ++ [t250]) a1 (wrap64 (x34_1 + 1)) t241 t244) else (none)) = some (r1, r2) := by first | (rw [hy252]; with_reducible exact H) | (have H2_ := (Option.bind_some _ _).symm.trans H; rw [hy252]; with_reducible exact H2_) | (have H2_ := (Option.bind_some _ _).symm.trans H; with_reducible exact H2_) | with_reducible exact H | (rw [hy252]; exact H) | exact H
       have Ny252 := Aside0.mk hy252
       clear hy252
       have c28 : x11_1.length < 17592186044416 := fl_ fun c28 => by rw [if_neg c28] at H; exact absurd H (by simp)
       rw [if_pos c28] at H
       have LMc28 := Aside0.mk c28
       clear c28
       obtain ⟨y253, hy253⟩ : ∃ y_ : List Int, y_ = (x11_1 ++ [t250]) := ⟨_, rfl⟩
       replace H : (turn_called_F.l0 k1 y252 y253 a1 (wrap64 (x34_1 + 1)) t241 t244) = some (r1, r2) := by first | (rw [hy253]; with_reducible exact H) | (have H2_ := (Option.bind_some _ _).symm.trans H; rw [hy253]; with_reducible exact H2_) | (have H2_ := (Option.bind_some _ _).symm.trans H; with_reducible exact H2_) | with_reducible exact H | (rw [hy253]; exact H) | exact H
       have Ny253 := Aside0.mk hy253
       clear hy253
       have H' := Aside0.mk H
       clear H
       have hcz29_0 := bc_ BK246 0 (.slice Ao19 t241.length co19)
       have hcz29_1 := bc_ BK246 1 (.int .i64 t244)
       have hfz29_0 := bz_ BK246 0
       have hfz29_1 := bz_ BK246 1
       obtain ⟨Ao30, co30, eo30⟩ := Kd.R_slice HO_10.out
       subst eo30
       go_wp2_with (first | ((with_reducible refine gate_dst (N := 42) rfl ?_); refine goesF_ (some 42) rfl rfl rfl rfl Tryd.func56 (by kernel_rfl) rfl #[.agg #[.slice Ao19 t241.length co19, .int .i64 t244], .int .i64 (wrap64 (x34_1 + 1)), .slice Ao30 x10_1.length co30] (as_) ?_; (with_reducible refine (turn_Fair_1.calls k1 _ _ t241 t244 (wrap64 (x34_1 + 1)) _ _ x10_1 t250 _ ?side1 ?side2 ?side3 ?side4 A24.out).mono ?_); (case side1 => repeat (first | exact (Kd.V_reads' HO_247000.out).2.2 | (with_reducible refine Kd.C_alloc ?_ _) | (with_reducible refine Kd.C_drewN ?_ _) | (with_reducible refine Kd.C_drew ?_))); (case side2 => exact (Kd.V_reads' HO_247000.out).2.1); (case side3 => exact cr_ HO_10.out); (case side4 => exact (Kd.R_reads' HO_10.out).2.1); rintro e w31 ⟨rfl, hb⟩; refine ⟨_, rfl, ?_⟩; replace HO_10 := rb_ HO_10 hb; replace HO_11 := rb_ HO_11 hb; replace HO_247000 := Aside0.mk (Kd.V_below (kv_ HO_247000.out) hb); replace BK246 := bb_ BK246 hb; replace HB := hb_ hb; clear hb; obtain ⟨ad251, e251, hx251_0, p251, q251⟩ := ai_ (Kd.R_reads' HO_10.out).2.2 t250; cases e251; have p27 : 0 ≤ (t250 : Int) := od_; have q27 : (t250 : Int) < ((x10_1.length : Int) : Int) := od_; obtain ⟨go27, co27, eo27, gb27, gl27, cl27, HG27⟩ := Kd.R_form HO_10.out (by omega); (first | cases eo27 | (injection eo27 with ea_ en_ ec_; (first | subst ea_ | (injection ea_ with ea_; subst ea_)); subst ec_; clear en_)); have GB27 := Aside0.mk gb27; have GG27 := Aside0.mk HG27; clear gb27 gl27 HG27; (first | simp only [add_plain] at hx251_0 | skip); obtain ⟨hx27_0, hf27_0⟩ := Kd.R_celln 0 HO_10.out (t250 : Int) p27 q27; replace p27 := eq_true p27; replace q27 := eq_true q27; obtain ⟨hy32_, hz32_⟩ := Kd.R_celln 0 HO_10.out (t250 : Int) (od_) (od_); have HP32 := Kd.R_putg HO_10.out (t250 : Int) (wrap64 ((rd x10_1 t250) + 1))) | ((with_reducible refine gate_store (t := 3) (p := 48) rfl ?_); refine store_event (t := 3) (p := 48) (v := ?vo_w33) (w1 := (w31.setCell ⟨go27, (t250 : Int).toNat, none⟩ (.int .i64 (wrap64 ((rd x10_1 t250) + 1))))) ?hg ?ho ?hn ?hr ?_; (case ho => rfl); (case hg => rfl); (case hn => rfl); (case hr => first | (go_simp; done) | (go_simp; rfl)); intro w33 hw; have hg : w31.grownBy w33 (some go27) := (by rw [hw]; exact HP32.2); have hp_ : Kd.R (Kd.int .i64) 3 w33 w.heap.size (fun k_ => some k_ ≠ (u11 : Value).ownBlock) (.slice (some ⟨go27, 0, none⟩) x10_1.length co30) y252 := (by rw [hw, Ny252.out]; exact HP32.1); clear HP32; replace HO_11 := Aside0.mk (Kd.R_after (v := (.slice (some ⟨go27, 0, none⟩) x10_1.length co30)) (v1 := (.slice (some ⟨go27, 0, none⟩) x10_1.length co30)) (ok := (fun _ => True)) (by refine kr_ ?_; exact Kd.R_mono HO_11.out (fun _ hk => ⟨trivial, hk⟩)) hg (.inl rfl)); replace HO_247000 := Aside0.mk (Kd.V_afterv (v := (.slice (some ⟨go27, 0, none⟩) x10_1.length co30)) (v1 := (.slice (some ⟨go27, 0, none⟩) x10_1.length co30)) (ok := (fun k_ => some k_ ≠ (u11 : Value).ownBlock ∧ k_ ≠ gb246)) (by refine kv_ ?_; exact Kd.V_mono HO_247000.out (fun _ hk => ⟨⟨hk.2.1, hk.2.2⟩, hk.1⟩)) hg (.inl rfl)); replace BK246 := Aside0.mk (blk_grown (g := gb246) (o := .cells #[.slice Ao19 t241.length co19, .int .i64 t244] 60 (0, 0)) (bk_ BK246.out) hg (Kd.R_ne HO_10.out BK246.out (by decide))); replace HO_10 := Aside0.mk (hp_); replace HB := Aside0.mk ((by rw [hw]; exact below_set (HB.out) GB27.out : Below w.heap.size w w33)); clear hg hw hp_) | ((with_reducible refine gate_builtin (b := .append) (xs := #[.tmp 49, .tmp 51]) rfl ?_); at_builtin; refine Kd.R_append (Kd.int .i64) (w0 := w) w.heap.size rfl (.tmp 49) (.tmp 51) 22 3 (.int .i64 0) 8 rfl Tryd.underlying22 info3 rfl (by decide) (by omega) u11 x11_1 t250 [.int .i64 t250] (fun k_ => some k_ ≠ (.slice (some ⟨go27, 0, none⟩) x10_1.length co30 : Value).ownBlock) (fun _ => False) rfl rfl ?aP (fun _ hk => hk.elim) ?aF ?aO ?aB ?aS ?aL ?_; (case aP => exact rfl); (case aB => exact (bl_)); (case aF => exact (fun k_ hk => Kd.fresh' (Kd.R_lt (kr_ HO_10.out)) k_ hk)); (case aO => exact (by refine kr_ ?_; exact Kd.R_mono HO_11.out (fun _ hk => hk.2))); (case aS => exact (below_size (bl_))); (case aL => have := LMc28.out; omega); intro v254 w34 ho hb hg hat; rw [← Ny253.out] at ho; replace HO_10 := Aside0.mk (Kd.R_after (ok := (fun _ => True)) (by refine kr_ ?_; exact Kd.R_mono HO_10.out (fun _ hk => ⟨trivial, hk⟩)) hg hat); replace HO_247000 := Aside0.mk (Kd.V_afterv (ok := (fun k_ => some k_ ≠ (.slice (some ⟨go27, 0, none⟩) x10_1.length co30 : Value).ownBlock ∧ k_ ≠ gb246)) (by refine kv_ ?_; exact Kd.V_mono HO_247000.out (fun _ hk => ⟨⟨hk.2, hk.1.2⟩, hk.1.1⟩)) hg hat); replace BK246 := Aside0.mk (blk_grown (g := gb246) (o := .cells #[.slice Ao19 t241.length co19, .int .i64 t244] 60 (0, 0)) (bk_ BK246.out) hg (Kd.R_ne HO_11.out BK246.out (by decide))); replace HB := Aside0.mk (hb); have HO255 := Aside0.mk (ho); clear HO_11; clear ho hb hg hat))
       go_roundg k1
       case measure => have := HK1.out; omega
       case rel => exact ⟨(y252), (y253), (wrap64 (x34_1 + 1)), rs_, H', ⟨by have := HK1.out; omega⟩, ⟨by refine kr_ ?_; exact Kd.R_mono HO_10.out (fun _ hk => hk.2)⟩, ⟨kr_ HO255.out⟩, ⟨by refine kv_ ?_; exact Kd.V_mono HO_247000.out (fun _ hk => ⟨hk.1.1, ⟨hk.2, hk.1.2⟩⟩)⟩, ⟨bk_ BK246.out⟩, ⟨bl_⟩⟩
      ·rw [if_neg c23] at H
       have c23b0 : decide (x34_1 < a1) = false := decide_eq_false c23
       clear c23
       simp only [Option.some.injEq, Prod.mk.injEq] at H
       obtain ⟨rfl, rfl⟩ := H
       go_wp2
       go_ret2
       exact ⟨_, er_, by refine kr_ ?_; exact Kd.R_mono HO_11.out (fun _ hk => trivial), bl_⟩
 ·rw [if_neg c4] at H
  have c4b0 : (t245 == 0) = false := beq_eq_false_iff_ne.mpr c4
  have c4b1 : (t245 != 0) = true := bne_iff_ne.mpr c4
  simp only [Option.some.injEq, Prod.mk.injEq] at H
  obtain ⟨rfl, rfl⟩ := H
  go_enter Tryd.func55, Tryd.ntmps55
  go_wp2_with (first | ((with_reducible refine gate_callee (f := 43) rfl ?_); refine goesL_ (some 16) rfl rfl Tryd.func43 (by kernel_rfl) rfl #[.slice A0 l0.length c0] rfl (as_) ?_; (with_reducible refine (turn_read.calls k (fun k_ => k_ < w.heap.size) _ _ l0 t241 t244 t245 _ ?side1 A3.out).mono ?_); (case side1 => exact Kd.V_mk HC0.out (Kd.F_below (Kd.C_F (Kd.heap_int .i64) HR0.out) (bl_))); rintro e w35 ⟨v242, rfl, ho0, hb⟩; refine ⟨_, rfl, ?_⟩; have HO243 := Aside0.mk (Kd.V_lower (Kd.V_mono (ok' := fun k_ => True) ho0 (fun k_ hk_ => trivial)) (below_size (bl_))); replace HB := hb_ hb; clear hb ho0) | ((with_reducible refine gate_dst (N := 8) rfl ?_); refine be_ #[.slice none 0 0, .int .i64 0] 60 ?_; intro gb246 hg w36 hbox hb; replace HO243 := ve_ HO243 hg hb; have BK246 := Aside0.mk (hbox); have GW246 := gw_ hg; have GE246 := gw_ hg; replace HB := hb_ hb; clear hb hbox hg; obtain ⟨Ao37, co37, eo37⟩ := Kd.V_slice HO243.out; subst eo37; have hcz38_0 := bc_ BK246 0 (.slice none 0 0); have hcz38_1 := bc_ BK246 1 (.int .i64 0); have hfz38_0 := bz_ BK246 0; have hfz38_1 := bz_ BK246 1))
  go_ret2
  exact ⟨_, er_, by first | exact Kd.R_nil _ _ _ _ _ | exact Kd.N_nil _ _ _ _ _ | exact Kd.V_nil _ _ _ _ _ | exact Kd.Q_nil _ _ _ _ _ | exact Kd.S_nil _ _ _ _ _, bl_⟩

/-! ### turn_Fair: function 31 -/
def turn_Fair.f (k : Nat) (l0 : List Int) (a1 : Int) : Option (List Int × Int) := (turn_called_F.f k l0 a1).bind fun bt256 => (some (bt256.1, bt256.2))
theorem turn_Fair.mono : ∀ a0 a1 k, LeO (turn_Fair.f k a0 a1) (turn_Fair.f (k + 1) a0 a1) := by
  intro a0 a1 k
  unfold turn_Fair.f
  with_reducible repeat' first | exact turn_called_F.mono _ _ _ | exact LeO.refl _ | exact LeO.none _ | refine LeO.ite ?_ ?_ | refine LeO.bind ?_ (fun _ => ?_)
set_option maxHeartbeats 8000000 in
set_option maxRecDepth 100000 in
theorem turn_Fair.calls (k : Nat) (A0 : Option Addr) (c0 : Nat) (l0 : List Int) (a1 : Int) (r1 : List Int) (r2 : Int) (w : World) (hr0 : Kd.C (Kd.int .i64) w A0 l0.length l0) (hc0 : l0.length ≤ c0) (h : turn_Fair.f k l0 a1 = some (r1, r2)) :
    Calls Tryd.prog 31 #[.slice A0 l0.length c0, .int .i64 a1] w fun e w' => ∃ v0_ : Value, e = .returned (.tuple #[v0_, .int .i64 r2]) ∧ Kd.R (Kd.int .i64) 3 w' w.heap.size (fun _ => True) v0_ r1 ∧ Below w.heap.size w w' := by
 have HR0 := Aside0.mk hr0
 have HC0 := Aside0.mk hc0
 clear hr0 hc0
 have HB := Aside0.mk (Below.refl w.heap.size w)
 have H : ((turn_called_F.f k l0 a1).bind fun bt256 => (some (bt256.1, bt256.2))) = some (r1, r2) := h
 clear h
 obtain ⟨⟨t256, t257⟩, A3, H⟩ := bi_ H
 replace H : (some (t256, t257)) = some (r1, r2) := H
 simp only [Option.some.injEq, Prod.mk.injEq] at H
 obtain ⟨rfl, rfl⟩ := H
 go_enter Tryd.func31, Tryd.ntmps31
 go_wp2_with (first | ((with_reducible refine gate_callee (f := 55) rfl ?_); refine goesL_ (some 8) rfl rfl Tryd.func55 (by kernel_rfl) rfl #[.slice A0 l0.length c0, .int .i64 a1, .func (.func 56) #[] #[]] rfl (as_) ?_; (with_reducible refine (turn_called_F.calls k _ _ l0 a1 t256 t257 _ ?side1 ?side2 A3.out).mono ?_); (case side1 => repeat (first | exact HR0.out | (with_reducible refine Kd.C_alloc ?_ _) | (with_reducible refine Kd.C_drewN ?_ _) | (with_reducible refine Kd.C_drew ?_))); (case side2 => exact HC0.out); rintro e w4 ⟨v258, rfl, ho0, hb⟩; refine ⟨_, rfl, ?_⟩; have HO259 := rl_ ho0; replace HB := hb_ hb; clear hb ho0))
 go_ret2
 exact ⟨_, er_, by refine kr_ ?_; exact HO259.out, bl_⟩

end Go.Proofs.YtgobffgogmnmpaaDoor.P
