-- Written by wip/tools/myprint.py of this session's repo, over the kit's printer and hand texts.
import Derived.Test.YtgobffgogmnmpaaDoorPx0
import Derived.Test.YtgobffgogmnmpaaDoorPre
import Derived.Test.YtgobffgogmnmpaaDoorPx4
import Derived.Test.YtgobffgogmnmpaaDoorPx5
import Derived.Test.YtgobffgogmnmpaaDoorPx28
namespace Go.Proofs.YtgobffgogmnmpaaDoor.P
open Go.RowKit Go.Proofs.YtgobffgogmnmpaaDoorW.PrintWords Go.Proofs.YtgobffgogmnmpaaDoorW.PrintLast Go.Proofs.YtgobffgogmnmpaaDoorW.PrintMore
attribute [local go_sem] max2_int min2_int max_two min_two max_three min_three max_four min_four   -- for this text's walks alone
set_option linter.unusedVariables false
set_option linter.unusedSimpArgs false

/-! ### turn_Feasible: function 37 -/
def turn_Feasible.f (k : Nat) (l0 : List Int) (a1_0 : Int) (a1_1 : Int) : Option (Bool × Int) := (turn_bounded.f k l0 a1_0 a1_1).bind fun bt762 => (if bt762.2.2 = 0 then ((turn_table_feasible.f k bt762.1 bt762.2.1 a1_0 a1_1).bind fun t768 => (some (t768, 0))) else (some (false, bt762.2.2)))
theorem turn_Feasible.mono : ∀ a0 a1 a2 k, LeO (turn_Feasible.f k a0 a1 a2) (turn_Feasible.f (k + 1) a0 a1 a2) := by
  intro a0 a1 a2 k
  unfold turn_Feasible.f
  repeat' first
      | (with_reducible exact turn_bounded.mono _ _ _ _)
      | (with_reducible exact turn_table_feasible.mono _ _ _ _ _)
      | (with_reducible exact LeO.refl _)
      | (with_reducible exact LeO.none _)
      | (with_reducible refine LeO.ite ?_ ?_)
      | (with_reducible refine LeO.bind ?_ (fun _ => ?_))
      | exact turn_bounded.mono _ _ _ _
      | exact turn_table_feasible.mono _ _ _ _ _
      | exact LeO.none _
      | refine LeO.ite ?_ ?_
      | refine LeO.bind ?_ (fun _ => ?_)
set_option maxHeartbeats 8000000 in
set_option maxRecDepth 100000 in
theorem turn_Feasible.calls (k : Nat) (A0 : Option Addr) (c0 : Nat) (l0 : List Int) (a1_0 : Int) (a1_1 : Int) (r1 : Bool) (r2 : Int) (w : World) (hr0 : Kd.C (Kd.int .i64) w A0 l0.length l0) (hc0 : l0.length ≤ c0) (h : turn_Feasible.f k l0 a1_0 a1_1 = some (r1, r2)) (hN0 : NoneLaid w) :
    Calls Tryd.prog 37 #[.slice A0 l0.length c0, .agg #[.int .i64 a1_0, .int .i64 a1_1]] w fun e w' => e = .returned (.tuple #[.bool r1, .int .i64 r2]) ∧ Below w.heap.size w w' := by
 have HN := Aside0.mk hN0
 clear hN0
 have hu26 := Tryd.underlying26
 have hu60 := Tryd.underlying60
 have HR0 := Aside0.mk hr0
 have HC0 := Aside0.mk hc0
 clear hr0 hc0
 have HB := Aside0.mk (Below.refl w.heap.size w)
 have H : ((turn_bounded.f k l0 a1_0 a1_1).bind fun bt762 => (if bt762.2.2 = 0 then ((turn_table_feasible.f k bt762.1 bt762.2.1 a1_0 a1_1).bind fun t768 => (some (t768, 0))) else (some (false, bt762.2.2)))) = some (r1, r2) := h
 clear h
 replace H := Option.bind_eq_some_iff.mp H
 obtain ⟨⟨t762, t765, t766⟩, A30, H⟩ := H
 replace H : (if t766 = 0 then ((turn_table_feasible.f k t762 t765 a1_0 a1_1).bind fun t768 => (some (t768, 0))) else (some (false, t766))) = some (r1, r2) := H
 have A3 := Aside0.mk A30
 clear A30
 by_cases c4 : t766 = 0
 ·rw [if_pos c4] at H
  have c4b0 : (t766 == 0) = true := beq_iff_eq.mpr c4
  have c4b1 : (t766 != 0) = false := bne_eq_false_iff_eq.mpr c4
  clear c4
  replace H := Option.bind_eq_some_iff.mp H
  obtain ⟨t768, A50, H⟩ := H
  replace H : (some (t768, 0)) = some (r1, r2) := H
  have A5 := Aside0.mk A50
  clear A50
  simp only [Option.some.injEq, Prod.mk.injEq] at H
  obtain ⟨rfl, rfl⟩ := H
  go_enter Tryd.func37, Tryd.ntmps37
  go_wp2_with (first | ((with_reducible refine gate_dst (N := 3) rfl ?_); refine box_event ?hg (N := 3) ?hd (cs := #[.int .i64 a1_0, .int .i64 a1_1]) (t := 26) ?hr ?_; (case hd => rfl); (case hg => rfl); (case hr => first | (go_simp; done) | (go_simp; rfl)); intro gb761 hg w6 hbox hb; have n0_ := Aside0.mk (below_step (bl_) hb); have n1_ := Aside0.mk (hbox); have n2_ := Aside0.mk ((by rw [hg]; exact (below_size (bl_)) : w.heap.size ≤ gb761)); have n3_ := Aside0.mk ((by rw [hg]; exact (below_size (bl_)) : w.heap.size ≤ gb761)); clear HB; have HB := n0_; have BK761 := n1_; have GW761 := n2_; have GE761 := n3_; clear n0_ n1_ n2_ n3_; clear hb hbox hg; have hcz7_0 : w6.cell? ⟨gb761, 0, none⟩ = some (.int .i64 a1_0) := (blk_cell BK761.out 0).trans rfl; have hcz7_1 : w6.cell? ⟨gb761, 1, none⟩ = some (.int .i64 a1_1) := (blk_cell BK761.out 1).trans rfl; have hfz7_0 := blk_frozen BK761.out 0; have hfz7_1 := blk_frozen BK761.out 1) | ((with_reducible refine gate_callee (f := 61) rfl ?_); refine goesL_ (some 11) rfl rfl Tryd.func61 (by kernel_rfl) rfl #[.slice A0 l0.length c0, .agg #[.int .i64 a1_0, .int .i64 a1_1]] rfl (as_) ?_; (with_reducible refine (turn_bounded.calls k (fun k_ => k_ < w.heap.size) _ _ l0 a1_0 a1_1 t762 t765 t766 _ ?side1 A3.out).mono ?_); (case side1 => exact Kd.V_mk HC0.out (Kd.F_below (Kd.C_F (Kd.heap_int .i64) HR0.out) (bl_))); rintro e w8 ⟨v763, rfl, ho0, hb⟩; refine ⟨_, rfl, ?_⟩; have n0_ := Aside0.mk (Kd.V_lower (Kd.V_mono (ok' := fun k_ => k_ ≠ gb761) ho0 (fun k_ hk_ => Or.elim hk_ (fun hs_ => fun e_ => Nat.not_le.2 hs_ (by rw [e_]; exact GW761.out)) (fun hn_ => (Kd.freshB (g := gb761) (o := .cells #[.int .i64 a1_0, .int .i64 a1_1] 26 (0, 0)) (bk_ BK761.out) k_ hn_)))) (below_size (bl_))); have n1_ := Aside0.mk (blk_below (g := gb761) (o := .cells #[.int .i64 a1_0, .int .i64 a1_1] 26 (0, 0)) (bk_ BK761.out) hb); have n2_ := Aside0.mk (below_step (bl_) hb); clear BK761; clear HB; have HO764 := n0_; have BK761 := n1_; have HB := n2_; clear n0_ n1_ n2_; (try clear hb); (try clear hb2); (try clear hk); (try clear hi); (try clear ho0)) | ((with_reducible refine gate_dst (N := 6) rfl ?_); refine box_event ?hg (N := 6) ?hd (cs := #[.slice none 0 0, .int .i64 0]) (t := 60) ?hr ?_; (case hd => rfl); (case hg => rfl); (case hr => first | (go_simp; done) | (go_simp; rfl)); intro gb767 hg w9 hbox hb; have n0_ := Aside0.mk (Kd.V_below (Kd.V_elderB (kv_ HO764.out) gb767 (Nat.le_of_eq hg.symm)) hb); have n1_ := Aside0.mk (blk_below (g := gb761) (o := .cells #[.int .i64 a1_0, .int .i64 a1_1] 26 (0, 0)) (bk_ BK761.out) hb); have n2_ := Aside0.mk (below_step (bl_) hb); have n3_ := Aside0.mk (hbox); have n4_ := Aside0.mk ((by rw [hg]; exact (below_size (bl_)) : w.heap.size ≤ gb767)); have n5_ := Aside0.mk ((by rw [hg]; exact (below_size (bl_)) : w.heap.size ≤ gb767)); have n6_ := Aside0.mk ((by rw [hg]; exact Nat.ne_of_lt (blk_lt (g := gb761) (o := .cells #[.int .i64 a1_0, .int .i64 a1_1] 26 (0, 0)) (bk_ BK761.out)) : gb761 ≠ gb767)); have n7_ := Aside0.mk ((by rw [hg]; exact Nat.ne_of_gt (blk_lt (g := gb761) (o := .cells #[.int .i64 a1_0, .int .i64 a1_1] 26 (0, 0)) (bk_ BK761.out)) : gb767 ≠ gb761)); clear HO764; clear BK761; clear HB; have HO764 := n0_; have BK761 := n1_; have HB := n2_; have BK767 := n3_; have GW767 := n4_; have GE767 := n5_; have NB761_767 := n6_; have NB767_761 := n7_; clear n0_ n1_ n2_ n3_ n4_ n5_ n6_ n7_; clear hb hbox hg; obtain ⟨Ao10, co10, eo10⟩ := Kd.V_slice HO764.out; subst eo10; have hnb11 := NB767_761.out; have hnc11 := NB761_767.out; have hcz12_0 : w9.cell? ⟨gb767, 0, none⟩ = some (.slice none 0 0) := (blk_cell BK767.out 0).trans rfl; have hcz12_1 : w9.cell? ⟨gb767, 1, none⟩ = some (.int .i64 0) := (blk_cell BK767.out 1).trans rfl; have hfz12_0 := blk_frozen BK767.out 0; have hfz12_1 := blk_frozen BK767.out 1; have hcz13_0 : w9.cell? ⟨gb761, 0, none⟩ = some (.int .i64 a1_0) := (blk_cell BK761.out 0).trans rfl; have hcz13_1 : w9.cell? ⟨gb761, 1, none⟩ = some (.int .i64 a1_1) := (blk_cell BK761.out 1).trans rfl; have hfz13_0 := blk_frozen BK761.out 0; have hfz13_1 := blk_frozen BK761.out 1) | ((with_reducible refine gate_callee (f := 62) rfl ?_); refine goesL_ (some 19) rfl rfl Tryd.func62 (by kernel_rfl) rfl #[.agg #[.slice Ao10 t762.length co10, .int .i64 t765], .agg #[.int .i64 a1_0, .int .i64 a1_1]] rfl (as_) ?_; (with_reducible refine (turn_table_feasible.calls k _ _ t762 t765 a1_0 a1_1 t768 _ ?side1 ?side2 A5.out (HN.out.of (bl_))).mono ?_); (case side1 => refine (Kd.V_reads' (e := 3) (base := w.heap.size) (ok := fun k_ => (k_ ≠ gb761 ∧ k_ ≠ gb767)) (n := t762.length) (c := co10) ?_).2.2; exact (by (with_reducible repeat (first | apply Kd.V_alloc | apply Kd.V_drewN | apply Kd.V_drew)); exact (Kd.V_mono (Kd.V_far (p := ⟨gb767, 1, none⟩) (Kd.V_far (p := ⟨gb767, 0, none⟩) (Kd.V_mono HO764.out (fun k_ hk => (⟨hk, hk.2⟩ : _ ∧ k_ ≠ gb767))) (fun _ hk => hk.2) (.slice Ao10 t762.length co10)) (fun _ hk => hk.2) (.int .i64 t765)) (fun _ h_ => h_.1)))); (case side2 => exact (Kd.V_reads' HO764.out).2.1); rintro e w14 ⟨rfl, hb⟩; refine ⟨_, rfl, ?_⟩; have n0_ := Aside0.mk (Kd.V_below (by (with_reducible repeat (first | apply Kd.V_alloc | apply Kd.V_drewN | apply Kd.V_drew)); exact (Kd.V_mono (Kd.V_far (p := ⟨gb767, 1, none⟩) (Kd.V_far (p := ⟨gb767, 0, none⟩) (Kd.V_mono HO764.out (fun k_ hk => (⟨hk, hk.2⟩ : _ ∧ k_ ≠ gb767))) (fun _ hk => hk.2) (.slice Ao10 t762.length co10)) (fun _ hk => hk.2) (.int .i64 t765)) (fun _ h_ => h_.1))) hb); have n1_ := Aside0.mk (blk_below (g := gb761) (o := .cells #[.int .i64 a1_0, .int .i64 a1_1] 26 (0, 0)) (by (with_reducible repeat (first | refine blk_drewN ?_ _ | refine blk_drew ?_ | refine blk_alloc ?_ _)); refine blk_far ?_ NB761_767.out _; (with_reducible repeat (first | refine blk_drewN ?_ _ | refine blk_drew ?_ | refine blk_alloc ?_ _)); refine blk_far ?_ NB761_767.out _; (with_reducible repeat (first | refine blk_drewN ?_ _ | refine blk_drew ?_ | refine blk_alloc ?_ _)); exact BK761.out) hb); have n2_ := Aside0.mk (blk_below (g := gb767) (o := .cells #[.slice Ao10 t762.length co10, .int .i64 t765] 60 (0, 0)) (by (with_reducible repeat (first | refine blk_drewN ?_ _ | refine blk_drew ?_ | refine blk_alloc ?_ _)); refine blk_put (cs := #[.slice Ao10 t762.length co10, .int .i64 0]) ?_ 1 _ rfl; (with_reducible repeat (first | refine blk_drewN ?_ _ | refine blk_drew ?_ | refine blk_alloc ?_ _)); refine blk_put (cs := #[.slice none 0 0, .int .i64 0]) ?_ 0 _ rfl; (with_reducible repeat (first | refine blk_drewN ?_ _ | refine blk_drew ?_ | refine blk_alloc ?_ _)); exact BK767.out) hb); have n3_ := Aside0.mk (below_step (bl_) hb); clear HO764; clear BK761; clear BK767; clear HB; have HO764 := n0_; have BK761 := n1_; have BK767 := n2_; have HB := n3_; clear n0_ n1_ n2_ n3_; (try clear hb); (try clear hb2); (try clear hk); (try clear hi)))
  go_ret2
  exact ⟨by first | rfl | (simp [errW_none, errW_some] <;> rfl) | (simp [*, errW_none, errW_some] <;> rfl), bl_⟩
 ·rw [if_neg c4] at H
  have c4b0 : (t766 == 0) = false := beq_eq_false_iff_ne.mpr c4
  have c4b1 : (t766 != 0) = true := bne_iff_ne.mpr c4
  simp only [Option.some.injEq, Prod.mk.injEq] at H
  obtain ⟨rfl, rfl⟩ := H
  go_enter Tryd.func37, Tryd.ntmps37
  go_wp2_with (first | ((with_reducible refine gate_dst (N := 3) rfl ?_); refine box_event ?hg (N := 3) ?hd (cs := #[.int .i64 a1_0, .int .i64 a1_1]) (t := 26) ?hr ?_; (case hd => rfl); (case hg => rfl); (case hr => first | (go_simp; done) | (go_simp; rfl)); intro gb761 hg w15 hbox hb; have n0_ := Aside0.mk (below_step (bl_) hb); have n1_ := Aside0.mk (hbox); have n2_ := Aside0.mk ((by rw [hg]; exact (below_size (bl_)) : w.heap.size ≤ gb761)); have n3_ := Aside0.mk ((by rw [hg]; exact (below_size (bl_)) : w.heap.size ≤ gb761)); clear HB; have HB := n0_; have BK761 := n1_; have GW761 := n2_; have GE761 := n3_; clear n0_ n1_ n2_ n3_; clear hb hbox hg; have hcz16_0 : w15.cell? ⟨gb761, 0, none⟩ = some (.int .i64 a1_0) := (blk_cell BK761.out 0).trans rfl; have hcz16_1 : w15.cell? ⟨gb761, 1, none⟩ = some (.int .i64 a1_1) := (blk_cell BK761.out 1).trans rfl; have hfz16_0 := blk_frozen BK761.out 0; have hfz16_1 := blk_frozen BK761.out 1) | ((with_reducible refine gate_callee (f := 61) rfl ?_); refine goesL_ (some 11) rfl rfl Tryd.func61 (by kernel_rfl) rfl #[.slice A0 l0.length c0, .agg #[.int .i64 a1_0, .int .i64 a1_1]] rfl (as_) ?_; (with_reducible refine (turn_bounded.calls k (fun k_ => k_ < w.heap.size) _ _ l0 a1_0 a1_1 t762 t765 t766 _ ?side1 A3.out).mono ?_); (case side1 => exact Kd.V_mk HC0.out (Kd.F_below (Kd.C_F (Kd.heap_int .i64) HR0.out) (bl_))); rintro e w17 ⟨v763, rfl, ho0, hb⟩; refine ⟨_, rfl, ?_⟩; have n0_ := Aside0.mk (Kd.V_lower (Kd.V_mono (ok' := fun k_ => k_ ≠ gb761) ho0 (fun k_ hk_ => Or.elim hk_ (fun hs_ => fun e_ => Nat.not_le.2 hs_ (by rw [e_]; exact GW761.out)) (fun hn_ => (Kd.freshB (g := gb761) (o := .cells #[.int .i64 a1_0, .int .i64 a1_1] 26 (0, 0)) (bk_ BK761.out) k_ hn_)))) (below_size (bl_))); have n1_ := Aside0.mk (blk_below (g := gb761) (o := .cells #[.int .i64 a1_0, .int .i64 a1_1] 26 (0, 0)) (bk_ BK761.out) hb); have n2_ := Aside0.mk (below_step (bl_) hb); clear BK761; clear HB; have HO764 := n0_; have BK761 := n1_; have HB := n2_; clear n0_ n1_ n2_; (try clear hb); (try clear hb2); (try clear hk); (try clear hi); (try clear ho0)) | ((with_reducible refine gate_dst (N := 6) rfl ?_); refine box_event ?hg (N := 6) ?hd (cs := #[.slice none 0 0, .int .i64 0]) (t := 60) ?hr ?_; (case hd => rfl); (case hg => rfl); (case hr => first | (go_simp; done) | (go_simp; rfl)); intro gb767 hg w18 hbox hb; have n0_ := Aside0.mk (Kd.V_below (Kd.V_elderB (kv_ HO764.out) gb767 (Nat.le_of_eq hg.symm)) hb); have n1_ := Aside0.mk (blk_below (g := gb761) (o := .cells #[.int .i64 a1_0, .int .i64 a1_1] 26 (0, 0)) (bk_ BK761.out) hb); have n2_ := Aside0.mk (below_step (bl_) hb); have n3_ := Aside0.mk (hbox); have n4_ := Aside0.mk ((by rw [hg]; exact (below_size (bl_)) : w.heap.size ≤ gb767)); have n5_ := Aside0.mk ((by rw [hg]; exact (below_size (bl_)) : w.heap.size ≤ gb767)); have n6_ := Aside0.mk ((by rw [hg]; exact Nat.ne_of_lt (blk_lt (g := gb761) (o := .cells #[.int .i64 a1_0, .int .i64 a1_1] 26 (0, 0)) (bk_ BK761.out)) : gb761 ≠ gb767)); have n7_ := Aside0.mk ((by rw [hg]; exact Nat.ne_of_gt (blk_lt (g := gb761) (o := .cells #[.int .i64 a1_0, .int .i64 a1_1] 26 (0, 0)) (bk_ BK761.out)) : gb767 ≠ gb761)); clear HO764; clear BK761; clear HB; have HO764 := n0_; have BK761 := n1_; have HB := n2_; have BK767 := n3_; have GW767 := n4_; have GE767 := n5_; have NB761_767 := n6_; have NB767_761 := n7_; clear n0_ n1_ n2_ n3_ n4_ n5_ n6_ n7_; clear hb hbox hg; obtain ⟨Ao19, co19, eo19⟩ := Kd.V_slice HO764.out; subst eo19; have hnb20 := NB767_761.out; have hnc20 := NB761_767.out; have hcz21_0 : w18.cell? ⟨gb767, 0, none⟩ = some (.slice none 0 0) := (blk_cell BK767.out 0).trans rfl; have hcz21_1 : w18.cell? ⟨gb767, 1, none⟩ = some (.int .i64 0) := (blk_cell BK767.out 1).trans rfl; have hfz21_0 := blk_frozen BK767.out 0; have hfz21_1 := blk_frozen BK767.out 1))
  go_ret2
  exact ⟨by first | rfl | (simp [errW_none, errW_some] <;> rfl) | (simp [*, errW_none, errW_some] <;> rfl), bl_⟩

end Go.Proofs.YtgobffgogmnmpaaDoor.P
