-- Written by wip/tools/myprint.py of this session's repo, over the kit's printer and hand texts.
import Derived.Test.YtgobffgogmnmpaaDoorPx0
import Derived.Test.YtgobffgogmnmpaaDoorPre
import Derived.Test.YtgobffgogmnmpaaDoorPx4
import Derived.Test.YtgobffgogmnmpaaDoorPx5
import Derived.Test.YtgobffgogmnmpaaDoorPx28
namespace Go.Proofs.YtgobffgogmnmpaaDoor.P
open Go.RowKit Go.Proofs.YtgobffgogmnmpaaDoorW.PrintWords Go.Proofs.YtgobffgogmnmpaaDoorW.PrintLast Go.Proofs.YtgobffgogmnmpaaDoorW.PrintMore
attribute [local go_sem] max2_int min2_int max_two min_two max_three min_three max_four min_four   -- for this text's walks alone
set_option linter.unusedVariables false
set_option linter.unusedSimpArgs false

/-! ### turn_Feasible: function 37 -/
def turn_Feasible.f (k : Nat) (l0 : List Int) (a1_0 : Int) (a1_1 : Int) : Option (Bool × Int) := (turn_bounded.f k l0 a1_0 a1_1).bind fun bt762 => (if bt762.2.2 = 0 then ((turn_table_feasible.f k bt762.1 bt762.2.1 a1_0 a1_1).bind fun t768 => (some (t768, 0))) else (some (false, bt762.2.2)))
set_option maxHeartbeats 8000000 in
set_option maxRecDepth 100000 in
theorem turn_Feasible.calls (k : Nat) (A0 : Option Addr) (c0 : Nat) (l0 : List Int) (a1_0 : Int) (a1_1 : Int) (r1 : Bool) (r2 : Int) (w : World) (hr0 : Kd.C (Kd.int .i64) w A0 l0.length l0) (hc0 : l0.length ≤ c0) (h : turn_Feasible.f k l0 a1_0 a1_1 = some (r1, r2)) (hN0 : NoneLaid w) :
    Calls Tryd.prog 37 #[.slice A0 l0.length c0, .agg #[.int .i64 a1_0, .int .i64 a1_1]] w fun e w' => e = .returned (.tuple #[.bool r1, .int .i64 r2]) ∧ Below w.heap.size w w' := by
 have HN := Aside0.mk hN0
 clear hN0
 have hu26 := Tryd.underlying26
 have hu60 := Tryd.underlying60
 have HR0 := Aside0.mk hr0
 have HC0 := Aside0.mk hc0
 clear hr0 hc0
 have HB := Aside0.mk (Below.refl w.heap.size w)
 have H : ((turn_bounded.f k l0 a1_0 a1_1).bind fun bt762 => (if bt762.2.2 = 0 then ((turn_table_feasible.f k bt762.1 bt762.2.1 a1_0 a1_1).bind fun t768 => (some (t768, 0))) else (some (false, bt762.2.2)))) = some (r1, r2) := h
 clear h
 obtain ⟨⟨t762, t765, t766⟩, A3, H⟩ := bi_ H
 replace H : (if t766 = 0 then ((turn_table_feasible.f k t762 t765 a1_0 a1_1).bind fun t768 => (some (t768, 0))) else (some (false, t766))) = some (r1, r2) := H
 by_cases c4 : t766 = 0
 ·rw [if_pos c4] at H
  have c4b0 : (t766 == 0) = true := beq_iff_eq.mpr c4
  have c4b1 : (t766 != 0) = false := bne_eq_false_iff_eq.mpr c4
  clear c4
  obtain ⟨t768, A5, H⟩ := bi_ H
  replace H : (some (t768, 0)) = some (r1, r2) := H
  simp only [Option.some.injEq, Prod.mk.injEq] at H
  obtain ⟨rfl, rfl⟩ := H
  go_enter Tryd.func37, Tryd.ntmps37
  go_wp2_with (first | ((with_reducible refine gate_dst (N := 3) rfl ?_); refine be_ #[.int .i64 a1_0, .int .i64 a1_1] 26 ?_; intro gb761 hg w6 hbox hb; have BK761 := Aside0.mk (hbox); have GW761 := gw_ hg; have GE761 := gw_ hg; replace HB := hb_ hb; clear hb hbox hg; have hcz7_0 := bc_ BK761 0 (.int .i64 a1_0); have hcz7_1 := bc_ BK761 1 (.int .i64 a1_1); have hfz7_0 := bz_ BK761 0; have hfz7_1 := bz_ BK761 1) | ((with_reducible refine gate_callee (f := 61) rfl ?_); refine goesL_ (some 11) rfl rfl Tryd.func61 (by kernel_rfl) rfl #[.slice A0 l0.length c0, .agg #[.int .i64 a1_0, .int .i64 a1_1]] rfl (as_) ?_; (with_reducible refine (turn_bounded.calls k (fun k_ => k_ < w.heap.size) _ _ l0 a1_0 a1_1 t762 t765 t766 _ ?side1 A3.out).mono ?_); (case side1 => exact Kd.V_mk HC0.out (Kd.F_below (Kd.C_F (Kd.heap_int .i64) HR0.out) (bl_))); rintro e w8 ⟨v763, rfl, ho0, hb⟩; refine ⟨_, rfl, ?_⟩; have HO764 := Aside0.mk (Kd.V_lower (Kd.V_mono (ok' := fun k_ => k_ ≠ gb761) ho0 (fun k_ hk_ => Or.elim hk_ (fun hs_ => fun e_ => Nat.not_le.2 hs_ (by rw [e_]; exact GW761.out)) (fun hn_ => (Kd.freshB (g := gb761) (o := .cells #[.int .i64 a1_0, .int .i64 a1_1] 26 (0, 0)) (bk_ BK761.out) k_ hn_)))) (below_size (bl_))); replace BK761 := bb_ BK761 hb; replace HB := hb_ hb; clear hb ho0) | ((with_reducible refine gate_dst (N := 6) rfl ?_); refine be_ #[.slice none 0 0, .int .i64 0] 60 ?_; intro gb767 hg w9 hbox hb; replace HO764 := ve_ HO764 hg hb; have BK767 := Aside0.mk (hbox); have GW767 := gw_ hg; have GE767 := gw_ hg; replace HB := hb_ hb; have NB761_767 := nl_ hg BK761; have NB767_761 := sy_ NB761_767; replace BK761 := bb_ BK761 hb; clear hb hbox hg; obtain ⟨Ao10, co10, eo10⟩ := Kd.V_slice HO764.out; subst eo10; have hnb11 := NB767_761.out; have hnc11 := NB761_767.out; have hcz12_0 := bc_ BK767 0 (.slice none 0 0); have hcz12_1 := bc_ BK767 1 (.int .i64 0); have hfz12_0 := bz_ BK767 0; have hfz12_1 := bz_ BK767 1; have hcz13_0 := bc_ BK761 0 (.int .i64 a1_0); have hcz13_1 := bc_ BK761 1 (.int .i64 a1_1); have hfz13_0 := bz_ BK761 0; have hfz13_1 := bz_ BK761 1) | ((with_reducible refine gate_callee (f := 62) rfl ?_); refine goesL_ (some 19) rfl rfl Tryd.func62 (by kernel_rfl) rfl #[.agg #[.slice Ao10 t762.length co10, .int .i64 t765], .agg #[.int .i64 a1_0, .int .i64 a1_1]] rfl (as_) ?_; (with_reducible refine (turn_table_feasible.calls k _ _ t762 t765 a1_0 a1_1 t768 _ ?side1 ?side2 A5.out (HN.out.of (bl_))).mono ?_); (case side1 => refine (Kd.V_reads' (e := 3) (base := w.heap.size) (ok := fun k_ => (k_ ≠ gb761 ∧ k_ ≠ gb767)) (n := t762.length) (c := co10) ?_).2.2; exact (by refine kv_ ?_; exact (Kd.V_mono (Kd.V_far (p := ⟨gb767, 1, none⟩) (Kd.V_far (p := ⟨gb767, 0, none⟩) (Kd.V_mono HO764.out (fun k_ hk => (⟨hk, hk.2⟩ : _ ∧ k_ ≠ gb767))) (fun _ hk => hk.2) (.slice Ao10 t762.length co10)) (fun _ hk => hk.2) (.int .i64 t765)) (fun _ h_ => h_.1)))); (case side2 => exact (Kd.V_reads' HO764.out).2.1); rintro e w14 ⟨rfl, hb⟩; refine ⟨_, rfl, ?_⟩; replace HO764 := Aside0.mk (Kd.V_below (by refine kv_ ?_; exact (Kd.V_mono (Kd.V_far (p := ⟨gb767, 1, none⟩) (Kd.V_far (p := ⟨gb767, 0, none⟩) (Kd.V_mono HO764.out (fun k_ hk => (⟨hk, hk.2⟩ : _ ∧ k_ ≠ gb767))) (fun _ hk => hk.2) (.slice Ao10 t762.length co10)) (fun _ hk => hk.2) (.int .i64 t765)) (fun _ h_ => h_.1))) hb); replace BK761 := Aside0.mk (blk_below (g := gb761) (o := .cells #[.int .i64 a1_0, .int .i64 a1_1] 26 (0, 0)) (by refine bk_ ?_; refine blk_far ?_ NB761_767.out _; refine bk_ ?_; refine blk_far ?_ NB761_767.out _; refine bk_ ?_; exact BK761.out) hb); replace BK767 := Aside0.mk (blk_below (g := gb767) (o := .cells #[.slice Ao10 t762.length co10, .int .i64 t765] 60 (0, 0)) (by refine bk_ ?_; refine blk_put (cs := #[.slice Ao10 t762.length co10, .int .i64 0]) ?_ 1 _ rfl; refine bk_ ?_; refine blk_put (cs := #[.slice none 0 0, .int .i64 0]) ?_ 0 _ rfl; refine bk_ ?_; exact BK767.out) hb); replace HB := hb_ hb; clear hb))
  go_ret2
  exact ⟨er_, bl_⟩
 ·rw [if_neg c4] at H
  have c4b0 : (t766 == 0) = false := beq_eq_false_iff_ne.mpr c4
  have c4b1 : (t766 != 0) = true := bne_iff_ne.mpr c4
  simp only [Option.some.injEq, Prod.mk.injEq] at H
  obtain ⟨rfl, rfl⟩ := H
  go_enter Tryd.func37, Tryd.ntmps37
  go_wp2_with (first | ((with_reducible refine gate_dst (N := 3) rfl ?_); refine be_ #[.int .i64 a1_0, .int .i64 a1_1] 26 ?_; intro gb761 hg w15 hbox hb; have BK761 := Aside0.mk (hbox); have GW761 := gw_ hg; have GE761 := gw_ hg; replace HB := hb_ hb; clear hb hbox hg; have hcz16_0 := bc_ BK761 0 (.int .i64 a1_0); have hcz16_1 := bc_ BK761 1 (.int .i64 a1_1); have hfz16_0 := bz_ BK761 0; have hfz16_1 := bz_ BK761 1) | ((with_reducible refine gate_callee (f := 61) rfl ?_); refine goesL_ (some 11) rfl rfl Tryd.func61 (by kernel_rfl) rfl #[.slice A0 l0.length c0, .agg #[.int .i64 a1_0, .int .i64 a1_1]] rfl (as_) ?_; (with_reducible refine (turn_bounded.calls k (fun k_ => k_ < w.heap.size) _ _ l0 a1_0 a1_1 t762 t765 t766 _ ?side1 A3.out).mono ?_); (case side1 => exact Kd.V_mk HC0.out (Kd.F_below (Kd.C_F (Kd.heap_int .i64) HR0.out) (bl_))); rintro e w17 ⟨v763, rfl, ho0, hb⟩; refine ⟨_, rfl, ?_⟩; have HO764 := Aside0.mk (Kd.V_lower (Kd.V_mono (ok' := fun k_ => k_ ≠ gb761) ho0 (fun k_ hk_ => Or.elim hk_ (fun hs_ => fun e_ => Nat.not_le.2 hs_ (by rw [e_]; exact GW761.out)) (fun hn_ => (Kd.freshB (g := gb761) (o := .cells #[.int .i64 a1_0, .int .i64 a1_1] 26 (0, 0)) (bk_ BK761.out) k_ hn_)))) (below_size (bl_))); replace BK761 := bb_ BK761 hb; replace HB := hb_ hb; clear hb ho0) | ((with_reducible refine gate_dst (N := 6) rfl ?_); refine be_ #[.slice none 0 0, .int .i64 0] 60 ?_; intro gb767 hg w18 hbox hb; replace HO764 := ve_ HO764 hg hb; have BK767 := Aside0.mk (hbox); have GW767 := gw_ hg; have GE767 := gw_ hg; replace HB := hb_ hb; have NB761_767 := nl_ hg BK761; have NB767_761 := sy_ NB761_767; replace BK761 := bb_ BK761 hb; clear hb hbox hg; obtain ⟨Ao19, co19, eo19⟩ := Kd.V_slice HO764.out; subst eo19; have hnb20 := NB767_761.out; have hnc20 := NB761_767.out; have hcz21_0 := bc_ BK767 0 (.slice none 0 0); have hcz21_1 := bc_ BK767 1 (.int .i64 0); have hfz21_0 := bz_ BK767 0; have hfz21_1 := bz_ BK767 1))
  go_ret2
  exact ⟨er_, bl_⟩

end Go.Proofs.YtgobffgogmnmpaaDoor.P
