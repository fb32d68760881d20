-- Written by wip/tools/myprint.py of this session's repo, over the kit's printer and hand texts.
import Derived.Test.YtgobffgogmnmpaaDoorPx0
import Derived.Test.YtgobffgogmnmpaaDoorPre
import Derived.Test.YtgobffgogmnmpaaDoorPx3
import Derived.Test.YtgobffgogmnmpaaDoorPx4
import Derived.Test.YtgobffgogmnmpaaDoorPx5
namespace Go.Proofs.YtgobffgogmnmpaaDoor.P
open Go.RowKit Go.Proofs.YtgobffgogmnmpaaDoorW.PrintWords Go.Proofs.YtgobffgogmnmpaaDoorW.PrintLast Go.Proofs.YtgobffgogmnmpaaDoorW.PrintMore
attribute [local go_sem] max2_int min2_int max_two min_two max_three min_three max_four min_four   -- for this text's walks alone
set_option linter.unusedVariables false
set_option linter.unusedSimpArgs false

/-! ### turn_table_least: function 44 -/
def turn_table_least.l0 : Nat → Int → Int → List Int → Int → Option (Int × Int)
  | 0, _, _, _, _ => none
  | k + 1, x3, x4, x154000, x154001 => if x3 < x4 then ((ratio_Of.f k (wrap64 (Int.tdiv (wrap64 (x3 + x4)) 2)) x154001).bind fun bt157 => ((turn_table_feasible.f k x154000 x154001 bt157.1 bt157.2).bind fun t159 => (if t159 = true then (turn_table_least.l0 k x3 (wrap64 (Int.tdiv (wrap64 (x3 + x4)) 2)) x154000 x154001) else (turn_table_least.l0 k (wrap64 ((wrap64 (Int.tdiv (wrap64 (x3 + x4)) 2)) + 1)) x4 x154000 x154001)))) else ((ratio_Of.f k x3 x154001).bind fun bt155 => (some (bt155.1, bt155.2)))
def turn_table_least.f (k : Nat) (l0_0 : List Int) (a0_1 : Int) : Option (Int × Int) := turn_table_least.l0 k 0 a0_1 l0_0 a0_1
theorem turn_table_least.mono_l : ∀ k, (∀ y0 y1 y2 y3, LeO (turn_table_least.l0 k y0 y1 y2 y3) (turn_table_least.l0 (k + 1) y0 y1 y2 y3))
  | 0 => fun _ _ _ _ r h => by simp [turn_table_least.l0] at h
  | k + 1 => by
    have ih0 := turn_table_least.mono_l k
    · intro y0 y1 y2 y3
      unfold turn_table_least.l0
      with_reducible repeat' first | exact ih0 _ _ _ _ | exact ratio_Of.mono _ _ _ | exact turn_table_feasible.mono _ _ _ _ _ | exact LeO.refl _ | exact LeO.none _ | refine LeO.ite ?_ ?_ | refine LeO.bind ?_ (fun _ => ?_)
theorem turn_table_least.mono : ∀ a0 a1 k, LeO (turn_table_least.f k a0 a1) (turn_table_least.f (k + 1) a0 a1) := by
  intro a0 a1 k
  have ih0 := turn_table_least.mono_l k
  unfold turn_table_least.f
  with_reducible repeat' first | exact ih0 _ _ _ _ | exact ratio_Of.mono _ _ _ | exact turn_table_feasible.mono _ _ _ _ _ | exact LeO.refl _ | exact LeO.none _ | refine LeO.ite ?_ ?_ | refine LeO.bind ?_ (fun _ => ?_)
set_option maxHeartbeats 8000000 in
set_option maxRecDepth 100000 in
theorem turn_table_least.calls (k : Nat) (A0_0 : Option Addr) (c0_0 : Nat) (l0_0 : List Int) (a0_1 : Int) (r1 : Int) (r2 : Int) (w : World) (hr0_0 : Kd.C (Kd.int .i64) w A0_0 l0_0.length l0_0) (hc0_0 : l0_0.length ≤ c0_0) (h : turn_table_least.f k l0_0 a0_1 = some (r1, r2)) (hN0 : NoneLaid w) :
    Calls Tryd.prog 44 #[.agg #[.slice A0_0 l0_0.length c0_0, .int .i64 a0_1]] w fun e w' => e = .returned (.agg #[.int .i64 r1, .int .i64 r2]) ∧ Below w.heap.size w w' := by
 have HN := Aside0.mk hN0
 clear hN0
 have hu60 := Tryd.underlying60
 have hu26 := Tryd.underlying26
 have HR0_0 := Aside0.mk hr0_0
 have HC0_0 := Aside0.mk hc0_0
 clear hr0_0 hc0_0
 have HB := Aside0.mk (Below.refl w.heap.size w)
 have H : (turn_table_least.l0 k 0 a0_1 l0_0 a0_1) = some (r1, r2) := h
 clear h
 have H' := Aside0.mk H
 clear H
 go_enter Tryd.func44, Tryd.ntmps44
 try go_wp2_with (first | ((with_reducible refine gate_dst (N := 1) rfl ?_); refine be_ #[.slice A0_0 l0_0.length c0_0, .int .i64 a0_1] 60 ?_; intro gb153 hg w2 hbox hb; have BK153 := Aside0.mk (hbox); have GW153 := gw_ hg; have GE153 := gw_ hg; replace HB := hb_ hb; clear hb hbox hg) | ((with_reducible refine gate_dst (N := 2) rfl ?_); refine be_ #[.int .i64 0, .int .i64 0] 26 ?_; intro gb154 hg w3 hbox hb; have BK154 := Aside0.mk (hbox); have GW154 := gw_ hg; have GE154 := gw_ hg; replace HB := hb_ hb; have NB153_154 := nl_ hg BK153; have NB154_153 := sy_ NB153_154; replace BK153 := bb_ BK153 hb; clear hb hbox hg))
 replace BK153 := Aside0.mk (blk_drew BK153.out)
 replace BK154 := Aside0.mk (blk_drew BK154.out)
 replace HB := Aside0.mk (below_drew1 HB.out)
 refine start_ (n := 4) (S := fun w' => w'.cell? ⟨gb153, 0, none⟩ = some (.slice A0_0 l0_0.length c0_0) ∧ w'.cell? ⟨gb153, 1, none⟩ = some (.int .i64 a0_1)) (ds := []) #[false, false, false, false] (by kernel_rfl) rfl rfl ⟨(blk_cell BK153.out 0).trans rfl, (blk_cell BK153.out 1).trans rfl⟩ (fun hHeld => ?_)
 generalize w3.drew = w4 at BK153 BK154 HB hHeld ⊢
 refine pure_ (i := 0) (N := some 6) (v := ?_) (a' := ?_) #[true, false, false, false] rfl rfl (by kernel_rfl) (fun _ _ _ h => h) (Or.inl ⟨by rfl, ?_⟩) ?_ ?_
 rotate_left
 ·intro w'
  go_simp
  with_reducible rfl
 rotate_left
 ·simp only [Act.put, List.setIfInBounds_toArray, List.set_cons_zero, List.set_cons_succ, i64_w, i32_w]
  rfl
 refine pure_ (i := 2) (N := some 3) (v := ?_) (a' := ?_) #[true, false, true, false] rfl rfl (by kernel_rfl) (fun _ _ _ h => h) (Or.inl ⟨by rfl, ?_⟩) ?_ ?_
 rotate_left
 ·intro w'
  go_simp
  with_reducible rfl
 rotate_left
 ·simp only [Act.put, List.setIfInBounds_toArray, List.set_cons_zero, List.set_cons_succ, i64_w, i32_w]
  rfl
 refine take_ (i := 1) (N := some 7) (v := ?_) (a' := ?_) #[true, true, true, false] rfl rfl (by kernel_rfl) (fun _ _ _ h => h) (Or.inl ⟨by rfl, ?_⟩) hHeld ?_ ?_
 rotate_left
 ·rintro w' ⟨s0, s1⟩
  go_simp
  with_reducible rfl
 rotate_left
 ·simp only [Act.put, List.setIfInBounds_toArray, List.set_cons_zero, List.set_cons_succ, i64_w, i32_w]
  rfl
 refine pure_ (i := 3) (N := some 4) (v := ?_) (a' := ?_) #[true, true, true, true] rfl rfl (by kernel_rfl) (fun _ _ _ h => h) (Or.inl ⟨by rfl, ?_⟩) ?_ ?_
 rotate_left
 ·intro w'
  go_simp
  with_reducible rfl
 rotate_left
 ·simp only [Act.put, List.setIfInBounds_toArray, List.set_cons_zero, List.set_cons_succ, i64_w, i32_w]
  rfl
 refine done_ (by kernel_rfl) ?_
 try go_wp2
 go_loopg [3, 4] k (fun kq v3 v4 w' => ∃ (x3_1 : Int) (x4_1 : Int), v3 = .int .i64 x3_1 ∧ v4 = .int .i64 x4_1 ∧ Aside0 (turn_table_least.l0 kq x3_1 x4_1 l0_0 a0_1 = some (r1, r2)) ∧ Aside0 (kq ≤ k) ∧ Aside0 (w'.heap[gb153]? = some (.cells #[(.slice A0_0 l0_0.length c0_0), .int .i64 a0_1] 60 (0, 0))) ∧ Aside0 (w'.heap[gb154]? = some (.cells #[.int .i64 0, .int .i64 0] 26 (0, 0))) ∧ Aside0 (Below w.heap.size w w'))
 case atStart => exact ⟨(0), (a0_1), rs_, rs_, H', ⟨Nat.le_refl _⟩, ⟨bk_ BK153.out⟩, ⟨bk_ BK154.out⟩, ⟨bl_⟩⟩
 case round =>
  clear H'
  try clear p2
  try clear c4
  obtain ⟨x3_1, x4_1, rfl, rfl, HA, HK1, BK153, BK154, HB⟩ := hrel
  cases gk with
  | zero => exact absurd HA.out (by simp [turn_table_least.l0])
  | succ k1 =>
   have H := HA.out
   clear HA
   simp only [turn_table_least.l0] at H
   by_cases c5 : x3_1 < x4_1
   ·rw [if_pos c5] at H
    have c5b0 : decide (x3_1 < x4_1) = true := decide_eq_true c5
    clear c5
    obtain ⟨⟨t157, t158⟩, A6, H⟩ := bi_ H
    replace H : ((turn_table_feasible.f k1 l0_0 a0_1 t157 t158).bind fun t159 => (if t159 = true then (turn_table_least.l0 k1 x3_1 (wrap64 (Int.tdiv (wrap64 (x3_1 + x4_1)) 2)) l0_0 a0_1) else (turn_table_least.l0 k1 (wrap64 ((wrap64 (Int.tdiv (wrap64 (x3_1 + x4_1)) 2)) + 1)) x4_1 l0_0 a0_1))) = some (r1, r2) := H
    obtain ⟨t159, A7, H⟩ := bi_ H
    replace H : (if t159 = true then (turn_table_least.l0 k1 x3_1 (wrap64 (Int.tdiv (wrap64 (x3_1 + x4_1)) 2)) l0_0 a0_1) else (turn_table_least.l0 k1 (wrap64 ((wrap64 (Int.tdiv (wrap64 (x3_1 + x4_1)) 2)) + 1)) x4_1 l0_0 a0_1)) = some (r1, r2) := H
    by_cases c8 : t159 = true
    ·subst c8
     have H1 : (turn_table_least.l0 k1 x3_1 (wrap64 (Int.tdiv (wrap64 (x3_1 + x4_1)) 2)) l0_0 a0_1) = some (r1, r2) := by rw [if_pos rfl] at H; exact H
     clear H
     have H := H1
     clear H1
     have H' := Aside0.mk H
     clear H
     try go_wp2
     replace BK153 := Aside0.mk (blk_drew BK153.out)
     replace BK154 := Aside0.mk (blk_drew BK154.out)
     replace HB := Aside0.mk (below_drew1 HB.out)
     refine start_ (n := 6) (S := fun w' => w'.cell? ⟨gb153, 0, none⟩ = some (.slice A0_0 l0_0.length c0_0) ∧ w'.cell? ⟨gb153, 1, none⟩ = some (.int .i64 a0_1)) (ds := []) #[false, false, false, false, false, false] (by kernel_rfl) rfl rfl ⟨(blk_cell BK153.out 0).trans rfl, (blk_cell BK153.out 1).trans rfl⟩ (fun hHeld => ?_)
     generalize wr.drew = w9 at BK153 BK154 HB hHeld ⊢
     refine pure_ (i := 1) (N := some 16) (v := ?_) (a' := ?_) #[false, true, false, false, false, false] rfl rfl (by kernel_rfl) (fun _ _ _ h => h) (Or.inl ⟨by rfl, ?_⟩) ?_ ?_
     rotate_left
     ·intro w'
      go_simp
      with_reducible rfl
     rotate_left
     ·simp only [Act.put, List.setIfInBounds_toArray, List.set_cons_zero, List.set_cons_succ, i64_w, i32_w]
      rfl
     refine pure_ (i := 2) (N := some 17) (v := ?_) (a' := ?_) #[false, true, true, false, false, false] rfl rfl (by kernel_rfl) (fun _ _ _ h => h) (Or.inl ⟨by rfl, ?_⟩) ?_ ?_
     rotate_left
     ·intro w'
      go_simp
      with_reducible rfl
     rotate_left
     ·simp only [Act.put, List.setIfInBounds_toArray, List.set_cons_zero, List.set_cons_succ, i64_w, i32_w]
      rfl
     refine take_ (i := 0) (N := some 15) (v := ?_) (a' := ?_) #[true, true, true, false, false, false] rfl rfl (by kernel_rfl) (fun _ _ _ h => h) (Or.inl ⟨by rfl, ?_⟩) hHeld ?_ ?_
     rotate_left
     ·rintro w' ⟨s0, s1⟩
      go_simp
      with_reducible rfl
     rotate_left
     ·simp only [Act.put, List.setIfInBounds_toArray, List.set_cons_zero, List.set_cons_succ, i64_w, i32_w]
      rfl
     refine take_ (i := 3) (N := some 18) (v := ?_) (a' := ?_) #[true, true, true, true, false, false] rfl rfl (by kernel_rfl) (fun _ _ _ h => h) (Or.inl ⟨by rfl, ?_⟩) hHeld ?_ ?_
     rotate_left
     ·rintro w' ⟨s0, s1⟩
      go_simp
      with_reducible rfl
     rotate_left
     ·simp only [Act.put, List.setIfInBounds_toArray, List.set_cons_zero, List.set_cons_succ, i64_w, i32_w]
      rfl
     refine one_ (i := 4) (N := some 19) #[true, true, true, true, true, false] rfl rfl (by kernel_rfl) (by decide) (fun K hK => ?_)
     refine goes_ Tryd.func51 (by kernel_rfl) rfl #[.int .i64 (wrap64 (Int.tdiv (wrap64 (x3_1 + x4_1)) 2)), .int .i64 a0_1] (by rfl) rfl rfl (as_) ?_
     with_reducible refine (ratio_Of.calls k1 (wrap64 (Int.tdiv (wrap64 (x3_1 + x4_1)) 2)) a0_1 t157 t158 _ A6.out).mono ?_
     rintro e w10 ⟨rfl, hb⟩
     refine ⟨_, rfl, ?_⟩
     replace BK153 := bb_ BK153 hb
     replace BK154 := bb_ BK154 hb
     replace HB := hb_ hb
     clear hb
     refine hK.out _ _ ⟨(blk_cell BK153.out 0).trans rfl, (blk_cell BK153.out 1).trans rfl⟩ (fun hHeld => ?_)
     clear hK K
     refine np_ 19 (h := ?_)
     refine one_ (i := 5) (N := some 20) #[true, true, true, true, true, true] rfl rfl (by kernel_rfl) (by decide) (fun K hK => ?_)
     refine goes_ Tryd.func62 (by kernel_rfl) rfl #[.agg #[.slice A0_0 l0_0.length c0_0, .int .i64 a0_1], .agg #[.int .i64 t157, .int .i64 t158]] (by rfl) rfl rfl (as_) ?_
     with_reducible refine (turn_table_feasible.calls k1 _ _ l0_0 a0_1 t157 t158 true _ ?side1 ?side2 A7.out (HN.out.of (bl_))).mono ?_
     (case side1 => exact cb_ HR0_0.out)
     (case side2 => exact HC0_0.out)
     rintro e w11 ⟨rfl, hb⟩
     refine ⟨_, rfl, ?_⟩
     replace BK153 := bb_ BK153 hb
     replace BK154 := bb_ BK154 hb
     replace HB := hb_ hb
     clear hb
     refine hK.out _ _ ⟨(blk_cell BK153.out 0).trans rfl, (blk_cell BK153.out 1).trans rfl⟩ (fun hHeld => ?_)
     clear hK K
     refine np_ 20 (h := ?_)
     refine done_ (by kernel_rfl) ?_
     try go_wp2
     go_roundg k1
     case measure => have := HK1.out; omega
     case rel => exact ⟨(x3_1), (wrap64 (Int.tdiv (wrap64 (x3_1 + x4_1)) 2)), rs_, rs_, H', ⟨by have := HK1.out; omega⟩, ⟨bk_ BK153.out⟩, ⟨bk_ BK154.out⟩, ⟨bl_⟩⟩
    ·replace c8 := Bool.eq_false_iff.mpr c8
     subst c8
     have H1 : (turn_table_least.l0 k1 (wrap64 ((wrap64 (Int.tdiv (wrap64 (x3_1 + x4_1)) 2)) + 1)) x4_1 l0_0 a0_1) = some (r1, r2) := by rw [if_neg (show ¬ (false = true) by decide)] at H; exact H
     clear H
     have H := H1
     clear H1
     have H' := Aside0.mk H
     clear H
     try go_wp2
     replace BK153 := Aside0.mk (blk_drew BK153.out)
     replace BK154 := Aside0.mk (blk_drew BK154.out)
     replace HB := Aside0.mk (below_drew1 HB.out)
     refine start_ (n := 6) (S := fun w' => w'.cell? ⟨gb153, 0, none⟩ = some (.slice A0_0 l0_0.length c0_0) ∧ w'.cell? ⟨gb153, 1, none⟩ = some (.int .i64 a0_1)) (ds := []) #[false, false, false, false, false, false] (by kernel_rfl) rfl rfl ⟨(blk_cell BK153.out 0).trans rfl, (blk_cell BK153.out 1).trans rfl⟩ (fun hHeld => ?_)
     generalize wr.drew = w12 at BK153 BK154 HB hHeld ⊢
     refine pure_ (i := 1) (N := some 16) (v := ?_) (a' := ?_) #[false, true, false, false, false, false] rfl rfl (by kernel_rfl) (fun _ _ _ h => h) (Or.inl ⟨by rfl, ?_⟩) ?_ ?_
     rotate_left
     ·intro w'
      go_simp
      with_reducible rfl
     rotate_left
     ·simp only [Act.put, List.setIfInBounds_toArray, List.set_cons_zero, List.set_cons_succ, i64_w, i32_w]
      rfl
     refine pure_ (i := 2) (N := some 17) (v := ?_) (a' := ?_) #[false, true, true, false, false, false] rfl rfl (by kernel_rfl) (fun _ _ _ h => h) (Or.inl ⟨by rfl, ?_⟩) ?_ ?_
     rotate_left
     ·intro w'
      go_simp
      with_reducible rfl
     rotate_left
     ·simp only [Act.put, List.setIfInBounds_toArray, List.set_cons_zero, List.set_cons_succ, i64_w, i32_w]
      rfl
     refine take_ (i := 0) (N := some 15) (v := ?_) (a' := ?_) #[true, true, true, false, false, false] rfl rfl (by kernel_rfl) (fun _ _ _ h => h) (Or.inl ⟨by rfl, ?_⟩) hHeld ?_ ?_
     rotate_left
     ·rintro w' ⟨s0, s1⟩
      go_simp
      with_reducible rfl
     rotate_left
     ·simp only [Act.put, List.setIfInBounds_toArray, List.set_cons_zero, List.set_cons_succ, i64_w, i32_w]
      rfl
     refine take_ (i := 3) (N := some 18) (v := ?_) (a' := ?_) #[true, true, true, true, false, false] rfl rfl (by kernel_rfl) (fun _ _ _ h => h) (Or.inl ⟨by rfl, ?_⟩) hHeld ?_ ?_
     rotate_left
     ·rintro w' ⟨s0, s1⟩
      go_simp
      with_reducible rfl
     rotate_left
     ·simp only [Act.put, List.setIfInBounds_toArray, List.set_cons_zero, List.set_cons_succ, i64_w, i32_w]
      rfl
     refine one_ (i := 4) (N := some 19) #[true, true, true, true, true, false] rfl rfl (by kernel_rfl) (by decide) (fun K hK => ?_)
     refine goes_ Tryd.func51 (by kernel_rfl) rfl #[.int .i64 (wrap64 (Int.tdiv (wrap64 (x3_1 + x4_1)) 2)), .int .i64 a0_1] (by rfl) rfl rfl (as_) ?_
     with_reducible refine (ratio_Of.calls k1 (wrap64 (Int.tdiv (wrap64 (x3_1 + x4_1)) 2)) a0_1 t157 t158 _ A6.out).mono ?_
     rintro e w13 ⟨rfl, hb⟩
     refine ⟨_, rfl, ?_⟩
     replace BK153 := bb_ BK153 hb
     replace BK154 := bb_ BK154 hb
     replace HB := hb_ hb
     clear hb
     refine hK.out _ _ ⟨(blk_cell BK153.out 0).trans rfl, (blk_cell BK153.out 1).trans rfl⟩ (fun hHeld => ?_)
     clear hK K
     refine np_ 19 (h := ?_)
     refine one_ (i := 5) (N := some 20) #[true, true, true, true, true, true] rfl rfl (by kernel_rfl) (by decide) (fun K hK => ?_)
     refine goes_ Tryd.func62 (by kernel_rfl) rfl #[.agg #[.slice A0_0 l0_0.length c0_0, .int .i64 a0_1], .agg #[.int .i64 t157, .int .i64 t158]] (by rfl) rfl rfl (as_) ?_
     with_reducible refine (turn_table_feasible.calls k1 _ _ l0_0 a0_1 t157 t158 false _ ?side1 ?side2 A7.out (HN.out.of (bl_))).mono ?_
     (case side1 => exact cb_ HR0_0.out)
     (case side2 => exact HC0_0.out)
     rintro e w14 ⟨rfl, hb⟩
     refine ⟨_, rfl, ?_⟩
     replace BK153 := bb_ BK153 hb
     replace BK154 := bb_ BK154 hb
     replace HB := hb_ hb
     clear hb
     refine hK.out _ _ ⟨(blk_cell BK153.out 0).trans rfl, (blk_cell BK153.out 1).trans rfl⟩ (fun hHeld => ?_)
     clear hK K
     refine np_ 20 (h := ?_)
     refine done_ (by kernel_rfl) ?_
     try go_wp2
     go_roundg k1
     case measure => have := HK1.out; omega
     case rel => exact ⟨(wrap64 ((wrap64 (Int.tdiv (wrap64 (x3_1 + x4_1)) 2)) + 1)), (x4_1), rs_, rs_, H', ⟨by have := HK1.out; omega⟩, ⟨bk_ BK153.out⟩, ⟨bk_ BK154.out⟩, ⟨bl_⟩⟩
   ·rw [if_neg c5] at H
    have c5b0 : decide (x3_1 < x4_1) = false := decide_eq_false c5
    clear c5
    obtain ⟨⟨t155, t156⟩, A15, H⟩ := bi_ H
    replace H : (some (t155, t156)) = some (r1, r2) := H
    simp only [Option.some.injEq, Prod.mk.injEq] at H
    obtain ⟨rfl, rfl⟩ := H
    have hnb16 := NB153_154.out
    have hnc16 := NB154_153.out
    have hcz17_0 := bc_ BK153 0 (.slice A0_0 l0_0.length c0_0)
    have hcz17_1 := bc_ BK153 1 (.int .i64 a0_1)
    have hfz17_0 := bz_ BK153 0
    have hfz17_1 := bz_ BK153 1
    go_wp2_with (first | ((with_reducible refine gate_callee (f := 51) rfl ?_); refine goesL_ (some 27) rfl rfl Tryd.func51 (by kernel_rfl) rfl #[.int .i64 x3_1, .int .i64 a0_1] rfl (as_) ?_; (with_reducible refine (ratio_Of.calls k1 x3_1 a0_1 t155 t156 _ A15.out).mono ?_); rintro e w18 ⟨rfl, hb⟩; refine ⟨_, rfl, ?_⟩; replace BK153 := bb_ BK153 hb; replace BK154 := bb_ BK154 hb; replace HB := hb_ hb; clear hb; have hcz19_0 := bc_ BK154 0 (.int .i64 0); have hcz19_1 := bc_ BK154 1 (.int .i64 0); have hfz19_0 := bz_ BK154 0; have hfz19_1 := bz_ BK154 1))
    refine bodyPost_ret (results_cell_row rfl _ _ gb154 26 #[.int .i64 t155, .int .i64 t156] (0, 0) _ rfl (by refine bk_ ?_; refine blk_put (cs := #[.int .i64 t155, .int .i64 0]) ?_ 1 _ rfl; refine bk_ ?_; refine blk_put (cs := #[.int .i64 0, .int .i64 0]) ?_ 0 _ rfl; refine bk_ ?_; exact BK154.out) Tryd.underlying26 rfl (by kernel_rfl)) rfl ?_
    exact ⟨er_, bl_⟩

/-! ### turn_Least: function 18 -/
def turn_Least.f (k : Nat) (l0 : List Int) : Option (Int × Int × Int) := (turn_read.f k l0).bind fun bt161 => (if bt161.2.2 = 0 then ((turn_table_least.f k bt161.1 bt161.2.1).bind fun bt167 => (some (bt167.1, bt167.2, 0))) else (some (0, 0, bt161.2.2)))
theorem turn_Least.mono : ∀ a0 k, LeO (turn_Least.f k a0) (turn_Least.f (k + 1) a0) := by
  intro a0 k
  unfold turn_Least.f
  with_reducible repeat' first | exact turn_read.mono _ _ | exact turn_table_least.mono _ _ _ | exact LeO.refl _ | exact LeO.none _ | refine LeO.ite ?_ ?_ | refine LeO.bind ?_ (fun _ => ?_)
set_option maxHeartbeats 8000000 in
set_option maxRecDepth 100000 in
theorem turn_Least.calls (k : Nat) (A0 : Option Addr) (c0 : Nat) (l0 : List Int) (r1 : Int) (r2 : Int) (r3 : Int) (w : World) (hr0 : Kd.C (Kd.int .i64) w A0 l0.length l0) (hc0 : l0.length ≤ c0) (h : turn_Least.f k l0 = some (r1, r2, r3)) (hN0 : NoneLaid w) :
    Calls Tryd.prog 18 #[.slice A0 l0.length c0] w fun e w' => e = .returned (.tuple #[.agg #[.int .i64 r1, .int .i64 r2], .int .i64 r3]) ∧ Below w.heap.size w w' := by
 have HN := Aside0.mk hN0
 clear hN0
 have hu26 := Tryd.underlying26
 have hu60 := Tryd.underlying60
 have HR0 := Aside0.mk hr0
 have HC0 := Aside0.mk hc0
 clear hr0 hc0
 have HB := Aside0.mk (Below.refl w.heap.size w)
 have H : ((turn_read.f k l0).bind fun bt161 => (if bt161.2.2 = 0 then ((turn_table_least.f k bt161.1 bt161.2.1).bind fun bt167 => (some (bt167.1, bt167.2, 0))) else (some (0, 0, bt161.2.2)))) = some (r1, r2, r3) := h
 clear h
 obtain ⟨⟨t161, t164, t165⟩, A2, H⟩ := bi_ H
 replace H : (if t165 = 0 then ((turn_table_least.f k t161 t164).bind fun bt167 => (some (bt167.1, bt167.2, 0))) else (some (0, 0, t165))) = some (r1, r2, r3) := H
 by_cases c3 : t165 = 0
 ·rw [if_pos c3] at H
  have c3b0 : (t165 == 0) = true := beq_iff_eq.mpr c3
  have c3b1 : (t165 != 0) = false := bne_eq_false_iff_eq.mpr c3
  clear c3
  obtain ⟨⟨t167, t168⟩, A4, H⟩ := bi_ H
  replace H : (some (t167, t168, 0)) = some (r1, r2, r3) := H
  simp only [Option.some.injEq, Prod.mk.injEq] at H
  obtain ⟨rfl, rfl, rfl⟩ := H
  go_enter Tryd.func18, Tryd.ntmps18
  go_wp2_with (first | ((with_reducible refine gate_dst (N := 2) rfl ?_); refine be_ #[.int .i64 0, .int .i64 0] 26 ?_; intro gb160 hg w5 hbox hb; have BK160 := Aside0.mk (hbox); have GW160 := gw_ hg; have GE160 := gw_ hg; replace HB := hb_ hb; clear hb hbox hg) | ((with_reducible refine gate_callee (f := 43) rfl ?_); refine goesL_ (some 8) rfl rfl Tryd.func43 (by kernel_rfl) rfl #[.slice A0 l0.length c0] rfl (as_) ?_; (with_reducible refine (turn_read.calls k (fun k_ => k_ < w.heap.size) _ _ l0 t161 t164 t165 _ ?side1 A2.out).mono ?_); (case side1 => exact Kd.V_mk HC0.out (Kd.F_below (Kd.C_F (Kd.heap_int .i64) HR0.out) (bl_))); rintro e w6 ⟨v162, rfl, ho0, hb⟩; refine ⟨_, rfl, ?_⟩; have HO163 := Aside0.mk (Kd.V_lower (Kd.V_mono (ok' := fun k_ => k_ ≠ gb160) ho0 (fun k_ hk_ => Or.elim hk_ (fun hs_ => fun e_ => Nat.not_le.2 hs_ (by rw [e_]; exact GW160.out)) (fun hn_ => (Kd.freshB (g := gb160) (o := .cells #[.int .i64 0, .int .i64 0] 26 (0, 0)) (bk_ BK160.out) k_ hn_)))) (below_size (bl_))); replace BK160 := bb_ BK160 hb; replace HB := hb_ hb; clear hb ho0) | ((with_reducible refine gate_dst (N := 4) rfl ?_); refine be_ #[.slice none 0 0, .int .i64 0] 60 ?_; intro gb166 hg w7 hbox hb; replace HO163 := ve_ HO163 hg hb; have BK166 := Aside0.mk (hbox); have GW166 := gw_ hg; have GE166 := gw_ hg; replace HB := hb_ hb; have NB160_166 := nl_ hg BK160; have NB166_160 := sy_ NB160_166; replace BK160 := bb_ BK160 hb; clear hb hbox hg; obtain ⟨Ao8, co8, eo8⟩ := Kd.V_slice HO163.out; subst eo8; have hnb9 := NB166_160.out; have hnc9 := NB160_166.out; have hcz10_0 := bc_ BK166 0 (.slice none 0 0); have hcz10_1 := bc_ BK166 1 (.int .i64 0); have hfz10_0 := bz_ BK166 0; have hfz10_1 := bz_ BK166 1) | ((with_reducible refine gate_callee (f := 44) rfl ?_); refine goesL_ (some 16) rfl rfl Tryd.func44 (by kernel_rfl) rfl #[.agg #[.slice Ao8 t161.length co8, .int .i64 t164]] rfl (as_) ?_; (with_reducible refine (turn_table_least.calls k _ _ t161 t164 t167 t168 _ ?side1 ?side2 A4.out (HN.out.of (bl_))).mono ?_); (case side1 => refine (Kd.V_reads' (e := 3) (base := w.heap.size) (ok := fun k_ => (k_ ≠ gb160 ∧ k_ ≠ gb166)) (n := t161.length) (c := co8) ?_).2.2; exact (by refine kv_ ?_; exact (Kd.V_mono (Kd.V_far (p := ⟨gb166, 1, none⟩) (Kd.V_far (p := ⟨gb166, 0, none⟩) (Kd.V_mono HO163.out (fun k_ hk => (⟨hk, hk.2⟩ : _ ∧ k_ ≠ gb166))) (fun _ hk => hk.2) (.slice Ao8 t161.length co8)) (fun _ hk => hk.2) (.int .i64 t164)) (fun _ h_ => h_.1)))); (case side2 => exact (Kd.V_reads' HO163.out).2.1); rintro e w11 ⟨rfl, hb⟩; refine ⟨_, rfl, ?_⟩; replace HO163 := Aside0.mk (Kd.V_below (by refine kv_ ?_; exact (Kd.V_mono (Kd.V_far (p := ⟨gb166, 1, none⟩) (Kd.V_far (p := ⟨gb166, 0, none⟩) (Kd.V_mono HO163.out (fun k_ hk => (⟨hk, hk.2⟩ : _ ∧ k_ ≠ gb166))) (fun _ hk => hk.2) (.slice Ao8 t161.length co8)) (fun _ hk => hk.2) (.int .i64 t164)) (fun _ h_ => h_.1))) hb); replace BK160 := Aside0.mk (blk_below (g := gb160) (o := .cells #[.int .i64 0, .int .i64 0] 26 (0, 0)) (by refine bk_ ?_; refine blk_far ?_ NB160_166.out _; refine bk_ ?_; refine blk_far ?_ NB160_166.out _; refine bk_ ?_; exact BK160.out) hb); replace BK166 := Aside0.mk (blk_below (g := gb166) (o := .cells #[.slice Ao8 t161.length co8, .int .i64 t164] 60 (0, 0)) (by refine bk_ ?_; refine blk_put (cs := #[.slice Ao8 t161.length co8, .int .i64 0]) ?_ 1 _ rfl; refine bk_ ?_; refine blk_put (cs := #[.slice none 0 0, .int .i64 0]) ?_ 0 _ rfl; refine bk_ ?_; exact BK166.out) hb); replace HB := hb_ hb; clear hb; have hcz12_0 := bc_ BK160 0 (.int .i64 0); have hcz12_1 := bc_ BK160 1 (.int .i64 0); have hfz12_0 := bz_ BK160 0; have hfz12_1 := bz_ BK160 1))
  refine bodyPost_ret (results_ct rfl _ _ gb160 26 #[.int .i64 t167, .int .i64 t168] (0, 0) _ rfl (by refine bk_ ?_; refine blk_put (cs := #[.int .i64 t167, .int .i64 0]) ?_ 1 _ rfl; refine bk_ ?_; refine blk_put (cs := #[.int .i64 0, .int .i64 0]) ?_ 0 _ rfl; refine bk_ ?_; exact BK160.out) Tryd.underlying26 rfl (by kernel_rfl)) rfl ?_
  exact ⟨er_, bl_⟩
 ·rw [if_neg c3] at H
  have c3b0 : (t165 == 0) = false := beq_eq_false_iff_ne.mpr c3
  have c3b1 : (t165 != 0) = true := bne_iff_ne.mpr c3
  simp only [Option.some.injEq, Prod.mk.injEq] at H
  obtain ⟨rfl, rfl, rfl⟩ := H
  go_enter Tryd.func18, Tryd.ntmps18
  go_wp2_with (first | ((with_reducible refine gate_dst (N := 2) rfl ?_); refine be_ #[.int .i64 0, .int .i64 0] 26 ?_; intro gb160 hg w13 hbox hb; have BK160 := Aside0.mk (hbox); have GW160 := gw_ hg; have GE160 := gw_ hg; replace HB := hb_ hb; clear hb hbox hg) | ((with_reducible refine gate_callee (f := 43) rfl ?_); refine goesL_ (some 8) rfl rfl Tryd.func43 (by kernel_rfl) rfl #[.slice A0 l0.length c0] rfl (as_) ?_; (with_reducible refine (turn_read.calls k (fun k_ => k_ < w.heap.size) _ _ l0 t161 t164 t165 _ ?side1 A2.out).mono ?_); (case side1 => exact Kd.V_mk HC0.out (Kd.F_below (Kd.C_F (Kd.heap_int .i64) HR0.out) (bl_))); rintro e w14 ⟨v162, rfl, ho0, hb⟩; refine ⟨_, rfl, ?_⟩; have HO163 := Aside0.mk (Kd.V_lower (Kd.V_mono (ok' := fun k_ => k_ ≠ gb160) ho0 (fun k_ hk_ => Or.elim hk_ (fun hs_ => fun e_ => Nat.not_le.2 hs_ (by rw [e_]; exact GW160.out)) (fun hn_ => (Kd.freshB (g := gb160) (o := .cells #[.int .i64 0, .int .i64 0] 26 (0, 0)) (bk_ BK160.out) k_ hn_)))) (below_size (bl_))); replace BK160 := bb_ BK160 hb; replace HB := hb_ hb; clear hb ho0) | ((with_reducible refine gate_dst (N := 4) rfl ?_); refine be_ #[.slice none 0 0, .int .i64 0] 60 ?_; intro gb166 hg w15 hbox hb; replace HO163 := ve_ HO163 hg hb; have BK166 := Aside0.mk (hbox); have GW166 := gw_ hg; have GE166 := gw_ hg; replace HB := hb_ hb; have NB160_166 := nl_ hg BK160; have NB166_160 := sy_ NB160_166; replace BK160 := bb_ BK160 hb; clear hb hbox hg; obtain ⟨Ao16, co16, eo16⟩ := Kd.V_slice HO163.out; subst eo16; have hnb17 := NB166_160.out; have hnc17 := NB160_166.out; have hcz18_0 := bc_ BK166 0 (.slice none 0 0); have hcz18_1 := bc_ BK166 1 (.int .i64 0); have hfz18_0 := bz_ BK166 0; have hfz18_1 := bz_ BK166 1; have hcz19_0 := bc_ BK160 0 (.int .i64 0); have hcz19_1 := bc_ BK160 1 (.int .i64 0); have hfz19_0 := bz_ BK160 0; have hfz19_1 := bz_ BK160 1))
  refine bodyPost_ret (results_ct rfl _ _ gb160 26 #[.int .i64 0, .int .i64 0] (0, 0) _ rfl (by refine bk_ ?_; refine blk_put (cs := #[.int .i64 0, .int .i64 0]) ?_ 1 _ rfl; refine bk_ ?_; refine blk_put (cs := #[.int .i64 0, .int .i64 0]) ?_ 0 _ rfl; refine bk_ ?_; refine blk_far ?_ NB160_166.out _; refine bk_ ?_; refine blk_far ?_ NB160_166.out _; refine bk_ ?_; exact BK160.out) Tryd.underlying26 rfl (by kernel_rfl)) rfl ?_
  exact ⟨er_, bl_⟩

end Go.Proofs.YtgobffgogmnmpaaDoor.P
