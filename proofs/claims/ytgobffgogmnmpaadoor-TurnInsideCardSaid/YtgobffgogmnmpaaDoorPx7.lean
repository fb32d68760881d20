-- Written by wip/tools/myprint.py of this session's repo, over the kit's printer and hand texts.
import Derived.Test.YtgobffgogmnmpaaDoorPx0
import Derived.Test.YtgobffgogmnmpaaDoorPre
import Derived.Test.YtgobffgogmnmpaaDoorPx3
import Derived.Test.YtgobffgogmnmpaaDoorPx4
import Derived.Test.YtgobffgogmnmpaaDoorPx5
import Derived.Test.YtgobffgogmnmpaaDoorPx6
namespace Go.Proofs.YtgobffgogmnmpaaDoor.P
open Go.RowKit Go.Proofs.YtgobffgogmnmpaaDoorW.PrintWords Go.Proofs.YtgobffgogmnmpaaDoorW.PrintLast Go.Proofs.YtgobffgogmnmpaaDoorW.PrintMore
attribute [local go_sem] max2_int min2_int max_two min_two max_three min_three max_four min_four   -- for this text's walks alone
set_option linter.unusedVariables false
set_option linter.unusedSimpArgs false

/-! ### turn_Round: function 20 -/
mutual
def turn_Round.l0 : Nat → List Int → List (List (S51)) → List Int → List Int → Int → Int → List Int → Int → Option (List Int × Int)
  | 0, _, _, _, _, _, _, _, _ => none
  | k + 1, x0, x6, x7, x8, x27, x28, x175000, x175001 => if x28 < x27 then (turn_Round.l1 k x0 x6 x7 x8 x28 x27 x28 (x7.length : Int) 0 x175000 x175001) else (some (x8, 0))
def turn_Round.l1 : Nat → List Int → List (List (S51)) → List Int → List Int → Int → Int → Int → Int → Int → List Int → Int → Option (List Int × Int)
  | 0, _, _, _, _, _, _, _, _, _, _, _ => none
  | k + 1, x0, x6, x7, x8, x9, x27, x28, x32, x33, x175000, x175001 => if x33 < x32 then (if 0 ≤ x33 then (if x33 < (x7.length : Int) then (if x33 < (x0.length : Int) then (if (rd x7 x33) = (rd x0 x33) then (turn_Round.j2 k x0 x6 x7 x8 x9 x33 x27 x28 x32 x33 true x175000 x175001) else (if x33 < (x6.length : Int) then (if 0 ≤ (rd x7 x33) then (if (rd x7 x33) < ((rd_L2 x6 x33).length : Int) then (if ((rd_T51 (rd_L2 x6 x33) (rd x7 x33)).f0) > x9 then (turn_Round.j2 k x0 x6 x7 x8 x9 x33 x27 x28 x32 x33 true x175000 x175001) else (turn_Round.j2 k x0 x6 x7 x8 x9 x33 x27 x28 x32 x33 (decide (((rd_T51 (rd_L2 x6 x33) (rd x7 x33)).f1) < x9)) x175000 x175001)) else (none)) else (none)) else (none))) else (none)) else (none)) else (none)) else (turn_Round.l0 k x0 x6 x7 x8 x27 (wrap64 (x28 + 1)) x175000 x175001)
def turn_Round.j2 : Nat → List Int → List (List (S51)) → List Int → List Int → Int → Int → Int → Int → Int → Int → Bool → List Int → Int → Option (List Int × Int)
  | 0, _, _, _, _, _, _, _, _, _, _, _, _, _ => none
  | k + 1, x0, x6, x7, x8, x9, x10, x27, x28, x32, x33, x74, x175000, x175001 => if x74 = true then (turn_Round.l1 k x0 x6 x7 x8 x9 x27 x28 x32 (wrap64 (x33 + 1)) x175000 x175001) else (if 0 ≤ x10 then (if x10 < (x7.length : Int) then ((some (x7.set (x10 : Int).toNat (wrap64 ((rd x7 x10) + 1)) : List Int)).bind fun y192 => ((turn_table_fits.f k x175000 x175001 x6 y192 (wrap64 (x9 + 1))).bind fun t193 => (if t193 = true then (if x8.length < 17592186044416 then (turn_Round.l0 k x0 x6 y192 (x8 ++ [x10]) x27 (wrap64 (x28 + 1)) x175000 x175001) else (none)) else (turn_Round.l1 k x0 x6 (y192.set (x10 : Int).toNat (wrap64 ((rd y192 x10) - 1))) x8 x9 x27 x28 x32 (wrap64 (x33 + 1)) x175000 x175001)))) else (none)) else (none))
end
def turn_Round.f (k : Nat) (l0 : List Int) : Option (List Int × Int) := (turn_read.f k l0).bind fun bt169 => (if bt169.2.2 = 0 then ((turn_table_least.f k bt169.1 bt169.2.1).bind fun bt175 => ((turn_table_windows.f k bt169.1 bt169.2.1 bt175.1 bt175.2).bind fun t177 => (if 0 ≤ (l0.length : Int) then (if ((l0.length : Int) : Int).toNat ≤ 35184372088832 then (turn_Round.l0 k l0 t177 (List.replicate ((l0.length : Int) : Int).toNat 0) ([] : List Int) bt169.2.1 0 bt169.1 bt169.2.1) else (none)) else (none)))) else (some (([] : List Int), bt169.2.2)))
theorem turn_Round.mono_l : ∀ k, (∀ y0 y1 y2 y3 y4 y5 y6 y7, LeO (turn_Round.l0 k y0 y1 y2 y3 y4 y5 y6 y7) (turn_Round.l0 (k + 1) y0 y1 y2 y3 y4 y5 y6 y7)) ∧ (∀ y0 y1 y2 y3 y4 y5 y6 y7 y8 y9 y10, LeO (turn_Round.l1 k y0 y1 y2 y3 y4 y5 y6 y7 y8 y9 y10) (turn_Round.l1 (k + 1) y0 y1 y2 y3 y4 y5 y6 y7 y8 y9 y10)) ∧ (∀ y0 y1 y2 y3 y4 y5 y6 y7 y8 y9 y10 y11 y12, LeO (turn_Round.j2 k y0 y1 y2 y3 y4 y5 y6 y7 y8 y9 y10 y11 y12) (turn_Round.j2 (k + 1) y0 y1 y2 y3 y4 y5 y6 y7 y8 y9 y10 y11 y12))
  | 0 => ⟨fun _ _ _ _ _ _ _ _ r h => by simp [turn_Round.l0] at h, fun _ _ _ _ _ _ _ _ _ _ _ r h => by simp [turn_Round.l1] at h, fun _ _ _ _ _ _ _ _ _ _ _ _ _ r h => by simp [turn_Round.j2] at h⟩
  | k + 1 => by
    obtain ⟨ih0, ih1, ih2⟩ := turn_Round.mono_l k
    refine ⟨?_, ?_, ?_⟩
    · intro y0 y1 y2 y3 y4 y5 y6 y7
      unfold turn_Round.l0
      with_reducible repeat' first | exact ih0 _ _ _ _ _ _ _ _ | exact ih1 _ _ _ _ _ _ _ _ _ _ _ | exact ih2 _ _ _ _ _ _ _ _ _ _ _ _ _ | exact turn_read.mono _ _ | exact turn_table_fits.mono _ _ _ _ _ _ | exact turn_table_least.mono _ _ _ | exact turn_table_windows.mono _ _ _ _ _ | exact LeO.refl _ | exact LeO.none _ | refine LeO.ite ?_ ?_ | refine LeO.bind ?_ (fun _ => ?_)
    · intro y0 y1 y2 y3 y4 y5 y6 y7 y8 y9 y10
      unfold turn_Round.l1
      with_reducible repeat' first | exact ih0 _ _ _ _ _ _ _ _ | exact ih1 _ _ _ _ _ _ _ _ _ _ _ | exact ih2 _ _ _ _ _ _ _ _ _ _ _ _ _ | exact turn_read.mono _ _ | exact turn_table_fits.mono _ _ _ _ _ _ | exact turn_table_least.mono _ _ _ | exact turn_table_windows.mono _ _ _ _ _ | exact LeO.refl _ | exact LeO.none _ | refine LeO.ite ?_ ?_ | refine LeO.bind ?_ (fun _ => ?_)
    · intro y0 y1 y2 y3 y4 y5 y6 y7 y8 y9 y10 y11 y12
      unfold turn_Round.j2
      with_reducible repeat' first | exact ih0 _ _ _ _ _ _ _ _ | exact ih1 _ _ _ _ _ _ _ _ _ _ _ | exact ih2 _ _ _ _ _ _ _ _ _ _ _ _ _ | exact turn_read.mono _ _ | exact turn_table_fits.mono _ _ _ _ _ _ | exact turn_table_least.mono _ _ _ | exact turn_table_windows.mono _ _ _ _ _ | exact LeO.refl _ | exact LeO.none _ | refine LeO.ite ?_ ?_ | refine LeO.bind ?_ (fun _ => ?_)
theorem turn_Round.mono : ∀ a0 k, LeO (turn_Round.f k a0) (turn_Round.f (k + 1) a0) := by
  intro a0 k
  obtain ⟨ih0, ih1, ih2⟩ := turn_Round.mono_l k
  unfold turn_Round.f
  with_reducible repeat' first | exact ih0 _ _ _ _ _ _ _ _ | exact ih1 _ _ _ _ _ _ _ _ _ _ _ | exact ih2 _ _ _ _ _ _ _ _ _ _ _ _ _ | exact turn_read.mono _ _ | exact turn_table_fits.mono _ _ _ _ _ _ | exact turn_table_least.mono _ _ _ | exact turn_table_windows.mono _ _ _ _ _ | exact LeO.refl _ | exact LeO.none _ | refine LeO.ite ?_ ?_ | refine LeO.bind ?_ (fun _ => ?_)
def turn_Round.T13 : Bool × List (List Nat × List Nat) := (true, [([], []), ([], []), ([0, 1], [0, 1]), ([2], [2]), ([], []), ([], []), ([4, 5], [4, 5]), ([6], [6]), ([3, 7], [3, 7]), ([8], [8]), ([9], [9]), ([9], [9]), ([10, 11, 9], [9, 10, 11]), ([12, 9], [9, 12]), ([9], [9]), ([9], [9]), ([14, 15, 9], [9, 14, 15]), ([16, 9], [9, 16]), ([13, 17, 9], [9, 13, 17]), ([18, 9], [9, 18]), ([19, 9], [9, 19]), ([9], [9]), ([20, 21, 9], [9, 20, 21]), ([9, 22], [9, 22]), ([23, 9], [23]), ([24], [24]), ([24], [24]), ([25, 26, 24], [24, 25, 26]), ([27, 24], [24, 27]), ([24], [24]), ([24], [24]), ([29, 30, 24], [24, 29, 30]), ([31, 24], [24, 31]), ([28, 32, 24], [24, 28, 32]), ([33, 24], [24, 33]), ([34, 24], [24, 34]), ([24], [24]), ([35, 36, 24], [24, 35, 36]), ([24, 37], [24, 37])])
def turn_Round.B13 : List Nat := [0, 0, 3, 7, 0, 0, 48, 112, 255, 511, 1023, 1023, 4095, 8191, 1023, 1023, 50175, 115711, 262143, 524287, 1048575, 1023, 4194303, 8388607, 16777215, 33554431, 33554431, 134217727, 268435455, 33554431, 33554431, 1644167167, 3791650815, 8589934591, 17179869183, 34359738367, 33554431, 137438953471, 274877906943]
theorem turn_Round.tab13 : rtab .any (opsOf Tryd.f20 13) = turn_Round.T13 := by kernel_rfl
theorem turn_Round.bits13 : waitsOk turn_Round.T13.2 turn_Round.B13 = true := by kernel_rfl
set_option maxHeartbeats 8000000 in
set_option maxRecDepth 100000 in
theorem turn_Round.calls (k : Nat) (A0 : Option Addr) (c0 : Nat) (l0 : List Int) (r1 : List Int) (r2 : Int) (w : World) (hr0 : Kd.C (Kd.int .i64) w A0 l0.length l0) (hc0 : l0.length ≤ c0) (h : turn_Round.f k l0 = some (r1, r2)) (hN0 : NoneLaid w) :
    Calls Tryd.prog 20 #[.slice A0 l0.length c0] w fun e w' => ∃ v0_ : Value, e = .returned (.tuple #[v0_, .int .i64 r2]) ∧ Kd.R (Kd.int .i64) 3 w' w.heap.size (fun _ => True) v0_ r1 ∧ Below w.heap.size w w' := by
 have HN := Aside0.mk hN0
 clear hN0
 have hu60 := Tryd.underlying60
 have HR0 := Aside0.mk hr0
 have HC0 := Aside0.mk hc0
 clear hr0 hc0
 have HB := Aside0.mk (Below.refl w.heap.size w)
 have H : ((turn_read.f k l0).bind fun bt169 => (if bt169.2.2 = 0 then ((turn_table_least.f k bt169.1 bt169.2.1).bind fun bt175 => ((turn_table_windows.f k bt169.1 bt169.2.1 bt175.1 bt175.2).bind fun t177 => (if 0 ≤ (l0.length : Int) then (if ((l0.length : Int) : Int).toNat ≤ 35184372088832 then (turn_Round.l0 k l0 t177 (List.replicate ((l0.length : Int) : Int).toNat 0) ([] : List Int) bt169.2.1 0 bt169.1 bt169.2.1) else (none)) else (none)))) else (some (([] : List Int), bt169.2.2)))) = some (r1, r2) := h
 clear h
 obtain ⟨⟨t169, t172, t173⟩, A2, H⟩ := bi_ H
 replace H : (if t173 = 0 then ((turn_table_least.f k t169 t172).bind fun bt175 => ((turn_table_windows.f k t169 t172 bt175.1 bt175.2).bind fun t177 => (if 0 ≤ (l0.length : Int) then (if ((l0.length : Int) : Int).toNat ≤ 35184372088832 then (turn_Round.l0 k l0 t177 (List.replicate ((l0.length : Int) : Int).toNat 0) ([] : List Int) t172 0 t169 t172) else (none)) else (none)))) else (some (([] : List Int), t173))) = some (r1, r2) := H
 by_cases c3 : t173 = 0
 ·rw [if_pos c3] at H
  have c3b0 : (t173 == 0) = true := beq_iff_eq.mpr c3
  have c3b1 : (t173 != 0) = false := bne_eq_false_iff_eq.mpr c3
  clear c3
  obtain ⟨⟨t175, t176⟩, A4, H⟩ := bi_ H
  replace H : ((turn_table_windows.f k t169 t172 t175 t176).bind fun t177 => (if 0 ≤ (l0.length : Int) then (if ((l0.length : Int) : Int).toNat ≤ 35184372088832 then (turn_Round.l0 k l0 t177 (List.replicate ((l0.length : Int) : Int).toNat 0) ([] : List Int) t172 0 t169 t172) else (none)) else (none))) = some (r1, r2) := H
  obtain ⟨t177, A5, H⟩ := bi_ H
  replace H : (if 0 ≤ (l0.length : Int) then (if ((l0.length : Int) : Int).toNat ≤ 35184372088832 then (turn_Round.l0 k l0 t177 (List.replicate ((l0.length : Int) : Int).toNat 0) ([] : List Int) t172 0 t169 t172) else (none)) else (none)) = some (r1, r2) := H
  have c6 : 0 ≤ (l0.length : Int) := fl_ fun c6 => by rw [if_neg c6] at H; exact absurd H (by simp)
  rw [if_pos c6] at H
  have c6b0 := eq_true c6
  have c6b1 : decide (0 ≤ (l0.length : Int)) = true := decide_eq_true c6
  clear c6
  have c7 : ((l0.length : Int) : Int).toNat ≤ 35184372088832 := fl_ fun c7 => by rw [if_neg c7] at H; exact absurd H (by simp)
  rw [if_pos c7] at H
  have c7b0 := eq_true c7
  have c7b1 : decide (((l0.length : Int) : Int).toNat ≤ 35184372088832) = true := decide_eq_true c7
  clear c7
  obtain ⟨y180, hy180⟩ : ∃ y_ : List Int, y_ = (List.replicate ((l0.length : Int) : Int).toNat 0) := ⟨_, rfl⟩
  replace H : (turn_Round.l0 k l0 t177 y180 ([] : List Int) t172 0 t169 t172) = some (r1, r2) := by first | (rw [hy180]; with_reducible exact H) | (have H2_ := (Option.bind_some _ _).symm.trans H; rw [hy180]; with_reducible exact H2_) | (have H2_ := (Option.bind_some _ _).symm.trans H; with_reducible exact H2_) | with_reducible exact H | (rw [hy180]; exact H) | exact H
  have Ny180 := Aside0.mk hy180
  clear hy180
  have H' := Aside0.mk H
  clear H
  go_enter Tryd.func20, Tryd.ntmps20
  try go_wp2_with (first | ((with_reducible refine gate_callee (f := 43) rfl ?_); refine goesL_ (some 13) rfl rfl Tryd.func43 (by kernel_rfl) rfl #[.slice A0 l0.length c0] rfl (as_) ?_; (with_reducible refine (turn_read.calls k (fun k_ => k_ < w.heap.size) _ _ l0 t169 t172 t173 _ ?side1 A2.out).mono ?_); (case side1 => exact Kd.V_mk HC0.out (Kd.F_below (Kd.C_F (Kd.heap_int .i64) HR0.out) (bl_))); rintro e w8 ⟨v170, rfl, ho0, hb⟩; refine ⟨_, rfl, ?_⟩; have HO171 := Aside0.mk (Kd.V_lower (Kd.V_mono (ok' := fun k_ => True) ho0 (fun k_ hk_ => trivial)) (below_size (bl_))); replace HB := hb_ hb; clear hb ho0) | ((with_reducible refine gate_dst (N := 4) rfl ?_); refine be_ #[.slice none 0 0, .int .i64 0] 60 ?_; intro gb174 hg w9 hbox hb; replace HO171 := ve_ HO171 hg hb; have BK174 := Aside0.mk (hbox); have GW174 := gw_ hg; have GE174 := gw_ hg; replace HB := hb_ hb; clear hb hbox hg; obtain ⟨Ao10, co10, eo10⟩ := Kd.V_slice HO171.out; subst eo10; have hcz11_0 := bc_ BK174 0 (.slice none 0 0); have hcz11_1 := bc_ BK174 1 (.int .i64 0); have hfz11_0 := bz_ BK174 0; have hfz11_1 := bz_ BK174 1))
  have n0_ : Aside0 (Kd.V (Kd.int .i64) 3 ((w9.setCell ⟨gb174, 0, none⟩ (.slice Ao10 t169.length co10)).setCell ⟨gb174, 1, none⟩ (.int .i64 t172)) w.heap.size (fun k_ => k_ ≠ gb174) (.slice Ao10 t169.length co10) t169) := ⟨by refine kv_ ?_; exact Kd.V_mono (Kd.V_far (p := ⟨gb174, 1, none⟩) (Kd.V_far (p := ⟨gb174, 0, none⟩) (Kd.V_mono HO171.out (fun k_ hk => (⟨hk, hk.2⟩ : _ ∧ k_ ≠ gb174))) (fun _ hk => hk.2) (.slice Ao10 t169.length co10)) (fun _ hk => hk.2) (.int .i64 t172)) (fun _ hk => hk.1.2)⟩
  have n1_ : Aside0 (((w9.setCell ⟨gb174, 0, none⟩ (.slice Ao10 t169.length co10)).setCell ⟨gb174, 1, none⟩ (.int .i64 t172)).heap[gb174]? = some (.cells #[.slice Ao10 t169.length co10, .int .i64 t172] 60 (0, 0))) := ⟨by refine bk_ ?_; refine blk_put (cs := #[.slice Ao10 t169.length co10, .int .i64 0]) ?_ 1 _ rfl; refine bk_ ?_; refine blk_put (cs := #[.slice none 0 0, .int .i64 0]) ?_ 0 _ rfl; refine bk_ ?_; exact BK174.out⟩
  have n2_ : Aside0 (Below w.heap.size w ((w9.setCell ⟨gb174, 0, none⟩ (.slice Ao10 t169.length co10)).setCell ⟨gb174, 1, none⟩ (.int .i64 t172))) := ⟨bl_⟩
  (try clear HO171)
  (try clear BK174)
  (try clear HB)
  generalize ((w9.setCell ⟨gb174, 0, none⟩ (.slice Ao10 t169.length co10)).setCell ⟨gb174, 1, none⟩ (.int .i64 t172)) = w12 at n0_ n1_ n2_ ⊢
  have HO171 := n0_
  have BK174 := n1_
  have HB := n2_
  clear n0_ n1_ n2_
  replace HO171 := Aside0.mk (Kd.V_drew HO171.out)
  replace BK174 := Aside0.mk (blk_drew BK174.out)
  replace HB := Aside0.mk (below_drew1 HB.out)
  refine start_ (n := 5) (S := fun w' => w'.cell? ⟨gb174, 0, none⟩ = some (.slice Ao10 t169.length co10) ∧ w'.cell? ⟨gb174, 1, none⟩ = some (.int .i64 t172)) (ds := []) #[false, false, false, false, false] (by kernel_rfl) rfl rfl ⟨(blk_cell BK174.out 0).trans rfl, (blk_cell BK174.out 1).trans rfl⟩ (fun hHeld => ?_)
  generalize w12.drew = w13 at HO171 BK174 HB hHeld ⊢
  refine take_ (i := 0) (N := some 19) (v := ?_) (a' := ?_) #[true, false, false, false, false] rfl rfl (by kernel_rfl) (fun _ _ _ h => h) (Or.inl ⟨by rfl, ?_⟩) hHeld ?_ ?_
  rotate_left
  ·rintro w' ⟨s0, s1⟩
   go_simp
   with_reducible rfl
  rotate_left
  ·simp only [Act.put, List.setIfInBounds_toArray, List.set_cons_zero, List.set_cons_succ, i64_w, i32_w]
   rfl
  refine take_ (i := 1) (N := some 20) (v := ?_) (a' := ?_) #[true, true, false, false, false] rfl rfl (by kernel_rfl) (fun _ _ _ h => h) (Or.inl ⟨by rfl, ?_⟩) hHeld ?_ ?_
  rotate_left
  ·rintro w' ⟨s0, s1⟩
   go_simp
   with_reducible rfl
  rotate_left
  ·simp only [Act.put, List.setIfInBounds_toArray, List.set_cons_zero, List.set_cons_succ, i64_w, i32_w]
   rfl
  refine one_ (i := 2) (N := some 21) #[true, true, true, false, false] rfl rfl (by kernel_rfl) (by decide) (fun K hK => ?_)
  refine goes_ Tryd.func44 (by kernel_rfl) rfl #[.agg #[.slice Ao10 t169.length co10, .int .i64 t172]] (by rfl) rfl rfl (as_) ?_
  with_reducible refine (turn_table_least.calls k _ _ t169 t172 t175 t176 _ ?side1 ?side2 A4.out (HN.out.of (bl_))).mono ?_
  (case side1 => repeat (first | exact (Kd.V_reads' HO171.out).2.2 | (with_reducible refine Kd.C_alloc ?_ _) | (with_reducible refine Kd.C_drewN ?_ _) | (with_reducible refine Kd.C_drew ?_)))
  (case side2 => exact (Kd.V_reads' HO171.out).2.1)
  rintro e w14 ⟨rfl, hb⟩
  refine ⟨_, rfl, ?_⟩
  replace HO171 := Aside0.mk (Kd.V_below (kv_ HO171.out) hb)
  replace BK174 := bb_ BK174 hb
  replace HB := hb_ hb
  clear hb
  refine hK.out _ _ ⟨(blk_cell BK174.out 0).trans rfl, (blk_cell BK174.out 1).trans rfl⟩ (fun hHeld => ?_)
  clear hK K
  refine np_ 21 (h := ?_)
  refine one_ (i := 3) (N := some 22) #[true, true, true, true, false] rfl rfl (by kernel_rfl) (by decide) (fun K hK => ?_)
  refine goes_ Tryd.func46 (by kernel_rfl) rfl #[.agg #[.slice Ao10 t169.length co10, .int .i64 t172], .agg #[.int .i64 t175, .int .i64 t176]] (by rfl) rfl rfl (as_) ?_
  with_reducible refine (turn_table_windows.calls k _ _ t169 t172 t175 t176 t177 _ ?side1 ?side2 A5.out (HN.out.of (bl_))).mono ?_
  (case side1 => repeat (first | exact (Kd.V_reads' HO171.out).2.2 | (with_reducible refine Kd.C_alloc ?_ _) | (with_reducible refine Kd.C_drewN ?_ _) | (with_reducible refine Kd.C_drew ?_)))
  (case side2 => exact (Kd.V_reads' HO171.out).2.1)
  rintro e w15 ⟨v178, rfl, ho0, hb⟩
  refine ⟨_, rfl, ?_⟩
  replace HO171 := Aside0.mk (Kd.V_elder' (kv_ HO171.out) (Kd.S_base ho0) hb)
  have HO179 := Aside0.mk (Kd.S_lower ho0 (below_size (bl_)))
  replace BK174 := bb_ BK174 hb
  replace HB := hb_ hb
  clear hb ho0
  refine hK.out _ _ ⟨(blk_cell BK174.out 0).trans rfl, (blk_cell BK174.out 1).trans rfl⟩ (fun hHeld => ?_)
  clear hK K
  refine np_ 22 (h := ?_)
  refine pure_ (i := 4) (N := some 6) (v := ?_) (a' := ?_) #[true, true, true, true, true] rfl rfl (by kernel_rfl) (fun _ _ _ h => h) (Or.inl ⟨by rfl, ?_⟩) ?_ ?_
  rotate_left
  ·intro w'
   go_simp
   with_reducible rfl
  rotate_left
  ·simp only [Act.put, List.setIfInBounds_toArray, List.set_cons_zero, List.set_cons_succ, i64_w, i32_w]
   rfl
  refine done_ (by kernel_rfl) ?_
  try go_wp2_with (first | ((with_reducible refine gate_dst (N := 25) rfl ?_); refine Kd.R_make (Kd.int .i64) _ 3 rfl (N := 25) rfl 22 _ _ rfl (l0.length : Int) rfl rfl Tryd.underlying22 (.int .i64 0) 8 info3 rfl (by decide) (by omega) 0 (ok := fun _ => True) (okp := fun _ => True) rfl (fun _ hk => hk) trivial (od_) (Nat.le_trans (Nat.mul_le_mul_right _ (od_ : (l0.length : Int).toNat ≤ 35184372088832)) (by omega)) (Below.refl _ _) (Nat.le_refl _) ?_; intro v181 w16 ho17 hb hg_ hnew_; clear hg_ hnew_; (first | rw [← Ny180.out] at ho17 | (simp only [Int.reduceToNat] at ho17; rw [← Ny180.out] at ho17)); replace HO171 := Aside0.mk (Kd.V_elder' (kv_ HO171.out) (Kd.R_base ho17) hb); replace HO179 := Aside0.mk (Kd.S_below (ks_ HO179.out) hb); have HO182 := rl_ ho17; replace BK174 := bb_ BK174 hb; replace HB := hb_ hb; clear hb ho17; have hcz18_0 := bc_ BK174 0 (.slice Ao10 t169.length co10); have hcz18_1 := bc_ BK174 1 (.int .i64 t172); have hfz18_0 := bz_ BK174 0; have hfz18_1 := bz_ BK174 1))
  go_loopg [8, 28] k (fun kq v8 v28 w' => ∃ (x7_1 : List Int) (x8_1 : List Int) (x28_1 : Int), v28 = .int .i64 x28_1 ∧ Aside0 (turn_Round.l0 kq l0 t177 x7_1 x8_1 t172 x28_1 t169 t172 = some (r1, r2)) ∧ Aside0 (kq ≤ k) ∧ Aside0 (Kd.S (Kd.slice 51 k51) 49 w' w.heap.size (fun _ => True) v178 t177) ∧ Aside0 (Kd.R (Kd.int .i64) 3 w' w.heap.size (fun k_ => some k_ ≠ (v8 : Value).ownBlock) v181 x7_1) ∧ Aside0 (Kd.R (Kd.int .i64) 3 w' w.heap.size (fun k_ => some k_ ≠ (v181 : Value).ownBlock) v8 x8_1) ∧ Aside0 (Kd.V (Kd.int .i64) 3 w' w.heap.size (fun k_ => some k_ ≠ (v178 : Value).ownBlock ∧ some k_ ≠ (v181 : Value).ownBlock ∧ some k_ ≠ (v8 : Value).ownBlock ∧ k_ ≠ gb174) (.slice Ao10 t169.length co10) t169) ∧ Aside0 (w'.heap[gb174]? = some (.cells #[(.slice Ao10 t169.length co10), .int .i64 t172] 60 (0, 0))) ∧ Aside0 (Below w.heap.size w w'))
  case atStart => exact ⟨(y180), (([] : List Int)), (0), rs_, H', ⟨Nat.le_refl _⟩, ⟨ks_ HO179.out⟩, ⟨by refine kr_ ?_; exact Kd.R_mono HO182.out (fun _ hk => (by simp [Value.ownBlock]))⟩, ⟨by first | exact Kd.R_nil _ _ _ _ _ | exact Kd.N_nil _ _ _ _ _ | exact Kd.V_nil _ _ _ _ _ | exact Kd.Q_nil _ _ _ _ _ | exact Kd.S_nil _ _ _ _ _⟩, ⟨by refine kv_ ?_; exact Kd.V_mono HO171.out (fun _ hk => ⟨hk.1.2, ⟨hk.2, ⟨(by simp [Value.ownBlock]), hk.1.1⟩⟩⟩)⟩, ⟨bk_ BK174.out⟩, ⟨bl_⟩⟩
  case round =>
   clear H'
   try clear c2
   try clear p2
   try clear c3
   try clear c3b0
   try clear c3b1
   try clear c4
   try clear c6
   try clear c6b0
   try clear c6b1
   try clear c7
   try clear c7b0
   try clear c7b1
   try clear hcz11_0
   try clear hcz11_1
   try clear hcz18_0
   try clear hcz18_1
   try clear hfz11_0
   try clear hfz11_1
   try clear hfz18_0
   try clear hfz18_1
   obtain ⟨x7_1, x8_1, x28_1, rfl, HA, HK1, HO_6, HO_7, HO_8, HO_175000, BK174, HB⟩ := hrel
   cases gk with
   | zero => exact absurd HA.out (by simp [turn_Round.l0])
   | succ k1 =>
    have H := HA.out
    clear HA
    simp only [turn_Round.l0] at H
    by_cases c19 : x28_1 < t172
    ·rw [if_pos c19] at H
     have c19b0 : decide (x28_1 < t172) = true := decide_eq_true c19
     clear c19
     have H' := Aside0.mk H
     clear H
     obtain ⟨Ao20, co20, eo20⟩ := Kd.R_slice HO_7.out
     subst eo20
     go_wp2
     go_loopg [8, 33] k1 (fun kq v8 v33 w' => ∃ (x7_2 : List Int) (x8_2 : List Int) (x33_2 : Int), v33 = .int .i64 x33_2 ∧ Aside0 (turn_Round.l1 kq l0 t177 x7_2 x8_2 x28_1 t172 x28_1 (x7_1.length : Int) x33_2 t169 t172 = some (r1, r2)) ∧ Aside0 (kq ≤ k1) ∧ Aside0 (Kd.S (Kd.slice 51 k51) 49 w' w.heap.size (fun _ => True) v178 t177) ∧ Aside0 (Kd.R (Kd.int .i64) 3 w' w.heap.size (fun k_ => some k_ ≠ (v8 : Value).ownBlock) (.slice Ao20 x7_1.length co20) x7_2) ∧ Aside0 (Kd.R (Kd.int .i64) 3 w' w.heap.size (fun k_ => some k_ ≠ ((.slice Ao20 x7_1.length co20) : Value).ownBlock) v8 x8_2) ∧ Aside0 (Kd.V (Kd.int .i64) 3 w' w.heap.size (fun k_ => some k_ ≠ (v178 : Value).ownBlock ∧ some k_ ≠ ((.slice Ao20 x7_1.length co20) : Value).ownBlock ∧ some k_ ≠ (v8 : Value).ownBlock ∧ k_ ≠ gb174) (.slice Ao10 t169.length co10) t169) ∧ Aside0 (w'.heap[gb174]? = some (.cells #[(.slice Ao10 t169.length co10), .int .i64 t172] 60 (0, 0))) ∧ Aside0 (Below w.heap.size w w'))
     case atStart => exact ⟨(x7_1), (x8_1), (0), rs_, H', ⟨Nat.le_refl _⟩, ⟨ks_ HO_6.out⟩, ⟨kr_ HO_7.out⟩, ⟨kr_ HO_8.out⟩, ⟨kv_ HO_175000.out⟩, ⟨bk_ BK174.out⟩, ⟨bl_⟩⟩
     case round =>
      clear H'
      try clear c1
      try clear c2
      try clear p2
      try clear c3
      try clear c3b0
      try clear c3b1
      try clear c4
      try clear c6
      try clear c6b0
      try clear c6b1
      try clear c7
      try clear c7b0
      try clear c7b1
      try clear c19
      try clear c19b0
      try clear c20
      try clear hcz11_0
      try clear hcz11_1
      try clear hcz18_0
      try clear hcz18_1
      try clear hfz11_0
      try clear hfz11_1
      try clear hfz18_0
      try clear hfz18_1
      try clear p2
      obtain ⟨x7_2, x8_2, x33_2, rfl, HA, HK2, HO_6, HO_7, HO_8, HO_175000, BK174, HB⟩ := hrel
      have hl7_2 := (Kd.R_reads' HO_7.out).1
      rw [hl7_2] at HO_7
      (try simp only [hl7_2])
      (try simp only [hl7_2] at BK174)
      (try simp only [hl7_2] at HO_6)
      (try simp only [hl7_2] at HO_8)
      (try simp only [hl7_2] at HO_175000)
      cases gk with
      | zero => exact absurd HA.out (by simp [turn_Round.l1])
      | succ k2 =>
       have H := HA.out
       clear HA
       simp only [turn_Round.l1] at H
       by_cases c21 : x33_2 < (x7_1.length : Int)
       ·rw [if_pos c21] at H
        have c21b0 : decide (x33_2 < (x7_1.length : Int)) = true := decide_eq_true c21
        have c21b0x : decide (x33_2 < (x7_2.length : Int)) = true := by rw [← hl7_2]; exact c21b0
        clear c21
        have HC22 := Aside0.mk H
        clear H
        go_upto_region 13 with (fail)
        go_cut [74] (fun v74 wc => ∃ (kq : Nat) (x74_21 : Bool), v74 = .bool x74_21 ∧ Aside0 (turn_Round.j2 kq l0 t177 x7_2 x8_2 x28_1 x33_2 t172 x28_1 (x7_1.length : Int) x33_2 x74_21 t169 t172 = some (r1, r2)) ∧ Aside0 (kq ≤ k2) ∧ Aside0 (Kd.S (Kd.slice 51 k51) 49 wc w.heap.size (fun _ => True) v178 t177) ∧ Aside0 (Kd.R (Kd.int .i64) 3 wc w.heap.size (fun k_ => some k_ ≠ (u8 : Value).ownBlock) (.slice Ao20 x7_2.length co20) x7_2) ∧ Aside0 (Kd.R (Kd.int .i64) 3 wc w.heap.size (fun k_ => some k_ ≠ ((.slice Ao20 x7_2.length co20) : Value).ownBlock) u8 x8_2) ∧ Aside0 (Kd.V (Kd.int .i64) 3 wc w.heap.size (fun k_ => some k_ ≠ (v178 : Value).ownBlock ∧ some k_ ≠ ((.slice Ao20 x7_2.length co20) : Value).ownBlock ∧ some k_ ≠ (u8 : Value).ownBlock ∧ k_ ≠ gb174) (.slice Ao10 t169.length co10) t169) ∧ Aside0 (wc.heap[gb174]? = some (.cells #[(.slice Ao10 t169.length co10), .int .i64 t172] 60 (0, 0))) ∧ Aside0 (Below w.heap.size w wc))
        case first =>
         have H := HC22.out
         clear HC22
         obtain ⟨c23b0, H⟩ := fp_ H
         (first | rw [c23b0] | (simp only [i64_w, i32_w]; rw [c23b0]) | skip)
         obtain ⟨c24b0, H⟩ := fp_ H
         obtain ⟨c25b0, H⟩ := fp_ H
         by_cases c26 : (rd x7_2 x33_2) = (rd l0 x33_2)
         ·rw [if_pos c26] at H
          have c26b0 : ((rd x7_2 x33_2) == (rd l0 x33_2)) = true := beq_iff_eq.mpr c26
          have c26b1 : ((rd x7_2 x33_2) != (rd l0 x33_2)) = false := bne_eq_false_iff_eq.mpr c26
          clear c26
          have H' := Aside0.mk H
          clear H
          try go_wp2
          replace HO_6 := Aside0.mk (Kd.S_drew HO_6.out)
          replace HO_7 := Aside0.mk (Kd.R_drew HO_7.out)
          replace HO_8 := Aside0.mk (Kd.R_drew HO_8.out)
          replace HO_175000 := Aside0.mk (Kd.V_drew HO_175000.out)
          replace BK174 := Aside0.mk (blk_drew BK174.out)
          replace HB := Aside0.mk (below_drew1 HB.out)
          obtain ⟨ad183, e183, hx183_0, p183, q183⟩ := ai_ (Kd.R_reads' HO_7.out).2.2 x33_2
          cases e183
          have p184 : 0 ≤ (x33_2 : Int) := od_
          have q184 : x33_2 < (l0.length : Int) := od_
          obtain ⟨ad184, e184, hx184_0⟩ := Kd.at_int HR0.out x33_2 p184 q184
          have hw184_0 := hx184_0
          cases e184
          replace hx184_0 := hc_ HB hx184_0
          replace p184 := eq_true p184
          replace q184 := eq_true q184
          refine start_ (n := 39) (S := fun w' => w'.cell? (ad183.add (x33_2).toNat) = some (.int .i64 (rd x7_2 x33_2)) ∧ w'.cell? (ad184.add (x33_2).toNat) = some (.int .i64 (rd l0 x33_2))) (ds := []) #[false, false, false, false, false, false, false, false, false, false, false, false, false, false, false, false, false, false, false, false, false, false, false, false, false, false, false, false, false, false, false, false, false, false, false, false, false, false, false] (by kernel_rfl) rfl rfl ⟨hx183_0, (hc_ HB hw184_0)⟩ (fun hHeld => ?_); refine with_tabW turn_Round.tab13 turn_Round.bits13 (fun HT_ HW_ => ?_)
          generalize wr.drew = w27 at HO_6 HO_7 HO_8 HO_175000 BK174 HB hx183_0 hx184_0 hHeld ⊢
          refine pu_ 0 36 HT_.out (h := ?_)
          refine pu_ 1 37 HT_.out (h := ?_)
          refine pu_ 2 38 HT_.out (h := ?_)
          refine pu_ 4 40 HT_.out (h := ?_)
          refine pu_ 5 41 HT_.out (h := ?_)
          refine pu_ 6 42 HT_.out (h := ?_)
          refine ta_ 3 39 HT_.out HW_.out hHeld (h := ?_)
          refine ta_ 7 43 HT_.out HW_.out hHeld (h := ?_)
          refine pu_ 8 44 HT_.out (h := ?_)
          refine pu_ 9 45 HT_.out (h := ?_)
          refine pn_ 10 46 HT_.out (h := ?_)
          refine pn_ 11 47 HT_.out (h := ?_)
          refine pn_ 12 48 HT_.out (h := ?_)
          refine pn_ 13 49 HT_.out (h := ?_)
          refine pn_ 14 50 HT_.out (h := ?_)
          refine pn_ 15 51 HT_.out (h := ?_)
          refine pn_ 16 52 HT_.out (h := ?_)
          refine pn_ 17 53 HT_.out (h := ?_)
          refine pn_ 18 54 HT_.out (h := ?_)
          refine pn_ 19 55 HT_.out (h := ?_)
          refine pn_ 20 56 HT_.out (h := ?_)
          refine pn_ 21 57 HT_.out (h := ?_)
          refine pn_ 22 58 HT_.out (h := ?_)
          refine pu_ 23 59 HT_.out (h := ?_)
          refine pu_ 24 60 HT_.out (h := ?_)
          refine pn_ 25 61 HT_.out (h := ?_)
          refine pn_ 26 62 HT_.out (h := ?_)
          refine pn_ 27 63 HT_.out (h := ?_)
          refine pn_ 28 64 HT_.out (h := ?_)
          refine pn_ 29 65 HT_.out (h := ?_)
          refine pn_ 30 66 HT_.out (h := ?_)
          refine pn_ 31 67 HT_.out (h := ?_)
          refine pn_ 32 68 HT_.out (h := ?_)
          refine pn_ 33 69 HT_.out (h := ?_)
          refine pn_ 34 70 HT_.out (h := ?_)
          refine pn_ 35 71 HT_.out (h := ?_)
          refine pn_ 36 72 HT_.out (h := ?_)
          refine pn_ 37 73 HT_.out (h := ?_)
          refine pu_ 38 74 HT_.out (h := ?_)
          refine done_ (done_of HT_.out (by kernel_rfl)) ?_
          try go_wp2
          go_meet
          case rel => exact ⟨_, (true), rs_, H', ⟨by have := HK1.out; have := HK2.out; first | omega | exact Nat.le_refl _⟩, ⟨by (try simp only [hl7_2]); refine ks_ ?_; exact HO_6.out⟩, ⟨by (try simp only [hl7_2]); refine kr_ ?_; exact HO_7.out⟩, ⟨by (try simp only [hl7_2]); refine kr_ ?_; exact HO_8.out⟩, ⟨by (try simp only [hl7_2]); refine kv_ ?_; exact HO_175000.out⟩, ⟨by (try simp only [hl7_2]); refine bk_ ?_; exact BK174.out⟩, ⟨bl_⟩⟩
         ·rw [if_neg c26] at H
          have c26b0 : ((rd x7_2 x33_2) == (rd l0 x33_2)) = false := beq_eq_false_iff_ne.mpr c26
          have c26b1 : ((rd x7_2 x33_2) != (rd l0 x33_2)) = true := bne_iff_ne.mpr c26
          obtain ⟨c28b0, H⟩ := fp_ H
          obtain ⟨c29b0, H⟩ := fp_ H
          obtain ⟨c30b0, H⟩ := fp_ H
          by_cases c31 : ((rd_T51 (rd_L2 t177 x33_2) (rd x7_2 x33_2)).f0) > x28_1
          ·rw [if_pos c31] at H
           have c31b0 : decide (x28_1 < ((rd_T51 (rd_L2 t177 x33_2) (rd x7_2 x33_2)).f0)) = true := decide_eq_true c31
           clear c31
           have H' := Aside0.mk H
           clear H
           try go_wp2
           replace HO_6 := Aside0.mk (Kd.S_drew HO_6.out)
           replace HO_7 := Aside0.mk (Kd.R_drew HO_7.out)
           replace HO_8 := Aside0.mk (Kd.R_drew HO_8.out)
           replace HO_175000 := Aside0.mk (Kd.V_drew HO_175000.out)
           replace BK174 := Aside0.mk (blk_drew BK174.out)
           replace HB := Aside0.mk (below_drew1 HB.out)
           obtain ⟨ad183, e183, hx183_0, p183, q183⟩ := ai_ (Kd.R_reads' HO_7.out).2.2 x33_2
           cases e183
           have p184 : 0 ≤ (x33_2 : Int) := od_
           have q184 : x33_2 < (l0.length : Int) := od_
           obtain ⟨ad184, e184, hx184_0⟩ := Kd.at_int HR0.out x33_2 p184 q184
           have hw184_0 := hx184_0
           cases e184
           replace hx184_0 := hc_ HB hx184_0
           replace p184 := eq_true p184
           replace q184 := eq_true q184
           obtain ⟨Ao33, co33, eo33⟩ := Kd.S_slice HO_6.out
           (first | subst eo33 | (injection eo33 with f1_ f2_ f3_; have f4_ := f1_.symm; have f5_ := f3_.symm; clear f1_ f2_ f3_; subst f4_; subst f5_))
           have p185 : 0 ≤ (x33_2 : Int) := od_
           have q185 : x33_2 < (t177.length : Int) := od_
           obtain ⟨ad185, A185_0, c185_0, e185, hx185_0, hl185_0, hi185_0⟩ := at_L2 (Kd.S_reads' HO_6.out).2.2 x33_2 p185 q185
           cases e185
           obtain ⟨ce185, hce185, hMe185, hcc185⟩ := Kd.S_get HO_6.out [] x33_2 p185 (by first | exact q185 | exact od_ | (have e_ := (Kd.S_reads' HO_6.out).1; omega))
           obtain ⟨ve185_0, rfl, ge185_0⟩ := hMe185
           have hv185_0 := hcc185 0 _ rfl
           rw [Nat.add_zero, show ((Kd.slice 51 k51)).sz = 1 from rfl, Nat.mul_one] at hv185_0
           replace hv185_0 := Option.some.inj (hv185_0.symm.trans hx185_0)
           rw [hv185_0] at ge185_0
           have HL185_0 := Aside0.mk (show Kd.R k51 51 _ _ _ _ (rd_L2 t177 x33_2) from ge185_0)
           clear hv185_0 ge185_0
           clear hcc185 hce185
           have HR185_0 := Aside0.mk hi185_0
           have HC185_0 := Aside0.mk hl185_0
           clear hi185_0 hl185_0
           replace p185 := eq_true p185
           replace q185 := eq_true q185
           obtain ⟨ad186, e186, hx186_0, p186, q186⟩ := ai_ (Kd.R_reads' HO_7.out).2.2 x33_2
           obtain rfl : ad183 = ad186 := (by injection e186)
           have p187 : 0 ≤ ((rd x7_2 x33_2) : Int) := od_
           have q187 : (rd x7_2 x33_2) < ((rd_L2 t177 x33_2).length : Int) := od_
           obtain ⟨ad187, e187, hx187_0, hx187_1⟩ := at_T51 (by repeat (first | (with_reducible exact HR185_0.out) | (with_reducible refine Kd.C_alloc ?_ _) | (with_reducible refine Kd.C_drewN ?_ _) | (with_reducible refine Kd.C_drew ?_) | exact HR185_0.out)) (rd x7_2 x33_2) p187 q187
           cases e187
           replace p187 := eq_true p187
           replace q187 := eq_true q187
           refine start_ (n := 39) (S := fun w' => w'.cell? (ad183.add (x33_2).toNat) = some (.int .i64 (rd x7_2 x33_2)) ∧ w'.cell? (ad184.add (x33_2).toNat) = some (.int .i64 (rd l0 x33_2)) ∧ w'.cell? (ad185.add (x33_2).toNat) = some (.slice (some ad187) (rd_L2 t177 x33_2).length c185_0) ∧ w'.cell? (ad183.add (x33_2).toNat) = some (.int .i64 (rd x7_2 x33_2)) ∧ w'.cell? (ad187.add (((rd x7_2 x33_2)).toNat * 2)) = some (.int .i64 ((rd_T51 (rd_L2 t177 x33_2) (rd x7_2 x33_2)).f0)) ∧ w'.cell? ⟨(ad187.add (((rd x7_2 x33_2)).toNat * 2)).block, (ad187.add (((rd x7_2 x33_2)).toNat * 2)).off + 1, none⟩ = some (.int .i64 ((rd_T51 (rd_L2 t177 x33_2) (rd x7_2 x33_2)).f1))) (ds := []) #[false, false, false, false, false, false, false, false, false, false, false, false, false, false, false, false, false, false, false, false, false, false, false, false, false, false, false, false, false, false, false, false, false, false, false, false, false, false, false] (by kernel_rfl) rfl rfl ⟨hx183_0, (hc_ HB hw184_0), hx185_0, hx186_0, hx187_0, hx187_1⟩ (fun hHeld => ?_); refine with_tabW turn_Round.tab13 turn_Round.bits13 (fun HT_ HW_ => ?_)
           generalize wr.drew = w32 at HO_6 HO_7 HO_8 HO_175000 BK174 HB HL185_0 HR185_0 hx183_0 hx184_0 hx185_0 hx186_0 hx187_0 hx187_1 hHeld ⊢
           refine pu_ 0 36 HT_.out (h := ?_)
           refine pu_ 1 37 HT_.out (h := ?_)
           refine pu_ 2 38 HT_.out (h := ?_)
           refine pu_ 4 40 HT_.out (h := ?_)
           refine pu_ 5 41 HT_.out (h := ?_)
           refine pu_ 6 42 HT_.out (h := ?_)
           refine ta_ 3 39 HT_.out HW_.out hHeld (h := ?_)
           refine ta_ 7 43 HT_.out HW_.out hHeld (h := ?_)
           refine pu_ 8 44 HT_.out (h := ?_)
           refine pu_ 9 45 HT_.out (h := ?_)
           refine pu_ 10 46 HT_.out (h := ?_)
           refine pu_ 11 47 HT_.out (h := ?_)
           refine pu_ 12 48 HT_.out (h := ?_)
           refine pu_ 14 50 HT_.out (h := ?_)
           refine pu_ 15 51 HT_.out (h := ?_)
           refine pu_ 16 52 HT_.out (h := ?_)
           refine pu_ 21 57 HT_.out (h := ?_)
           refine ta_ 13 49 HT_.out HW_.out hHeld (h := ?_)
           refine ta_ 17 53 HT_.out HW_.out hHeld (h := ?_)
           refine pu_ 18 54 HT_.out (h := ?_)
           refine pu_ 19 55 HT_.out (h := ?_)
           refine ta_ 20 56 HT_.out HW_.out hHeld (h := ?_)
           refine pu_ 22 58 HT_.out (h := ?_)
           refine pu_ 23 59 HT_.out (h := ?_)
           refine pu_ 24 60 HT_.out (h := ?_)
           refine pn_ 25 61 HT_.out (h := ?_)
           refine pn_ 26 62 HT_.out (h := ?_)
           refine pn_ 27 63 HT_.out (h := ?_)
           refine pn_ 28 64 HT_.out (h := ?_)
           refine pn_ 29 65 HT_.out (h := ?_)
           refine pn_ 30 66 HT_.out (h := ?_)
           refine pn_ 31 67 HT_.out (h := ?_)
           refine pn_ 32 68 HT_.out (h := ?_)
           refine pn_ 33 69 HT_.out (h := ?_)
           refine pn_ 34 70 HT_.out (h := ?_)
           refine pn_ 35 71 HT_.out (h := ?_)
           refine pn_ 36 72 HT_.out (h := ?_)
           refine pn_ 37 73 HT_.out (h := ?_)
           refine pu_ 38 74 HT_.out (h := ?_)
           refine done_ (done_of HT_.out (by kernel_rfl)) ?_
           try go_wp2
           go_meet
           case rel => exact ⟨_, (true), rs_, H', ⟨by have := HK1.out; have := HK2.out; first | omega | exact Nat.le_refl _⟩, ⟨by (try simp only [hl7_2]); refine ks_ ?_; exact HO_6.out⟩, ⟨by (try simp only [hl7_2]); refine kr_ ?_; exact HO_7.out⟩, ⟨by (try simp only [hl7_2]); refine kr_ ?_; exact HO_8.out⟩, ⟨by (try simp only [hl7_2]); refine kv_ ?_; exact HO_175000.out⟩, ⟨by (try simp only [hl7_2]); refine bk_ ?_; exact BK174.out⟩, ⟨bl_⟩⟩
          ·rw [if_neg c31] at H
           have c31b0 : decide (x28_1 < ((rd_T51 (rd_L2 t177 x33_2) (rd x7_2 x33_2)).f0)) = false := decide_eq_false c31
           clear c31
           have H' := Aside0.mk H
           clear H
           try go_wp2
           replace HO_6 := Aside0.mk (Kd.S_drew HO_6.out)
           replace HO_7 := Aside0.mk (Kd.R_drew HO_7.out)
           replace HO_8 := Aside0.mk (Kd.R_drew HO_8.out)
           replace HO_175000 := Aside0.mk (Kd.V_drew HO_175000.out)
           replace BK174 := Aside0.mk (blk_drew BK174.out)
           replace HB := Aside0.mk (below_drew1 HB.out)
           obtain ⟨ad183, e183, hx183_0, p183, q183⟩ := ai_ (Kd.R_reads' HO_7.out).2.2 x33_2
           cases e183
           have p184 : 0 ≤ (x33_2 : Int) := od_
           have q184 : x33_2 < (l0.length : Int) := od_
           obtain ⟨ad184, e184, hx184_0⟩ := Kd.at_int HR0.out x33_2 p184 q184
           have hw184_0 := hx184_0
           cases e184
           replace hx184_0 := hc_ HB hx184_0
           replace p184 := eq_true p184
           replace q184 := eq_true q184
           obtain ⟨Ao35, co35, eo35⟩ := Kd.S_slice HO_6.out
           (first | subst eo35 | (injection eo35 with f1_ f2_ f3_; have f4_ := f1_.symm; have f5_ := f3_.symm; clear f1_ f2_ f3_; subst f4_; subst f5_))
           have p185 : 0 ≤ (x33_2 : Int) := od_
           have q185 : x33_2 < (t177.length : Int) := od_
           obtain ⟨ad185, A185_0, c185_0, e185, hx185_0, hl185_0, hi185_0⟩ := at_L2 (Kd.S_reads' HO_6.out).2.2 x33_2 p185 q185
           cases e185
           obtain ⟨ce185, hce185, hMe185, hcc185⟩ := Kd.S_get HO_6.out [] x33_2 p185 (by first | exact q185 | exact od_ | (have e_ := (Kd.S_reads' HO_6.out).1; omega))
           obtain ⟨ve185_0, rfl, ge185_0⟩ := hMe185
           have hv185_0 := hcc185 0 _ rfl
           rw [Nat.add_zero, show ((Kd.slice 51 k51)).sz = 1 from rfl, Nat.mul_one] at hv185_0
           replace hv185_0 := Option.some.inj (hv185_0.symm.trans hx185_0)
           rw [hv185_0] at ge185_0
           have HL185_0 := Aside0.mk (show Kd.R k51 51 _ _ _ _ (rd_L2 t177 x33_2) from ge185_0)
           clear hv185_0 ge185_0
           clear hcc185 hce185
           have HR185_0 := Aside0.mk hi185_0
           have HC185_0 := Aside0.mk hl185_0
           clear hi185_0 hl185_0
           replace p185 := eq_true p185
           replace q185 := eq_true q185
           obtain ⟨ad186, e186, hx186_0, p186, q186⟩ := ai_ (Kd.R_reads' HO_7.out).2.2 x33_2
           obtain rfl : ad183 = ad186 := (by injection e186)
           have p187 : 0 ≤ ((rd x7_2 x33_2) : Int) := od_
           have q187 : (rd x7_2 x33_2) < ((rd_L2 t177 x33_2).length : Int) := od_
           obtain ⟨ad187, e187, hx187_0, hx187_1⟩ := at_T51 (by repeat (first | (with_reducible exact HR185_0.out) | (with_reducible refine Kd.C_alloc ?_ _) | (with_reducible refine Kd.C_drewN ?_ _) | (with_reducible refine Kd.C_drew ?_) | exact HR185_0.out)) (rd x7_2 x33_2) p187 q187
           cases e187
           replace p187 := eq_true p187
           replace q187 := eq_true q187
           have p188 : 0 ≤ (x33_2 : Int) := od_
           have q188 : x33_2 < (t177.length : Int) := od_
           obtain ⟨ad188, A188_0, c188_0, e188, hx188_0, hl188_0, hi188_0⟩ := at_L2 (Kd.S_reads' HO_6.out).2.2 x33_2 p188 q188
           obtain rfl : ad185 = ad188 := (by injection e188)
           obtain ⟨ce188, hce188, hMe188, hcc188⟩ := Kd.S_get HO_6.out [] x33_2 p188 (by first | exact q188 | exact od_ | (have e_ := (Kd.S_reads' HO_6.out).1; omega))
           obtain ⟨ve188_0, rfl, ge188_0⟩ := hMe188
           have hv188_0 := hcc188 0 _ rfl
           rw [Nat.add_zero, show ((Kd.slice 51 k51)).sz = 1 from rfl, Nat.mul_one] at hv188_0
           replace hv188_0 := Option.some.inj (hv188_0.symm.trans hx188_0)
           rw [hv188_0] at ge188_0
           have HL188_0 := Aside0.mk (show Kd.R k51 51 _ _ _ _ (rd_L2 t177 x33_2) from ge188_0)
           clear hv188_0 ge188_0
           clear hcc188 hce188
           have HR188_0 := Aside0.mk hi188_0
           have HC188_0 := Aside0.mk hl188_0
           clear hi188_0 hl188_0
           replace p188 := eq_true p188
           replace q188 := eq_true q188
           have ea_ := Option.some.inj (hx185_0.symm.trans hx188_0)
           injection ea_ with ea_ en_ ec_
           subst ea_
           subst ec_
           clear en_
           obtain ⟨ad189, e189, hx189_0, p189, q189⟩ := ai_ (Kd.R_reads' HO_7.out).2.2 x33_2
           obtain rfl : ad183 = ad189 := (by injection e189)
           have p190 : 0 ≤ ((rd x7_2 x33_2) : Int) := od_
           have q190 : (rd x7_2 x33_2) < ((rd_L2 t177 x33_2).length : Int) := od_
           obtain ⟨ad190, e190, hx190_0, hx190_1⟩ := at_T51 (by repeat (first | (with_reducible exact HR188_0.out) | (with_reducible refine Kd.C_alloc ?_ _) | (with_reducible refine Kd.C_drewN ?_ _) | (with_reducible refine Kd.C_drew ?_) | exact HR188_0.out)) (rd x7_2 x33_2) p190 q190
           cases e190
           replace p190 := eq_true p190
           replace q190 := eq_true q190
           refine start_ (n := 39) (S := fun w' => w'.cell? (ad183.add (x33_2).toNat) = some (.int .i64 (rd x7_2 x33_2)) ∧ w'.cell? (ad184.add (x33_2).toNat) = some (.int .i64 (rd l0 x33_2)) ∧ w'.cell? (ad185.add (x33_2).toNat) = some (.slice (some ad187) (rd_L2 t177 x33_2).length c185_0) ∧ w'.cell? (ad183.add (x33_2).toNat) = some (.int .i64 (rd x7_2 x33_2)) ∧ w'.cell? (ad187.add (((rd x7_2 x33_2)).toNat * 2)) = some (.int .i64 ((rd_T51 (rd_L2 t177 x33_2) (rd x7_2 x33_2)).f0)) ∧ w'.cell? ⟨(ad187.add (((rd x7_2 x33_2)).toNat * 2)).block, (ad187.add (((rd x7_2 x33_2)).toNat * 2)).off + 1, none⟩ = some (.int .i64 ((rd_T51 (rd_L2 t177 x33_2) (rd x7_2 x33_2)).f1)) ∧ w'.cell? (ad185.add (x33_2).toNat) = some (.slice (some ad187) (rd_L2 t177 x33_2).length c185_0) ∧ w'.cell? (ad183.add (x33_2).toNat) = some (.int .i64 (rd x7_2 x33_2)) ∧ w'.cell? (ad187.add (((rd x7_2 x33_2)).toNat * 2)) = some (.int .i64 ((rd_T51 (rd_L2 t177 x33_2) (rd x7_2 x33_2)).f0)) ∧ w'.cell? ⟨(ad187.add (((rd x7_2 x33_2)).toNat * 2)).block, (ad187.add (((rd x7_2 x33_2)).toNat * 2)).off + 1, none⟩ = some (.int .i64 ((rd_T51 (rd_L2 t177 x33_2) (rd x7_2 x33_2)).f1))) (ds := []) #[false, false, false, false, false, false, false, false, false, false, false, false, false, false, false, false, false, false, false, false, false, false, false, false, false, false, false, false, false, false, false, false, false, false, false, false, false, false, false] (by kernel_rfl) rfl rfl ⟨hx183_0, (hc_ HB hw184_0), hx185_0, hx186_0, hx187_0, hx187_1, hx188_0, hx189_0, hx190_0, hx190_1⟩ (fun hHeld => ?_); refine with_tabW turn_Round.tab13 turn_Round.bits13 (fun HT_ HW_ => ?_)
           generalize wr.drew = w34 at HO_6 HO_7 HO_8 HO_175000 BK174 HB HL185_0 HL188_0 HR185_0 HR188_0 hx183_0 hx184_0 hx185_0 hx186_0 hx187_0 hx187_1 hx188_0 hx189_0 hx190_0 hx190_1 hHeld ⊢
           refine pu_ 0 36 HT_.out (h := ?_)
           refine pu_ 1 37 HT_.out (h := ?_)
           refine pu_ 2 38 HT_.out (h := ?_)
           refine pu_ 4 40 HT_.out (h := ?_)
           refine pu_ 5 41 HT_.out (h := ?_)
           refine pu_ 6 42 HT_.out (h := ?_)
           refine ta_ 3 39 HT_.out HW_.out hHeld (h := ?_)
           refine ta_ 7 43 HT_.out HW_.out hHeld (h := ?_)
           refine pu_ 8 44 HT_.out (h := ?_)
           refine pu_ 9 45 HT_.out (h := ?_)
           refine pu_ 10 46 HT_.out (h := ?_)
           refine pu_ 11 47 HT_.out (h := ?_)
           refine pu_ 12 48 HT_.out (h := ?_)
           refine pu_ 14 50 HT_.out (h := ?_)
           refine pu_ 15 51 HT_.out (h := ?_)
           refine pu_ 16 52 HT_.out (h := ?_)
           refine pu_ 21 57 HT_.out (h := ?_)
           refine ta_ 13 49 HT_.out HW_.out hHeld (h := ?_)
           refine ta_ 17 53 HT_.out HW_.out hHeld (h := ?_)
           refine pu_ 18 54 HT_.out (h := ?_)
           refine pu_ 19 55 HT_.out (h := ?_)
           refine ta_ 20 56 HT_.out HW_.out hHeld (h := ?_)
           refine pu_ 22 58 HT_.out (h := ?_)
           refine pu_ 23 59 HT_.out (h := ?_)
           refine pu_ 24 60 HT_.out (h := ?_)
           refine pu_ 25 61 HT_.out (h := ?_)
           refine pu_ 26 62 HT_.out (h := ?_)
           refine pu_ 27 63 HT_.out (h := ?_)
           refine pu_ 29 65 HT_.out (h := ?_)
           refine pu_ 30 66 HT_.out (h := ?_)
           refine pu_ 31 67 HT_.out (h := ?_)
           refine pu_ 36 72 HT_.out (h := ?_)
           refine ta_ 28 64 HT_.out HW_.out hHeld (h := ?_)
           refine ta_ 32 68 HT_.out HW_.out hHeld (h := ?_)
           refine pu_ 33 69 HT_.out (h := ?_)
           refine pu_ 34 70 HT_.out (h := ?_)
           refine ta_ 35 71 HT_.out HW_.out hHeld (h := ?_)
           refine pu_ 37 73 HT_.out (h := ?_)
           refine pu_ 38 74 HT_.out (h := ?_)
           refine done_ (done_of HT_.out (by kernel_rfl)) ?_
           try go_wp2
           go_meet
           case rel => exact ⟨_, (decide (((rd_T51 (rd_L2 t177 x33_2) (rd x7_2 x33_2)).f1) < x28_1)), rs_, H', ⟨by have := HK1.out; have := HK2.out; first | omega | exact Nat.le_refl _⟩, ⟨by (try simp only [hl7_2]); refine ks_ ?_; exact HO_6.out⟩, ⟨by (try simp only [hl7_2]); refine kr_ ?_; exact HO_7.out⟩, ⟨by (try simp only [hl7_2]); refine kr_ ?_; exact HO_8.out⟩, ⟨by (try simp only [hl7_2]); refine kv_ ?_; exact HO_175000.out⟩, ⟨by (try simp only [hl7_2]); refine bk_ ?_; exact BK174.out⟩, ⟨bl_⟩⟩
        case rest =>
         clear HC22
         try clear c1
         try clear p1
         try clear q1
         try clear hx1
         try clear c2
         try clear p2
         try clear c3
         try clear c18
         try clear p18
         try clear q18
         try clear hx18
         try clear p19
         try clear q19
         try clear hx19
         try clear c23
         try clear c24
         try clear c25
         try clear c28
         try clear c29
         try clear c30
         try clear c31
         try clear c31b0
         try clear hx183_0
         try clear hx184_0
         try clear hx185_0
         try clear hx186_0
         try clear hx187_0
         try clear hx187_1
         try clear hx188_0
         try clear hx189_0
         try clear hx190_0
         try clear hx190_1
         try clear p183
         try clear p184
         try clear p185
         try clear p186
         try clear p187
         try clear p188
         try clear p189
         try clear p190
         try clear q183
         try clear q184
         try clear q185
         try clear q186
         try clear q187
         try clear q188
         try clear q189
         try clear q190
         obtain ⟨kq, x74_21, rfl, HA, HJ21, HO_6, HO_7, HO_8, HO_175000, BK174, HB⟩ := hcut
         cases kq with
         | zero => exact absurd HA.out (by simp [turn_Round.j2])
         | succ kj21 =>
          have H := HA.out
          clear HA
          simp only [turn_Round.j2] at H
          by_cases c36 : x74_21 = true
          ·subst c36
           have H1 : (turn_Round.l1 kj21 l0 t177 x7_2 x8_2 x28_1 t172 x28_1 (x7_1.length : Int) (wrap64 (x33_2 + 1)) t169 t172) = some (r1, r2) := by rw [if_pos rfl] at H; exact H
           clear H
           have H := H1
           clear H1
           have H' := Aside0.mk H
           clear H
           go_wp2
           (try simp only [← hl7_2])
           go_roundg kj21
           case measure => have := HK1.out; have := HK2.out; have := HJ21.out; omega
           case rel => exact ⟨(x7_2), (x8_2), (wrap64 (x33_2 + 1)), rs_, H', ⟨by have := HK1.out; have := HK2.out; have := HJ21.out; omega⟩, ⟨by (try simp only [hl7_2]); refine ks_ ?_; exact HO_6.out⟩, ⟨by (try simp only [hl7_2]); refine kr_ ?_; exact HO_7.out⟩, ⟨by (try simp only [hl7_2]); refine kr_ ?_; exact HO_8.out⟩, ⟨by (try simp only [hl7_2]); refine kv_ ?_; exact HO_175000.out⟩, ⟨by (try simp only [hl7_2]); refine bk_ ?_; exact BK174.out⟩, ⟨bl_⟩⟩
          ·replace c36 := Bool.eq_false_iff.mpr c36
           subst c36
           have H1 : (if 0 ≤ x33_2 then (if x33_2 < (x7_2.length : Int) then ((some (x7_2.set (x33_2 : Int).toNat (wrap64 ((rd x7_2 x33_2) + 1)) : List Int)).bind fun y192 => ((turn_table_fits.f kj21 t169 t172 t177 y192 (wrap64 (x28_1 + 1))).bind fun t193 => (if t193 = true then (if x8_2.length < 17592186044416 then (turn_Round.l0 kj21 l0 t177 y192 (x8_2 ++ [x33_2]) t172 (wrap64 (x28_1 + 1)) t169 t172) else (none)) else (turn_Round.l1 kj21 l0 t177 (y192.set (x33_2 : Int).toNat (wrap64 ((rd y192 x33_2) - 1))) x8_2 x28_1 t172 x28_1 (x7_1.length : Int) (wrap64 (x33_2 + 1)) t169 t172)))) else (none)) else (none)) = some (r1, r2) := by rw [if_neg (show ¬ (false = true) by decide)] at H; exact H
           clear H
           have H := H1
           clear H1
           obtain ⟨c37b0, H⟩ := fp_ H
           obtain ⟨c38b0, H⟩ := fp_ H
           obtain ⟨y192, hy192⟩ : ∃ y_ : List Int, y_ = (x7_2.set (x33_2 : Int).toNat (wrap64 ((rd x7_2 x33_2) + 1))) := ⟨_, rfl⟩
           replace H : ((turn_table_fits.f kj21 t169 t172 t177 y192 (wrap64 (x28_1 + 1))).bind fun t193 => (if t193 = true then (if x8_2.length < 17592186044416 then (turn_Round.l0 kj21 l0 t177 y192 (x8_2 ++ [x33_2]) t172 (wrap64 (x28_1 + 1)) t169 t172) else (none)) else (turn_Round.l1 kj21 l0 t177 (y192.set (x33_2 : Int).toNat (wrap64 ((rd y192 x33_2) - 1))) x8_2 x28_1 t172 x28_1 (x7_1.length : Int) (wrap64 (x33_2 + 1)) t169 t172))) = some (r1, r2) := by first | (rw [hy192]; with_reducible exact H) | (have H2_ := (Option.bind_some _ _).symm.trans H; rw [hy192]; with_reducible exact H2_) | (have H2_ := (Option.bind_some _ _).symm.trans H; with_reducible exact H2_) | with_reducible exact H | (rw [hy192]; exact H) | exact H
           have Ny192 := Aside0.mk hy192
           clear hy192
           obtain ⟨t193, A40, H⟩ := bi_ H
           replace H : (if t193 = true then (if x8_2.length < 17592186044416 then (turn_Round.l0 kj21 l0 t177 y192 (x8_2 ++ [x33_2]) t172 (wrap64 (x28_1 + 1)) t169 t172) else (none)) else (turn_Round.l1 kj21 l0 t177 (y192.set (x33_2 : Int).toNat (wrap64 ((rd y192 x33_2) - 1))) x8_2 x28_1 t172 x28_1 (x7_1.length : Int) (wrap64 (x33_2 + 1)) t169 t172)) = some (r1, r2) := H
           by_cases c41 : t193 = true
           ·subst c41
            have H1 : (if x8_2.length < 17592186044416 then (turn_Round.l0 kj21 l0 t177 y192 (x8_2 ++ [x33_2]) t172 (wrap64 (x28_1 + 1)) t169 t172) else (none)) = some (r1, r2) := by rw [if_pos rfl] at H; exact H
            clear H
            have H := H1
            clear H1
            have c42 : x8_2.length < 17592186044416 := fl_ fun c42 => by rw [if_neg c42] at H; exact absurd H (by simp)
            rw [if_pos c42] at H
            have LMc42 := Aside0.mk c42
            clear c42
            obtain ⟨y194, hy194⟩ : ∃ y_ : List Int, y_ = (x8_2 ++ [x33_2]) := ⟨_, rfl⟩
            replace H : (turn_Round.l0 kj21 l0 t177 y192 y194 t172 (wrap64 (x28_1 + 1)) t169 t172) = some (r1, r2) := by first | (rw [hy194]; with_reducible exact H) | (have H2_ := (Option.bind_some _ _).symm.trans H; rw [hy194]; with_reducible exact H2_) | (have H2_ := (Option.bind_some _ _).symm.trans H; with_reducible exact H2_) | with_reducible exact H | (rw [hy194]; exact H) | exact H
            have Ny194 := Aside0.mk hy194
            clear hy194
            have H' := Aside0.mk H
            clear H
            obtain ⟨ad191, e191, hx191_0, p191, q191⟩ := ai_ (Kd.R_reads' HO_7.out).2.2 x33_2
            cases e191
            have p39 : 0 ≤ (x33_2 : Int) := od_
            have q39 : (x33_2 : Int) < ((x7_2.length : Int) : Int) := od_
            obtain ⟨go39, co39, eo39, gb39, gl39, cl39, HG39⟩ := Kd.R_form HO_7.out (by omega)
            (first | cases eo39 | (injection eo39 with ea_ en_ ec_; (first | subst ea_ | (injection ea_ with ea_; subst ea_)); subst ec_; clear en_))
            have GB39 := Aside0.mk gb39
            have GG39 := Aside0.mk HG39
            clear gb39 gl39 HG39
            (first | simp only [add_plain] at hx191_0 | skip)
            obtain ⟨hx39_0, hf39_0⟩ := Kd.R_celln 0 HO_7.out (x33_2 : Int) p39 q39
            replace p39 := eq_true p39
            replace q39 := eq_true q39
            have HP43 := Kd.R_putg HO_7.out (x33_2 : Int) (wrap64 ((rd x7_2 x33_2) + 1))
            go_wp2_with (first | ((with_reducible refine gate_store (t := 3) (p := 80) rfl ?_); refine store_event (t := 3) (p := 80) (v := ?vo_w44) (w1 := (wc.setCell ⟨go39, (x33_2 : Int).toNat, none⟩ (.int .i64 (wrap64 ((rd x7_2 x33_2) + 1))))) ?hg ?ho ?hn ?hr ?_; (case ho => rfl); (case hg => rfl); (case hn => rfl); (case hr => first | (go_simp; done) | (go_simp; rfl)); intro w44 hw; have hg : wc.grownBy w44 (some go39) := (by rw [hw]; exact HP43.2); have hp_ : Kd.R (Kd.int .i64) 3 w44 w.heap.size (fun k_ => some k_ ≠ (u8 : Value).ownBlock) (.slice (some ⟨go39, 0, none⟩) x7_2.length co20) y192 := (by rw [hw, Ny192.out]; exact HP43.1); clear HP43; replace HO_6 := Aside0.mk (Kd.S_over' (v := (.slice (some ⟨go39, 0, none⟩) x7_2.length co20)) (ks_ HO_6.out) (Kd.R_typed HO_7.out) (by decide) hg); replace HO_8 := Aside0.mk (Kd.R_after (v := (.slice (some ⟨go39, 0, none⟩) x7_2.length co20)) (v1 := (.slice (some ⟨go39, 0, none⟩) x7_2.length co20)) (ok := (fun _ => True)) (by refine kr_ ?_; exact Kd.R_mono HO_8.out (fun _ hk => ⟨trivial, hk⟩)) hg (.inl rfl)); replace HO_175000 := Aside0.mk (Kd.V_afterv (v := (.slice (some ⟨go39, 0, none⟩) x7_2.length co20)) (v1 := (.slice (some ⟨go39, 0, none⟩) x7_2.length co20)) (ok := (fun k_ => some k_ ≠ (v178 : Value).ownBlock ∧ some k_ ≠ (u8 : Value).ownBlock ∧ k_ ≠ gb174)) (by refine kv_ ?_; exact Kd.V_mono HO_175000.out (fun _ hk => ⟨⟨hk.1, ⟨hk.2.2.1, hk.2.2.2⟩⟩, hk.2.1⟩)) hg (.inl rfl)); replace BK174 := Aside0.mk (blk_grown (g := gb174) (o := .cells #[.slice Ao10 t169.length co10, .int .i64 t172] 60 (0, 0)) (bk_ BK174.out) hg (Kd.R_ne HO_7.out BK174.out (by decide))); replace HO_7 := Aside0.mk (hp_); replace HB := Aside0.mk ((by rw [hw]; exact below_set (HB.out) GB39.out : Below w.heap.size w w44)); clear hg hw hp_; have hcz45_0 := bc_ BK174 0 (.slice Ao10 t169.length co10); have hcz45_1 := bc_ BK174 1 (.int .i64 t172); have hfz45_0 := bz_ BK174 0; have hfz45_1 := bz_ BK174 1; obtain ⟨Ao46, co46, eo46⟩ := Kd.S_slice HO_6.out; subst eo46) | ((with_reducible refine gate_callee (f := 47) rfl ?_); refine goesL_ (some 86) rfl rfl Tryd.func47 (by kernel_rfl) rfl #[.agg #[.slice Ao10 t169.length co10, .int .i64 t172], .slice Ao46 t177.length co46, .slice (some ⟨go39, 0, none⟩) y192.length co20, .int .i64 (wrap64 (x28_1 + 1))] rfl (by (try simp only [List.map_toArray, List.map_cons, List.map_nil]); first | done | (rw [show y192.length = x7_2.length from (Kd.R_reads' HO_7.out).1.symm] <;> rfl) | rfl | (simp only [List.length_drop, List.length_take]; rfl)) ?_; (with_reducible refine (turn_table_fits.calls kj21 _ _ t169 t172 _ _ t177 _ _ y192 (wrap64 (x28_1 + 1)) true _ ?side1 ?side2 ?side3 ?side4 ?side5 ?side6 A40.out).mono ?_); (case side1 => repeat (first | exact (Kd.V_reads' HO_175000.out).2.2 | (with_reducible refine Kd.C_alloc ?_ _) | (with_reducible refine Kd.C_drewN ?_ _) | (with_reducible refine Kd.C_drew ?_))); (case side2 => exact (Kd.V_reads' HO_175000.out).2.1); (case side3 => repeat (first | exact (Kd.S_reads' HO_6.out).2.2 | (with_reducible refine Kd.C_alloc ?_ _) | (with_reducible refine Kd.C_drewN ?_ _) | (with_reducible refine Kd.C_drew ?_))); (case side4 => exact (Kd.S_reads' HO_6.out).2.1); (case side5 => exact cr_ HO_7.out); (case side6 => rw [show y192.length = x7_2.length from (Kd.R_reads' HO_7.out).1.symm]; exact (Kd.R_reads' HO_7.out).2.1); rintro e w47 ⟨rfl, hb⟩; refine ⟨_, rfl, ?_⟩; replace HO_6 := Aside0.mk (Kd.S_below (ks_ HO_6.out) hb); replace HO_7 := rb_ HO_7 hb; replace HO_8 := rb_ HO_8 hb; replace HO_175000 := Aside0.mk (Kd.V_below (kv_ HO_175000.out) hb); replace BK174 := bb_ BK174 hb; replace HB := hb_ hb; clear hb) | ((with_reducible refine gate_builtin (b := .append) (xs := #[.tmp 87, .tmp 89]) rfl ?_); at_builtin; refine Kd.R_append (Kd.int .i64) (w0 := w) w.heap.size rfl (.tmp 87) (.tmp 89) 22 3 (.int .i64 0) 8 rfl Tryd.underlying22 info3 rfl (by decide) (by omega) u8 x8_2 x33_2 [.int .i64 x33_2] (fun k_ => some k_ ≠ (.slice (some ⟨go39, 0, none⟩) x7_2.length co20 : Value).ownBlock) (fun _ => False) rfl rfl ?aP (fun _ hk => hk.elim) ?aF ?aO ?aB ?aS ?aL ?_; (case aP => exact rfl); (case aB => exact (bl_)); (case aF => exact (fun k_ hk => Kd.fresh' (Kd.R_lt (kr_ HO_7.out)) k_ hk)); (case aO => exact (by refine kr_ ?_; exact Kd.R_mono HO_8.out (fun _ hk => hk.2))); (case aS => exact (below_size (bl_))); (case aL => have := LMc42.out; omega); intro v195 w48 ho hb hg hat; rw [← Ny194.out] at ho; replace HO_6 := Aside0.mk (Kd.S_over' (ks_ HO_6.out) (Kd.R_typed (kr_ HO_8.out)) (by decide) hg); replace HO_7 := Aside0.mk (Kd.R_after (ok := (fun _ => True)) (by refine kr_ ?_; exact Kd.R_mono HO_7.out (fun _ hk => ⟨trivial, hk⟩)) hg hat); replace HO_175000 := Aside0.mk (Kd.V_afterv (ok := (fun k_ => some k_ ≠ (.slice Ao46 t177.length co46 : Value).ownBlock ∧ some k_ ≠ (.slice (some ⟨go39, 0, none⟩) x7_2.length co20 : Value).ownBlock ∧ k_ ≠ gb174)) (by refine kv_ ?_; exact Kd.V_mono HO_175000.out (fun _ hk => ⟨⟨hk.1.1, ⟨hk.2, hk.1.2.2⟩⟩, hk.1.2.1⟩)) hg hat); replace BK174 := Aside0.mk (blk_grown (g := gb174) (o := .cells #[.slice Ao10 t169.length co10, .int .i64 t172] 60 (0, 0)) (bk_ BK174.out) hg (Kd.R_ne HO_8.out BK174.out (by decide))); replace HB := Aside0.mk (hb); have HO196 := Aside0.mk (ho); clear HO_8; clear ho hb hg hat))
            (try simp only [← hl7_2])
            go_roundg kj21
            case measure => have := HK1.out; have := HK2.out; have := HJ21.out; omega
            case rel => exact ⟨(y192), (y194), (wrap64 (x28_1 + 1)), rs_, H', ⟨by have := HK1.out; have := HK2.out; have := HJ21.out; omega⟩, ⟨by (try simp only [hl7_2]); refine ks_ ?_; exact HO_6.out⟩, ⟨by (try simp only [hl7_2]); refine kr_ ?_; exact Kd.R_mono HO_7.out (fun _ hk => hk.2)⟩, ⟨by (try simp only [hl7_2]); refine kr_ ?_; exact HO196.out⟩, ⟨by (try simp only [hl7_2]); refine kv_ ?_; exact Kd.V_mono HO_175000.out (fun _ hk => ⟨hk.1.1, ⟨hk.1.2.1, ⟨hk.2, hk.1.2.2⟩⟩⟩)⟩, ⟨by (try simp only [hl7_2]); refine bk_ ?_; exact BK174.out⟩, ⟨bl_⟩⟩
           ·replace c41 := Bool.eq_false_iff.mpr c41
            subst c41
            have H1 : (turn_Round.l1 kj21 l0 t177 (y192.set (x33_2 : Int).toNat (wrap64 ((rd y192 x33_2) - 1))) x8_2 x28_1 t172 x28_1 (x7_1.length : Int) (wrap64 (x33_2 + 1)) t169 t172) = some (r1, r2) := by rw [if_neg (show ¬ (false = true) by decide)] at H; exact H
            clear H
            have H := H1
            clear H1
            obtain ⟨y198, hy198⟩ : ∃ y_ : List Int, y_ = (y192.set (x33_2 : Int).toNat (wrap64 ((rd y192 x33_2) - 1))) := ⟨_, rfl⟩
            replace H : (turn_Round.l1 kj21 l0 t177 y198 x8_2 x28_1 t172 x28_1 (x7_1.length : Int) (wrap64 (x33_2 + 1)) t169 t172) = some (r1, r2) := by first | (rw [hy198]; with_reducible exact H) | (have H2_ := (Option.bind_some _ _).symm.trans H; rw [hy198]; with_reducible exact H2_) | (have H2_ := (Option.bind_some _ _).symm.trans H; with_reducible exact H2_) | with_reducible exact H | (rw [hy198]; exact H) | exact H
            have Ny198 := Aside0.mk hy198
            clear hy198
            have H' := Aside0.mk H
            clear H
            obtain ⟨ad191, e191, hx191_0, p191, q191⟩ := ai_ (Kd.R_reads' HO_7.out).2.2 x33_2
            cases e191
            have p39 : 0 ≤ (x33_2 : Int) := od_
            have q39 : (x33_2 : Int) < ((x7_2.length : Int) : Int) := od_
            obtain ⟨go39, co39, eo39, gb39, gl39, cl39, HG39⟩ := Kd.R_form HO_7.out (by omega)
            (first | cases eo39 | (injection eo39 with ea_ en_ ec_; (first | subst ea_ | (injection ea_ with ea_; subst ea_)); subst ec_; clear en_))
            have GB39 := Aside0.mk gb39
            have GG39 := Aside0.mk HG39
            clear gb39 gl39 HG39
            (first | simp only [add_plain] at hx191_0 | skip)
            obtain ⟨hx39_0, hf39_0⟩ := Kd.R_celln 0 HO_7.out (x33_2 : Int) p39 q39
            replace p39 := eq_true p39
            replace q39 := eq_true q39
            have HP50 := Kd.R_putg HO_7.out (x33_2 : Int) (wrap64 ((rd x7_2 x33_2) + 1))
            go_wp2_with (first | ((with_reducible refine gate_store (t := 3) (p := 80) rfl ?_); refine store_event (t := 3) (p := 80) (v := ?vo_w51) (w1 := (wc.setCell ⟨go39, (x33_2 : Int).toNat, none⟩ (.int .i64 (wrap64 ((rd x7_2 x33_2) + 1))))) ?hg ?ho ?hn ?hr ?_; (case ho => rfl); (case hg => rfl); (case hn => rfl); (case hr => first | (go_simp; done) | (go_simp; rfl)); intro w51 hw; have hg : wc.grownBy w51 (some go39) := (by rw [hw]; exact HP50.2); have hp_ : Kd.R (Kd.int .i64) 3 w51 w.heap.size (fun k_ => some k_ ≠ (u8 : Value).ownBlock) (.slice (some ⟨go39, 0, none⟩) x7_2.length co20) y192 := (by rw [hw, Ny192.out]; exact HP50.1); clear HP50; replace HO_6 := Aside0.mk (Kd.S_over' (v := (.slice (some ⟨go39, 0, none⟩) x7_2.length co20)) (ks_ HO_6.out) (Kd.R_typed HO_7.out) (by decide) hg); replace HO_8 := Aside0.mk (Kd.R_after (v := (.slice (some ⟨go39, 0, none⟩) x7_2.length co20)) (v1 := (.slice (some ⟨go39, 0, none⟩) x7_2.length co20)) (ok := (fun _ => True)) (by refine kr_ ?_; exact Kd.R_mono HO_8.out (fun _ hk => ⟨trivial, hk⟩)) hg (.inl rfl)); replace HO_175000 := Aside0.mk (Kd.V_afterv (v := (.slice (some ⟨go39, 0, none⟩) x7_2.length co20)) (v1 := (.slice (some ⟨go39, 0, none⟩) x7_2.length co20)) (ok := (fun k_ => some k_ ≠ (v178 : Value).ownBlock ∧ some k_ ≠ (u8 : Value).ownBlock ∧ k_ ≠ gb174)) (by refine kv_ ?_; exact Kd.V_mono HO_175000.out (fun _ hk => ⟨⟨hk.1, ⟨hk.2.2.1, hk.2.2.2⟩⟩, hk.2.1⟩)) hg (.inl rfl)); replace BK174 := Aside0.mk (blk_grown (g := gb174) (o := .cells #[.slice Ao10 t169.length co10, .int .i64 t172] 60 (0, 0)) (bk_ BK174.out) hg (Kd.R_ne HO_7.out BK174.out (by decide))); replace HO_7 := Aside0.mk (hp_); replace HB := Aside0.mk ((by rw [hw]; exact below_set (HB.out) GB39.out : Below w.heap.size w w51)); clear hg hw hp_; have hcz52_0 := bc_ BK174 0 (.slice Ao10 t169.length co10); have hcz52_1 := bc_ BK174 1 (.int .i64 t172); have hfz52_0 := bz_ BK174 0; have hfz52_1 := bz_ BK174 1; obtain ⟨Ao53, co53, eo53⟩ := Kd.S_slice HO_6.out; subst eo53) | ((with_reducible refine gate_callee (f := 47) rfl ?_); refine goesL_ (some 86) rfl rfl Tryd.func47 (by kernel_rfl) rfl #[.agg #[.slice Ao10 t169.length co10, .int .i64 t172], .slice Ao53 t177.length co53, .slice (some ⟨go39, 0, none⟩) y192.length co20, .int .i64 (wrap64 (x28_1 + 1))] rfl (by (try simp only [List.map_toArray, List.map_cons, List.map_nil]); first | done | (rw [show y192.length = x7_2.length from (Kd.R_reads' HO_7.out).1.symm] <;> rfl) | rfl | (simp only [List.length_drop, List.length_take]; rfl)) ?_; (with_reducible refine (turn_table_fits.calls kj21 _ _ t169 t172 _ _ t177 _ _ y192 (wrap64 (x28_1 + 1)) false _ ?side1 ?side2 ?side3 ?side4 ?side5 ?side6 A40.out).mono ?_); (case side1 => repeat (first | exact (Kd.V_reads' HO_175000.out).2.2 | (with_reducible refine Kd.C_alloc ?_ _) | (with_reducible refine Kd.C_drewN ?_ _) | (with_reducible refine Kd.C_drew ?_))); (case side2 => exact (Kd.V_reads' HO_175000.out).2.1); (case side3 => repeat (first | exact (Kd.S_reads' HO_6.out).2.2 | (with_reducible refine Kd.C_alloc ?_ _) | (with_reducible refine Kd.C_drewN ?_ _) | (with_reducible refine Kd.C_drew ?_))); (case side4 => exact (Kd.S_reads' HO_6.out).2.1); (case side5 => exact cr_ HO_7.out); (case side6 => rw [show y192.length = x7_2.length from (Kd.R_reads' HO_7.out).1.symm]; exact (Kd.R_reads' HO_7.out).2.1); rintro e w54 ⟨rfl, hb⟩; refine ⟨_, rfl, ?_⟩; replace HO_6 := Aside0.mk (Kd.S_below (ks_ HO_6.out) hb); replace HO_7 := rb_ HO_7 hb; replace HO_8 := rb_ HO_8 hb; replace HO_175000 := Aside0.mk (Kd.V_below (kv_ HO_175000.out) hb); replace BK174 := bb_ BK174 hb; replace HB := hb_ hb; clear hb; have p197 : 0 ≤ (x33_2 : Int) := od_; have q197 : x33_2 < (y192.length : Int) := (by have h_ : (x33_2 : Int) < ((x7_2.length : Int) : Int) := od_; first | (have e_ := (Kd.R_reads' HO_7.out).1; omega) | simpa only [Ny192.out, List.length_set] using h_); have ql197 : ((x33_2 : Int) < ((x7_2.length : Int) : Int)) = True := eq_true (od_); obtain ⟨ad197, e197, hx197_0⟩ := Kd.at_int (Kd.R_reads' HO_7.out).2.2 x33_2 p197 q197; obtain rfl : (⟨go39, 0, none⟩ : Addr) = ad197 := (by injection e197); (first | simp only [add_plain] at hx197_0 | simp only [add_at] at hx197_0 | simp only [Addr.add, Nat.zero_add] at hx197_0 | skip); replace p197 := eq_true p197; replace q197 := eq_true q197; have p49 : 0 ≤ (x33_2 : Int) := od_; have q49 : (x33_2 : Int) < ((x7_2.length : Int) : Int) := od_; obtain ⟨hx49_0, hf49_0⟩ := Kd.R_celln 0 HO_7.out (x33_2 : Int) p49 q49; replace p49 := eq_true p49; replace q49 := eq_true q49; obtain ⟨hy55_, hz55_⟩ := Kd.R_celln 0 HO_7.out (x33_2 : Int) (od_) (od_); have HP55 := Kd.R_putg HO_7.out (x33_2 : Int) (wrap64 ((rd y192 x33_2) - 1))) | ((with_reducible refine gate_store (t := 3) (p := 96) rfl ?_); refine store_event (t := 3) (p := 96) (v := ?vo_w56) (w1 := (w54.setCell ⟨go39, (x33_2 : Int).toNat, none⟩ (.int .i64 (wrap64 ((rd y192 x33_2) - 1))))) ?hg ?ho ?hn ?hr ?_; (case ho => rfl); (case hg => rfl); (case hn => rfl); (case hr => first | (go_simp; done) | (go_simp; rfl)); intro w56 hw; have hg : w54.grownBy w56 (some go39) := (by rw [hw]; exact HP55.2); have hp_ : Kd.R (Kd.int .i64) 3 w56 w.heap.size (fun k_ => some k_ ≠ (u8 : Value).ownBlock) (.slice (some ⟨go39, 0, none⟩) x7_2.length co20) y198 := (by rw [hw, Ny198.out]; exact HP55.1); clear HP55; replace HO_6 := Aside0.mk (Kd.S_over' (v := (.slice (some ⟨go39, 0, none⟩) x7_2.length co20)) (ks_ HO_6.out) (Kd.R_typed HO_7.out) (by decide) hg); replace HO_8 := Aside0.mk (Kd.R_after (v := (.slice (some ⟨go39, 0, none⟩) x7_2.length co20)) (v1 := (.slice (some ⟨go39, 0, none⟩) x7_2.length co20)) (ok := (fun _ => True)) (kr_ HO_8.out) hg (.inl rfl)); replace HO_175000 := Aside0.mk (Kd.V_afterv (v := (.slice (some ⟨go39, 0, none⟩) x7_2.length co20)) (v1 := (.slice (some ⟨go39, 0, none⟩) x7_2.length co20)) (ok := (fun k_ => some k_ ≠ (.slice Ao53 t177.length co53 : Value).ownBlock ∧ some k_ ≠ (u8 : Value).ownBlock ∧ k_ ≠ gb174)) (kv_ HO_175000.out) hg (.inl rfl)); replace BK174 := Aside0.mk (blk_grown (g := gb174) (o := .cells #[.slice Ao10 t169.length co10, .int .i64 t172] 60 (0, 0)) (bk_ BK174.out) hg (Kd.R_ne HO_7.out BK174.out (by decide))); replace HO_7 := Aside0.mk (hp_); replace HB := Aside0.mk ((by rw [hw]; exact below_set (HB.out) GB39.out : Below w.heap.size w w56)); clear hg hw hp_))
            (try simp only [← hl7_2])
            go_roundg kj21
            case measure => have := HK1.out; have := HK2.out; have := HJ21.out; omega
            case rel => exact ⟨(y198), (x8_2), (wrap64 (x33_2 + 1)), rs_, H', ⟨by have := HK1.out; have := HK2.out; have := HJ21.out; omega⟩, ⟨by (try simp only [hl7_2]); refine ks_ ?_; exact HO_6.out⟩, ⟨by (try simp only [hl7_2]); refine kr_ ?_; exact HO_7.out⟩, ⟨by (try simp only [hl7_2]); refine kr_ ?_; exact Kd.R_mono HO_8.out (fun _ hk => hk.2)⟩, ⟨by (try simp only [hl7_2]); refine kv_ ?_; exact Kd.V_mono HO_175000.out (fun _ hk => ⟨hk.1.1, ⟨hk.2, ⟨hk.1.2.1, hk.1.2.2⟩⟩⟩)⟩, ⟨by (try simp only [hl7_2]); refine bk_ ?_; exact BK174.out⟩, ⟨bl_⟩⟩
       ·rw [if_neg c21] at H
        have c21b0 : decide (x33_2 < (x7_1.length : Int)) = false := decide_eq_false c21
        have c21b0x : decide (x33_2 < (x7_2.length : Int)) = false := by rw [← hl7_2]; exact c21b0
        clear c21
        have H' := Aside0.mk H
        clear H
        go_wp2
        (try simp only [← hl7_2])
        go_roundg k2
        case measure => have := HK1.out; have := HK2.out; omega
        case rel => exact ⟨(x7_2), (x8_2), (wrap64 (x28_1 + 1)), rs_, H', ⟨by have := HK1.out; have := HK2.out; omega⟩, ⟨by (try simp only [hl7_2]); refine ks_ ?_; exact HO_6.out⟩, ⟨by (try simp only [hl7_2]); refine kr_ ?_; exact HO_7.out⟩, ⟨by (try simp only [hl7_2]); refine kr_ ?_; exact HO_8.out⟩, ⟨by (try simp only [hl7_2]); refine kv_ ?_; exact HO_175000.out⟩, ⟨by (try simp only [hl7_2]); refine bk_ ?_; exact BK174.out⟩, ⟨bl_⟩⟩
    ·rw [if_neg c19] at H
     have c19b0 : decide (x28_1 < t172) = false := decide_eq_false c19
     clear c19
     simp only [Option.some.injEq, Prod.mk.injEq] at H
     obtain ⟨rfl, rfl⟩ := H
     go_wp2
     go_ret2
     exact ⟨_, er_, by refine kr_ ?_; exact Kd.R_mono HO_8.out (fun _ hk => trivial), bl_⟩
 ·rw [if_neg c3] at H
  have c3b0 : (t173 == 0) = false := beq_eq_false_iff_ne.mpr c3
  have c3b1 : (t173 != 0) = true := bne_iff_ne.mpr c3
  simp only [Option.some.injEq, Prod.mk.injEq] at H
  obtain ⟨rfl, rfl⟩ := H
  go_enter Tryd.func20, Tryd.ntmps20
  go_wp2_with (first | ((with_reducible refine gate_callee (f := 43) rfl ?_); refine goesL_ (some 13) rfl rfl Tryd.func43 (by kernel_rfl) rfl #[.slice A0 l0.length c0] rfl (as_) ?_; (with_reducible refine (turn_read.calls k (fun k_ => k_ < w.heap.size) _ _ l0 t169 t172 t173 _ ?side1 A2.out).mono ?_); (case side1 => exact Kd.V_mk HC0.out (Kd.F_below (Kd.C_F (Kd.heap_int .i64) HR0.out) (bl_))); rintro e w57 ⟨v170, rfl, ho0, hb⟩; refine ⟨_, rfl, ?_⟩; have HO171 := Aside0.mk (Kd.V_lower (Kd.V_mono (ok' := fun k_ => True) ho0 (fun k_ hk_ => trivial)) (below_size (bl_))); replace HB := hb_ hb; clear hb ho0) | ((with_reducible refine gate_dst (N := 4) rfl ?_); refine be_ #[.slice none 0 0, .int .i64 0] 60 ?_; intro gb174 hg w58 hbox hb; replace HO171 := ve_ HO171 hg hb; have BK174 := Aside0.mk (hbox); have GW174 := gw_ hg; have GE174 := gw_ hg; replace HB := hb_ hb; clear hb hbox hg; obtain ⟨Ao59, co59, eo59⟩ := Kd.V_slice HO171.out; subst eo59; have hcz60_0 := bc_ BK174 0 (.slice none 0 0); have hcz60_1 := bc_ BK174 1 (.int .i64 0); have hfz60_0 := bz_ BK174 0; have hfz60_1 := bz_ BK174 1))
  go_ret2
  exact ⟨_, er_, by first | exact Kd.R_nil _ _ _ _ _ | exact Kd.N_nil _ _ _ _ _ | exact Kd.V_nil _ _ _ _ _ | exact Kd.Q_nil _ _ _ _ _ | exact Kd.S_nil _ _ _ _ _, bl_⟩

end Go.Proofs.YtgobffgogmnmpaaDoor.P
