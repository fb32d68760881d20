-- Written by wip/tools/myprint.py of this session's repo, over the kit's printer and hand texts.
import Derived.Test.YtlcgoacmlbeliaaPx0
import Derived.Test.YtlcgoacmlbeliaaPre
import Derived.Test.YtlcgoacmlbeliaaPx8
namespace Go.Proofs.Ytlcgoacmlbeliaa.P
open Go.RowKit Go.Proofs.YtlcgoacmlbeliaaW.PrintWords Go.Proofs.YtlcgoacmlbeliaaW.PrintLast Go.Proofs.YtlcgoacmlbeliaaW.PrintMore
attribute [local go_sem] max2_int min2_int max_two min_two max_three min_three max_four min_four   -- for this text's walks alone
set_option linter.unusedVariables false
set_option linter.unusedSimpArgs false

/-! ### trishawtop_trees: function 6 -/
def trishawtop_trees.l0 : Nat → Int → List (S37) → Int → List (S34) → Int → Option (Int × Int)
  | 0, _, _, _, _, _ => none
  | k + 1, x0, x1, x2, x8, x9 => if x9 < (x1.length : Int) then (if x9 = x2 then (trishawtop_trees.l0 k x0 x1 x2 x8 (wrap64 (x9 + 1))) else (if 0 ≤ x9 then ((some (([(⟨(rd_T37 x1 x9).f0, (rd_T37 x1 x9).f1, 0⟩ : S34), (⟨(rd_T37 x1 x9).f1, (rd_T37 x1 x9).f0, 0⟩ : S34)] : List (S34)) : List (S34))).bind fun y282 => (if x8.length + y282.length < 5864062014805 then (trishawtop_trees.l0 k x0 x1 x2 (x8 ++ y282) (wrap64 (x9 + 1))) else (none))) else (none))) else ((branch_Count.f k x0 x8).bind fun bt288 => (some (bt288.1, bt288.2)))
def trishawtop_trees.f (k : Nat) (a0 : Int) (l1 : List (S37)) (a2 : Int) : Option (Int × Int) := trishawtop_trees.l0 k a0 l1 a2 ([] : List (S34)) 0
theorem trishawtop_trees.mono_l : ∀ k, (∀ y0 y1 y2 y3 y4, LeO (trishawtop_trees.l0 k y0 y1 y2 y3 y4) (trishawtop_trees.l0 (k + 1) y0 y1 y2 y3 y4))
  | 0 => fun _ _ _ _ _ r h => by simp [trishawtop_trees.l0] at h
  | k + 1 => by
    have ih0 := trishawtop_trees.mono_l k
    · intro y0 y1 y2 y3 y4
      unfold trishawtop_trees.l0
      with_reducible repeat' first | exact ih0 _ _ _ _ _ | exact branch_Count.mono _ _ _ | exact LeO.refl _ | exact LeO.none _ | refine LeO.ite ?_ ?_ | refine LeO.bind ?_ (fun _ => ?_)
theorem trishawtop_trees.mono : ∀ a0 a1 a2 k, LeO (trishawtop_trees.f k a0 a1 a2) (trishawtop_trees.f (k + 1) a0 a1 a2) := by
  intro a0 a1 a2 k
  have ih0 := trishawtop_trees.mono_l k
  unfold trishawtop_trees.f
  with_reducible repeat' first | exact ih0 _ _ _ _ _ | exact branch_Count.mono _ _ _ | exact LeO.refl _ | exact LeO.none _ | refine LeO.ite ?_ ?_ | refine LeO.bind ?_ (fun _ => ?_)
def trishawtop_trees.T6 : Bool × List (List Nat × List Nat) := (true, [([], []), ([], []), ([], []), ([1, 2], [1, 2]), ([3], [3]), ([4], [4]), ([], []), ([], []), ([6, 7], [6, 7]), ([8], [8]), ([9], [9]), ([5, 10], [5, 10]), ([], []), ([], []), ([12, 13], [12, 13]), ([14], [14]), ([15], [15]), ([], []), ([], []), ([17, 18], [17, 18]), ([19], [19]), ([20], [20]), ([16, 21], [16, 21]), ([11, 22], [11, 22]), ([0, 23], [0, 23]), ([24, 24, 0, 1, 2, 3, 4, 5, 6, 7, 8, 9, 10, 11, 12, 13, 14, 15, 16, 17, 18, 19, 20, 21, 22, 23, 24], [0, 24])])
def trishawtop_trees.B6 : List Nat := [0, 0, 0, 6, 14, 30, 0, 0, 192, 448, 960, 2046, 0, 0, 12288, 28672, 61440, 0, 0, 393216, 917504, 1966080, 4190208, 8388606, 16777215, 33554431]
theorem trishawtop_trees.tab6 : rtab .any (opsOf Try.f6 6) = trishawtop_trees.T6 := by kernel_rfl
theorem trishawtop_trees.bits6 : waitsOk trishawtop_trees.T6.2 trishawtop_trees.B6 = true := by kernel_rfl
set_option maxHeartbeats 8000000 in
set_option maxRecDepth 100000 in
theorem trishawtop_trees.calls (k : Nat) (a0 : Int) (A1 : Option Addr) (c1 : Nat) (l1 : List (S37)) (a2 : Int) (r1 : Int) (r2 : Int) (w : World) (hr1 : Kd.C k37 w A1 l1.length l1) (hc1 : l1.length ≤ c1) (h : trishawtop_trees.f k a0 l1 a2 = some (r1, r2)) :
    Calls Try.prog 6 #[.int .i64 a0, .slice A1 l1.length c1, .int .i64 a2] w fun e w' => e = .returned (.tuple #[.int .i64 r1, .int .i64 r2]) ∧ Below w.heap.size w w' := by
 have hu34 := Try.underlying34
 have HR1 := Aside0.mk hr1
 have HC1 := Aside0.mk hc1
 clear hr1 hc1
 have HB := Aside0.mk (Below.refl w.heap.size w)
 have H : (trishawtop_trees.l0 k a0 l1 a2 ([] : List (S34)) 0) = some (r1, r2) := h
 clear h
 have H' := Aside0.mk H
 clear H
 go_enter Try.func6, Try.ntmps6
 go_wp2
 go_loopg [8, 9] k (fun kq v8 v9 w' => ∃ (x8_1 : List (S34)) (x9_1 : Int), v9 = .int .i64 x9_1 ∧ Aside0 (trishawtop_trees.l0 kq a0 l1 a2 x8_1 x9_1 = some (r1, r2)) ∧ Aside0 (kq ≤ k) ∧ Aside0 (Kd.R k34 34 w' w.heap.size (fun _ => True) v8 x8_1) ∧ Aside0 (Below w.heap.size w w'))
 case atStart => exact ⟨(([] : List (S34))), (0), rs_, H', ⟨Nat.le_refl _⟩, ⟨by first | exact Kd.R_nil _ _ _ _ _ | exact Kd.N_nil _ _ _ _ _ | exact Kd.V_nil _ _ _ _ _ | exact Kd.Q_nil _ _ _ _ _ | exact Kd.S_nil _ _ _ _ _⟩, ⟨bl_⟩⟩
 case round =>
  clear H'
  try clear c1
  try clear p2
  obtain ⟨x8_1, x9_1, rfl, HA, HK1, HO_8, HB⟩ := hrel
  cases gk with
  | zero => exact absurd HA.out (by simp [trishawtop_trees.l0])
  | succ k1 =>
   have H := HA.out
   clear HA
   simp only [trishawtop_trees.l0] at H
   by_cases c4 : x9_1 < (l1.length : Int)
   ·rw [if_pos c4] at H
    have c4b0 : decide (x9_1 < (l1.length : Int)) = true := decide_eq_true c4
    clear c4
    by_cases c5 : x9_1 = a2
    ·rw [if_pos c5] at H
     have c5b0 : (x9_1 == a2) = true := beq_iff_eq.mpr c5
     have c5b1 : (x9_1 != a2) = false := bne_eq_false_iff_eq.mpr c5
     clear c5
     have H' := Aside0.mk H
     clear H
     go_wp2
     go_roundg k1
     case measure => have := HK1.out; omega
     case rel => exact ⟨(x8_1), (wrap64 (x9_1 + 1)), rs_, H', ⟨by have := HK1.out; omega⟩, ⟨kr_ HO_8.out⟩, ⟨bl_⟩⟩
    ·rw [if_neg c5] at H
     have c5b0 : (x9_1 == a2) = false := beq_eq_false_iff_ne.mpr c5
     have c5b1 : (x9_1 != a2) = true := bne_iff_ne.mpr c5
     obtain ⟨c6b0, H⟩ := fp_ H
     obtain ⟨y282, hy282⟩ : ∃ y_ : List (S34), y_ = (([(⟨(rd_T37 l1 x9_1).f0, (rd_T37 l1 x9_1).f1, 0⟩ : S34), (⟨(rd_T37 l1 x9_1).f1, (rd_T37 l1 x9_1).f0, 0⟩ : S34)] : List (S34))) := ⟨_, rfl⟩
     replace H : (if x8_1.length + y282.length < 5864062014805 then (trishawtop_trees.l0 k1 a0 l1 a2 (x8_1 ++ y282) (wrap64 (x9_1 + 1))) else (none)) = some (r1, r2) := by first | (rw [hy282]; with_reducible exact H) | (have H2_ := (Option.bind_some _ _).symm.trans H; rw [hy282]; with_reducible exact H2_) | (have H2_ := (Option.bind_some _ _).symm.trans H; with_reducible exact H2_) | with_reducible exact H | (rw [hy282]; exact H) | exact H
     have Ny282 := Aside0.mk hy282
     clear hy282
     have c7 : x8_1.length + y282.length < 5864062014805 := fl_ fun c7 => by rw [if_neg c7] at H; exact absurd H (by simp)
     rw [if_pos c7] at H
     have LMc7 := Aside0.mk c7
     clear c7
     obtain ⟨y285, hy285⟩ : ∃ y_ : List (S34), y_ = (x8_1 ++ y282) := ⟨_, rfl⟩
     replace H : (trishawtop_trees.l0 k1 a0 l1 a2 y285 (wrap64 (x9_1 + 1))) = some (r1, r2) := by first | (rw [hy285]; with_reducible exact H) | (have H2_ := (Option.bind_some _ _).symm.trans H; rw [hy285]; with_reducible exact H2_) | (have H2_ := (Option.bind_some _ _).symm.trans H; with_reducible exact H2_) | with_reducible exact H | (rw [hy285]; exact H) | exact H
     have Ny285 := Aside0.mk hy285
     clear hy285
     have H' := Aside0.mk H
     clear H
     try go_wp2
     replace HO_8 := Aside0.mk (Kd.R_drew HO_8.out)
     replace HB := Aside0.mk (below_drew1 HB.out)
     have p278 : 0 ≤ (x9_1 : Int) := od_
     have q278 : x9_1 < (l1.length : Int) := od_
     obtain ⟨ad278, e278, hx278_0, hx278_1⟩ := at_T37 HR1.out x9_1 p278 q278
     have hw278_1 := hx278_1
     have hw278_0 := hx278_0
     cases e278
     replace hx278_0 := hc_ HB hx278_0
     replace hx278_1 := hc_ HB hx278_1
     replace p278 := eq_true p278
     replace q278 := eq_true q278
     have p279 : 0 ≤ (x9_1 : Int) := od_
     have q279 : x9_1 < (l1.length : Int) := od_
     obtain ⟨ad279, e279, hx279_0, hx279_1⟩ := at_T37 HR1.out x9_1 p279 q279
     have hw279_1 := hx279_1
     have hw279_0 := hx279_0
     obtain rfl : ad278 = ad279 := (by injection e279)
     replace hx279_0 := hc_ HB hx279_0
     replace hx279_1 := hc_ HB hx279_1
     replace p279 := eq_true p279
     replace q279 := eq_true q279
     have p280 : 0 ≤ (x9_1 : Int) := od_
     have q280 : x9_1 < (l1.length : Int) := od_
     obtain ⟨ad280, e280, hx280_0, hx280_1⟩ := at_T37 HR1.out x9_1 p280 q280
     have hw280_1 := hx280_1
     have hw280_0 := hx280_0
     obtain rfl : ad278 = ad280 := (by injection e280)
     replace hx280_0 := hc_ HB hx280_0
     replace hx280_1 := hc_ HB hx280_1
     replace p280 := eq_true p280
     replace q280 := eq_true q280
     have p281 : 0 ≤ (x9_1 : Int) := od_
     have q281 : x9_1 < (l1.length : Int) := od_
     obtain ⟨ad281, e281, hx281_0, hx281_1⟩ := at_T37 HR1.out x9_1 p281 q281
     have hw281_1 := hx281_1
     have hw281_0 := hx281_0
     obtain rfl : ad278 = ad281 := (by injection e281)
     replace hx281_0 := hc_ HB hx281_0
     replace hx281_1 := hc_ HB hx281_1
     replace p281 := eq_true p281
     replace q281 := eq_true q281
     refine start_ (n := 26) (S := fun w' => w'.cell? (ad278.add ((x9_1).toNat * 2)) = some (.int .i64 ((rd_T37 l1 x9_1).f0)) ∧ w'.cell? ⟨(ad278.add ((x9_1).toNat * 2)).block, (ad278.add ((x9_1).toNat * 2)).off + 1, none⟩ = some (.int .i64 ((rd_T37 l1 x9_1).f1)) ∧ w'.cell? (ad278.add ((x9_1).toNat * 2)) = some (.int .i64 ((rd_T37 l1 x9_1).f0)) ∧ w'.cell? ⟨(ad278.add ((x9_1).toNat * 2)).block, (ad278.add ((x9_1).toNat * 2)).off + 1, none⟩ = some (.int .i64 ((rd_T37 l1 x9_1).f1)) ∧ w'.cell? (ad278.add ((x9_1).toNat * 2)) = some (.int .i64 ((rd_T37 l1 x9_1).f0)) ∧ w'.cell? ⟨(ad278.add ((x9_1).toNat * 2)).block, (ad278.add ((x9_1).toNat * 2)).off + 1, none⟩ = some (.int .i64 ((rd_T37 l1 x9_1).f1)) ∧ w'.cell? (ad278.add ((x9_1).toNat * 2)) = some (.int .i64 ((rd_T37 l1 x9_1).f0)) ∧ w'.cell? ⟨(ad278.add ((x9_1).toNat * 2)).block, (ad278.add ((x9_1).toNat * 2)).off + 1, none⟩ = some (.int .i64 ((rd_T37 l1 x9_1).f1))) (ds := []) #[false, false, false, false, false, false, false, false, false, false, false, false, false, false, false, false, false, false, false, false, false, false, false, false, false, false] (by kernel_rfl) rfl rfl ⟨(hc_ HB hw278_0), (hc_ HB hw278_1), (hc_ HB hw279_0), (hc_ HB hw279_1), (hc_ HB hw280_0), (hc_ HB hw280_1), (hc_ HB hw281_0), (hc_ HB hw281_1)⟩ (fun hHeld => ?_); refine with_tabW trishawtop_trees.tab6 trishawtop_trees.bits6 (fun HT_ HW_ => ?_)
     generalize wr.drew = w8 at HO_8 HB hx278_0 hx278_1 hx279_0 hx279_1 hx280_0 hx280_1 hx281_0 hx281_1 hHeld ⊢
     refine pu_ 0 19 HT_.out (h := ?_)
     refine pu_ 1 20 HT_.out (h := ?_)
     refine pu_ 2 21 HT_.out (h := ?_)
     refine pu_ 3 22 HT_.out (h := ?_)
     refine pu_ 4 23 HT_.out (h := ?_)
     refine pu_ 6 25 HT_.out (h := ?_)
     refine pu_ 7 26 HT_.out (h := ?_)
     refine pu_ 8 27 HT_.out (h := ?_)
     refine pu_ 9 28 HT_.out (h := ?_)
     refine pu_ 12 31 HT_.out (h := ?_)
     refine pu_ 13 32 HT_.out (h := ?_)
     refine pu_ 14 33 HT_.out (h := ?_)
     refine pu_ 15 34 HT_.out (h := ?_)
     refine pu_ 17 36 HT_.out (h := ?_)
     refine pu_ 18 37 HT_.out (h := ?_)
     refine pu_ 19 38 HT_.out (h := ?_)
     refine pu_ 20 39 HT_.out (h := ?_)
     refine ta_ 5 24 HT_.out HW_.out hHeld (h := ?_)
     refine ta_ 10 29 HT_.out HW_.out hHeld (h := ?_)
     refine pu_ 11 30 HT_.out (h := ?_)
     refine ta_ 16 35 HT_.out HW_.out hHeld (h := ?_)
     refine ta_ 21 40 HT_.out HW_.out hHeld (h := ?_)
     refine pu_ 22 41 HT_.out (h := ?_)
     refine one_ (i := 23) (N := some 42) #[true, true, true, true, true, true, true, true, true, true, true, true, true, true, true, true, true, true, true, true, true, true, true, true, false, false] rfl rfl (one_of HT_.out (by kernel_rfl)) (by decide) (fun K hK => ?_)
     refine Kd.R_lit_step k34 _ 34 ?hg (N := 42) ?hd (xs := ([(⟨(rd_T37 l1 x9_1).f0, (rd_T37 l1 x9_1).f1, 0⟩ : S34), (⟨(rd_T37 l1 x9_1).f1, (rd_T37 l1 x9_1).f0, 0⟩ : S34)] : List (S34))) (inner := [.int .i64 ((rd_T37 l1 x9_1).f0), .int .i64 ((rd_T37 l1 x9_1).f1), .int .i64 0, .int .i64 ((rd_T37 l1 x9_1).f1), .int .i64 ((rd_T37 l1 x9_1).f0), .int .i64 0]) (ok := fun _ => True) (okp := fun _ => True) ?hr ?hp (fun _ hk => hk) trivial (Below.refl _ _) (Nat.le_refl _) (by simp) ?_; (case hd => rfl); (case hg => rfl); (case hr => first | (go_simp; done) | (go_simp; rfl)); (case hp => exact (Reps.c3 (show Kd.M k34 _ _ _ (⟨(rd_T37 l1 x9_1).f0, (rd_T37 l1 x9_1).f1, 0⟩ : S34) [.int .i64 ((rd_T37 l1 x9_1).f0), .int .i64 ((rd_T37 l1 x9_1).f1), .int .i64 0] from (k34_mkM _ _ _ (⟨(rd_T37 l1 x9_1).f0, (rd_T37 l1 x9_1).f1, 0⟩ : S34) )) (Reps.c3 (show Kd.M k34 _ _ _ (⟨(rd_T37 l1 x9_1).f1, (rd_T37 l1 x9_1).f0, 0⟩ : S34) [.int .i64 ((rd_T37 l1 x9_1).f1), .int .i64 ((rd_T37 l1 x9_1).f0), .int .i64 0] from (k34_mkM _ _ _ (⟨(rd_T37 l1 x9_1).f1, (rd_T37 l1 x9_1).f0, 0⟩ : S34) )) (Reps.none _ _))))
     intro v283 w9 ho10 hb hg_ hnew_
     clear hg_ hnew_
     (first | rw [← Ny282.out] at ho10 | (simp only [Int.reduceToNat] at ho10; rw [← Ny282.out] at ho10))
     have HO284 := rl_ (rn_ ho10 HO_8)
     replace HO_8 := re_ HO_8 ho10 hb
     replace HB := hb_ hb
     clear hb ho10
     obtain ⟨Ao12, co12, eo12⟩ := Kd.R_slice HO284.out
     (first | subst eo12 | (injection eo12 with f1_ f2_ f3_; have f4_ := f1_.symm; have f5_ := f3_.symm; clear f1_ f2_ f3_; subst f4_; subst f5_))
     refine hK.out _ _ ⟨(hc_ HB hw278_0), (hc_ HB hw278_1), (hc_ HB hw279_0), (hc_ HB hw279_1), (hc_ HB hw280_0), (hc_ HB hw280_1), (hc_ HB hw281_0), (hc_ HB hw281_1)⟩ (fun hHeld => ?_)
     clear hK K
     refine np_ 42 (h := ?_)
     refine one_ (i := 24) (N := some 43) #[true, true, true, true, true, true, true, true, true, true, true, true, true, true, true, true, true, true, true, true, true, true, true, true, true, false] rfl rfl (one_of HT_.out (by kernel_rfl)) (by decide) (fun K hK => ?_)
     refine Kd.R_append_rows_step k34 (w0 := w) w.heap.size (by rfl) (.tmp 19) (.tmp 42) 35 34 (.agg #[(.int .i64 0), (.int .i64 0), (.int .i64 0)]) 24 rfl Try.underlying35 info34 rfl (by decide) (by omega) u8 x8_1 y282 _ _ _ (fun k_ => some k_ ≠ (.slice Ao12 y282.length co12 : Value).ownBlock) (fun _ => False) rfl rfl ?aO ?aR (fun _ _ h => h) (fun _ h => h.elim) ?aF ?aB ?aS ?aL ?_
     (case aR => repeat (first | exact (Kd.R_reads' HO284.out).2.2 | (with_reducible refine Kd.C_alloc ?_ _) | (with_reducible refine Kd.C_drewN ?_ _) | (with_reducible refine Kd.C_drew ?_)))
     (case aB => exact (bl_))
     (case aF => exact (fun k_ hk => Kd.fresh' (Kd.R_lt (kr_ HO284.out)) k_ hk))
     (case aO => exact (by refine kr_ ?_; exact Kd.R_mono HO_8.out (fun _ hk => hk.2)))
     (case aS => exact (below_size (bl_)))
     (case aL => have := LMc7.out; omega)
     intro v286 w11 ho hb hg hat
     rw [← Ny285.out] at ho
     replace HO284 := Aside0.mk (Kd.R_after (ok := (fun _ => True)) (kr_ HO284.out) hg hat)
     replace HB := Aside0.mk (hb)
     have HO287 := Aside0.mk (ho)
     clear HO_8
     clear ho hb hg hat
     refine hK.out _ _ ⟨(hc_ HB hw278_0), (hc_ HB hw278_1), (hc_ HB hw279_0), (hc_ HB hw279_1), (hc_ HB hw280_0), (hc_ HB hw280_1), (hc_ HB hw281_0), (hc_ HB hw281_1)⟩ (fun hHeld => ?_)
     clear hK K
     refine np_ 43 (h := ?_)
     refine pu_ 25 8 HT_.out (h := ?_)
     refine done_ (done_of HT_.out (by kernel_rfl)) ?_
     try go_wp2
     go_roundg k1
     case measure => have := HK1.out; omega
     case rel => exact ⟨(y285), (wrap64 (x9_1 + 1)), rs_, H', ⟨by have := HK1.out; omega⟩, ⟨by refine kr_ ?_; exact Kd.R_mono HO287.out (fun _ hk => trivial)⟩, ⟨bl_⟩⟩
   ·rw [if_neg c4] at H
    have c4b0 : decide (x9_1 < (l1.length : Int)) = false := decide_eq_false c4
    clear c4
    obtain ⟨⟨t288, t289⟩, A13, H⟩ := bi_ H
    replace H : (some (t288, t289)) = some (r1, r2) := H
    simp only [Option.some.injEq, Prod.mk.injEq] at H
    obtain ⟨rfl, rfl⟩ := H
    obtain ⟨Ao14, co14, eo14⟩ := Kd.R_slice HO_8.out
    subst eo14
    go_wp2_with (first | ((with_reducible refine gate_callee (f := 12) rfl ?_); refine goesL_ (some 46) rfl rfl Try.func12 (by kernel_rfl) rfl #[.int .i64 a0, .slice Ao14 x8_1.length co14] rfl (as_) ?_; (with_reducible refine (branch_Count.calls k1 a0 _ _ x8_1 t288 t289 _ ?side1 ?side2 A13.out).mono ?_); (case side1 => exact cr_ HO_8.out); (case side2 => exact (Kd.R_reads' HO_8.out).2.1); rintro e w15 ⟨rfl, hb⟩; refine ⟨_, rfl, ?_⟩; replace HO_8 := rb_ HO_8 hb; replace HB := hb_ hb; clear hb))
    go_ret2
    exact ⟨er_, bl_⟩

end Go.Proofs.Ytlcgoacmlbeliaa.P
