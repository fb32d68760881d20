-- Written by wip/tools/myprint.py of this session's repo, over the kit's printer and hand texts.
import Derived.Test.YtlcgoacmlbeliaaDoorPx0
import Derived.Test.YtlcgoacmlbeliaaDoorPre
namespace Go.Proofs.YtlcgoacmlbeliaaDoor.P
open Go.RowKit Go.Proofs.YtlcgoacmlbeliaaDoorW.PrintWords Go.Proofs.YtlcgoacmlbeliaaDoorW.PrintLast Go.Proofs.YtlcgoacmlbeliaaDoorW.PrintMore
attribute [local go_sem] max2_int min2_int max_two min_two max_three min_three max_four min_four   -- for this text's walks alone
set_option linter.unusedVariables false
set_option linter.unusedSimpArgs false

/-! ### trishawtop_along: function 7 -/
mutual
def trishawtop_along.l0 : Nat → List (S39) → ByteArray → List (S39) → Int → Option ((List (S39)))
  | 0, _, _, _, _ => none
  | k + 1, x0, x1, x5, x6 => if x6 < (x0.length : Int) then (trishawtop_along.j1 k x0 x1 x5 x6 (decide (x6 < (x1.size : Int)))) else (trishawtop_along.j1 k x0 x1 x5 x6 false)
def trishawtop_along.j1 : Nat → List (S39) → ByteArray → List (S39) → Int → Bool → Option ((List (S39)))
  | 0, _, _, _, _, _ => none
  | k + 1, x0, x1, x5, x6, x17 => if x17 = true then (if 0 ≤ x6 then (if x6 < (x0.length : Int) then (if x6 < (x1.size : Int) then (if (bt x1 x6) = 60 then (if x5.length < 8796093022208 then (trishawtop_along.l0 k x0 x1 (x5 ++ [(⟨(rd_T39 x0 x6).f1, (rd_T39 x0 x6).f0⟩ : S39)]) (wrap64 (x6 + 1))) else (none)) else (if x5.length < 8796093022208 then (trishawtop_along.l0 k x0 x1 (x5 ++ [(⟨(rd_T39 x0 x6).f0, (rd_T39 x0 x6).f1⟩ : S39)]) (wrap64 (x6 + 1))) else (none))) else (none)) else (none)) else (none)) else (some x5)
end
def trishawtop_along.f (k : Nat) (l0 : List (S39)) (a1 : ByteArray) : Option ((List (S39))) := trishawtop_along.l0 k l0 a1 ([] : List (S39)) 0
theorem trishawtop_along.mono_l : ∀ k, (∀ y0 y1 y2 y3, LeO (trishawtop_along.l0 k y0 y1 y2 y3) (trishawtop_along.l0 (k + 1) y0 y1 y2 y3)) ∧ (∀ y0 y1 y2 y3 y4, LeO (trishawtop_along.j1 k y0 y1 y2 y3 y4) (trishawtop_along.j1 (k + 1) y0 y1 y2 y3 y4))
  | 0 => ⟨fun _ _ _ _ r h => by simp [trishawtop_along.l0] at h, fun _ _ _ _ _ r h => by simp [trishawtop_along.j1] at h⟩
  | k + 1 => by
    obtain ⟨ih0, ih1⟩ := trishawtop_along.mono_l k
    refine ⟨?_, ?_⟩
    · intro y0 y1 y2 y3
      unfold trishawtop_along.l0
      with_reducible repeat' first | exact ih0 _ _ _ _ | exact ih1 _ _ _ _ _ | exact LeO.refl _ | exact LeO.none _ | refine LeO.ite ?_ ?_ | refine LeO.bind ?_ (fun _ => ?_)
    · intro y0 y1 y2 y3 y4
      unfold trishawtop_along.j1
      with_reducible repeat' first | exact ih0 _ _ _ _ | exact ih1 _ _ _ _ _ | exact LeO.refl _ | exact LeO.none _ | refine LeO.ite ?_ ?_ | refine LeO.bind ?_ (fun _ => ?_)
theorem trishawtop_along.mono : ∀ a0 a1 k, LeO (trishawtop_along.f k a0 a1) (trishawtop_along.f (k + 1) a0 a1) := by
  intro a0 a1 k
  obtain ⟨ih0, ih1⟩ := trishawtop_along.mono_l k
  unfold trishawtop_along.f
  with_reducible repeat' first | exact ih0 _ _ _ _ | exact ih1 _ _ _ _ _ | exact LeO.refl _ | exact LeO.none _ | refine LeO.ite ?_ ?_ | refine LeO.bind ?_ (fun _ => ?_)
def trishawtop_along.T7 : Bool × List (List Nat × List Nat) := (true, [([], []), ([], []), ([0, 1], [0, 1]), ([2], [2]), ([3], [3]), ([], []), ([], []), ([5, 6], [5, 6]), ([7], [7]), ([8], [8]), ([4, 9], [4, 9]), ([10, 0, 1, 2, 3, 4, 5, 6, 7, 8, 9, 10], [10])])
def trishawtop_along.B7 : List Nat := [0, 0, 3, 7, 15, 0, 0, 96, 224, 480, 1023, 2047]
theorem trishawtop_along.tab7 : rtab .any (opsOf Tryd.f7 7) = trishawtop_along.T7 := by kernel_rfl
theorem trishawtop_along.bits7 : waitsOk trishawtop_along.T7.2 trishawtop_along.B7 = true := by kernel_rfl
set_option maxHeartbeats 8000000 in
set_option maxRecDepth 100000 in
theorem trishawtop_along.calls (k : Nat) (A0 : Option Addr) (c0 : Nat) (l0 : List (S39)) (a1 : ByteArray) (r : List (S39)) (w : World) (hr0 : Kd.C k39 w A0 l0.length l0) (hc0 : l0.length ≤ c0) (h : trishawtop_along.f k l0 a1 = some r) :
    Calls Tryd.prog 7 #[.slice A0 l0.length c0, .string a1] w fun e w' => ∃ v0_ : Value, e = .returned (v0_) ∧ Kd.R k39 39 w' w.heap.size (fun _ => True) v0_ r ∧ Below w.heap.size w w' := by
 have hu39 := Tryd.underlying39
 have HR0 := Aside0.mk hr0
 have HC0 := Aside0.mk hc0
 clear hr0 hc0
 have HB := Aside0.mk (Below.refl w.heap.size w)
 have H : (trishawtop_along.l0 k l0 a1 ([] : List (S39)) 0) = some r := h
 clear h
 have H' := Aside0.mk H
 clear H
 go_enter Tryd.func7, Tryd.ntmps7
 go_wp2
 go_loopg [5, 6] k (fun kq v5 v6 w' => ∃ (x5_1 : List (S39)) (x6_1 : Int), v6 = .int .i64 x6_1 ∧ Aside0 (trishawtop_along.l0 kq l0 a1 x5_1 x6_1 = some r) ∧ Aside0 (kq ≤ k) ∧ Aside0 (Kd.R k39 39 w' w.heap.size (fun _ => True) v5 x5_1) ∧ Aside0 (Below w.heap.size w w'))
 case atStart => exact ⟨(([] : List (S39))), (0), rs_, H', ⟨Nat.le_refl _⟩, ⟨by first | exact Kd.R_nil _ _ _ _ _ | exact Kd.N_nil _ _ _ _ _ | exact Kd.V_nil _ _ _ _ _ | exact Kd.Q_nil _ _ _ _ _ | exact Kd.S_nil _ _ _ _ _⟩, ⟨bl_⟩⟩
 case round =>
  clear H'
  try clear p2
  obtain ⟨x5_1, x6_1, rfl, HA, HK1, HO_5, HB⟩ := hrel
  cases gk with
  | zero => exact absurd HA.out (by simp [trishawtop_along.l0])
  | succ k1 =>
   have H := HA.out
   clear HA
   simp only [trishawtop_along.l0] at H
   have HC3 := Aside0.mk H
   clear H
   go_upto_region 3 with (fail)
   go_cut [17] (fun v17 wc => ∃ (kq : Nat) (x17_2 : Bool), v17 = .bool x17_2 ∧ Aside0 (trishawtop_along.j1 kq l0 a1 x5_1 x6_1 x17_2 = some r) ∧ Aside0 (kq ≤ k1) ∧ Aside0 (Kd.R k39 39 wc w.heap.size (fun _ => True) u5 x5_1) ∧ Aside0 (Below w.heap.size w wc))
   case first =>
    have H := HC3.out
    clear HC3
    by_cases c4 : x6_1 < (l0.length : Int)
    ·rw [if_pos c4] at H
     have c4b0 : decide (x6_1 < (l0.length : Int)) = true := decide_eq_true c4
     clear c4
     (first | rw [c4b0] | (simp only [i64_w, i32_w]; rw [c4b0]) | skip)
     have H' := Aside0.mk H
     clear H
     go_wp2
     go_meet
     case rel => exact ⟨_, (decide (x6_1 < (a1.size : Int))), rs_, H', ⟨by have := HK1.out; first | omega | exact Nat.le_refl _⟩, ⟨kr_ HO_5.out⟩, ⟨bl_⟩⟩
    ·rw [if_neg c4] at H
     have c4b0 : decide (x6_1 < (l0.length : Int)) = false := decide_eq_false c4
     clear c4
     (first | rw [c4b0] | (simp only [i64_w, i32_w]; rw [c4b0]) | skip)
     have H' := Aside0.mk H
     clear H
     go_wp2
     go_meet
     case rel => exact ⟨_, (false), rs_, H', ⟨by have := HK1.out; first | omega | exact Nat.le_refl _⟩, ⟨kr_ HO_5.out⟩, ⟨bl_⟩⟩
   case rest =>
    clear HC3
    try clear p2
    try clear c4
    try clear c4b0
    try clear p2
    obtain ⟨kq, x17_2, rfl, HA, HJ2, HO_5, HB⟩ := hcut
    cases kq with
    | zero => exact absurd HA.out (by simp [trishawtop_along.j1])
    | succ kj2 =>
     have H := HA.out
     clear HA
     simp only [trishawtop_along.j1] at H
     by_cases c5 : x17_2 = true
     ·subst c5
      have H1 : (if 0 ≤ x6_1 then (if x6_1 < (l0.length : Int) then (if x6_1 < (a1.size : Int) then (if (bt a1 x6_1) = 60 then (if x5_1.length < 8796093022208 then (trishawtop_along.l0 kj2 l0 a1 (x5_1 ++ [(⟨(rd_T39 l0 x6_1).f1, (rd_T39 l0 x6_1).f0⟩ : S39)]) (wrap64 (x6_1 + 1))) else (none)) else (if x5_1.length < 8796093022208 then (trishawtop_along.l0 kj2 l0 a1 (x5_1 ++ [(⟨(rd_T39 l0 x6_1).f0, (rd_T39 l0 x6_1).f1⟩ : S39)]) (wrap64 (x6_1 + 1))) else (none))) else (none)) else (none)) else (none)) = some r := by rw [if_pos rfl] at H; exact H
      clear H
      have H := H1
      clear H1
      obtain ⟨c6b0, H⟩ := fp_ H
      obtain ⟨c7b0, H⟩ := fp_ H
      obtain ⟨c8b0, H⟩ := fp_ H
      by_cases c10 : (bt a1 x6_1) = 60
      ·rw [if_pos c10] at H
       have c10b0 : ((bt a1 x6_1) == 60) = true := beq_iff_eq.mpr c10
       have c10b1 : ((bt a1 x6_1) != 60) = false := bne_eq_false_iff_eq.mpr c10
       clear c10
       have c11 : x5_1.length < 8796093022208 := fl_ fun c11 => by rw [if_neg c11] at H; exact absurd H (by simp)
       rw [if_pos c11] at H
       have LMc11 := Aside0.mk c11
       clear c11
       obtain ⟨y301, hy301⟩ : ∃ y_ : List (S39), y_ = (x5_1 ++ [(⟨(rd_T39 l0 x6_1).f1, (rd_T39 l0 x6_1).f0⟩ : S39)]) := ⟨_, rfl⟩
       replace H : (trishawtop_along.l0 kj2 l0 a1 y301 (wrap64 (x6_1 + 1))) = some r := by first | (rw [hy301]; with_reducible exact H) | (have H2_ := (Option.bind_some _ _).symm.trans H; rw [hy301]; with_reducible exact H2_) | (have H2_ := (Option.bind_some _ _).symm.trans H; with_reducible exact H2_) | with_reducible exact H | (rw [hy301]; exact H) | exact H
       have Ny301 := Aside0.mk hy301
       clear hy301
       have H' := Aside0.mk H
       clear H
       have p297 : 0 ≤ (x6_1 : Int) := od_
       have q297 : x6_1 < (l0.length : Int) := od_
       obtain ⟨ad297, e297, hx297_0, hx297_1⟩ := at_T39 HR0.out x6_1 p297 q297
       cases e297
       replace hx297_0 := hc_ HB hx297_0
       replace hx297_1 := hc_ HB hx297_1
       replace p297 := eq_true p297
       replace q297 := eq_true q297
       try go_wp2_with (first | ((with_reducible refine gate_dst (N := 7) rfl ?_); (try (refine gate_guard (by rfl) ?_; dsimp only)); refine be_ #[.int .i64 0, .int .i64 0] 39 ?_; intro gb298 hg w12 hbox hb; replace HO_5 := Aside0.mk (Kd.R_below (Kd.R_elderB (kr_ HO_5.out) gb298 (Nat.le_of_eq hg.symm)) hb); have BK298 := Aside0.mk (hbox); have GW298 := gw_ hg; have GE298 := gw_ hg; replace HB := hb_ hb; clear hb hbox hg; have hcz13_0 := bc_ BK298 0 (.int .i64 0); have hcz13_1 := bc_ BK298 1 (.int .i64 0); have hfz13_0 := bz_ BK298 0; have hfz13_1 := bz_ BK298 1; have p9 : 0 ≤ (x6_1 : Int) := od_; have q9 : x6_1 < (a1.size : Int) := od_; have hx9 := bt_at a1 x6_1; replace p9 := eq_true p9; replace q9 := eq_true q9))
       have n0_ : Aside0 (Kd.R k39 39 ((w12.setCell ⟨gb298, 0, none⟩ (.int .i64 ((rd_T39 l0 x6_1).f0))).setCell ⟨gb298, 1, none⟩ (.int .i64 ((rd_T39 l0 x6_1).f1))) w.heap.size (fun k_ => k_ ≠ gb298) u5 x5_1) := ⟨by refine kr_ ?_; exact Kd.R_mono (Kd.R_far (p := ⟨gb298, 1, none⟩) (Kd.R_far (p := ⟨gb298, 0, none⟩) (Kd.R_mono HO_5.out (fun k_ hk => (⟨hk, hk.2⟩ : _ ∧ k_ ≠ gb298))) (fun _ hk => hk.2) (.int .i64 ((rd_T39 l0 x6_1).f0))) (fun _ hk => hk.2) (.int .i64 ((rd_T39 l0 x6_1).f1))) (fun _ hk => hk.1.2)⟩
       have n1_ : Aside0 (((w12.setCell ⟨gb298, 0, none⟩ (.int .i64 ((rd_T39 l0 x6_1).f0))).setCell ⟨gb298, 1, none⟩ (.int .i64 ((rd_T39 l0 x6_1).f1))).heap[gb298]? = some (.cells #[.int .i64 ((rd_T39 l0 x6_1).f0), .int .i64 ((rd_T39 l0 x6_1).f1)] 39 (0, 0))) := ⟨by refine bk_ ?_; refine blk_put (cs := #[.int .i64 ((rd_T39 l0 x6_1).f0), .int .i64 0]) ?_ 1 _ rfl; refine bk_ ?_; refine blk_put (cs := #[.int .i64 0, .int .i64 0]) ?_ 0 _ rfl; refine bk_ ?_; exact BK298.out⟩
       have n2_ : Aside0 (Below w.heap.size w ((w12.setCell ⟨gb298, 0, none⟩ (.int .i64 ((rd_T39 l0 x6_1).f0))).setCell ⟨gb298, 1, none⟩ (.int .i64 ((rd_T39 l0 x6_1).f1)))) := ⟨bl_⟩
       (try clear HO_5)
       (try clear BK298)
       (try clear HB)
       generalize ((w12.setCell ⟨gb298, 0, none⟩ (.int .i64 ((rd_T39 l0 x6_1).f0))).setCell ⟨gb298, 1, none⟩ (.int .i64 ((rd_T39 l0 x6_1).f1))) = w14 at n0_ n1_ n2_ ⊢
       have HO_5 := n0_
       have BK298 := n1_
       have HB := n2_
       clear n0_ n1_ n2_
       replace HO_5 := Aside0.mk (Kd.R_drew HO_5.out)
       replace BK298 := Aside0.mk (blk_drew BK298.out)
       replace HB := Aside0.mk (below_drew1 HB.out)
       have p299 : 0 ≤ (x6_1 : Int) := od_
       have q299 : x6_1 < (l0.length : Int) := od_
       obtain ⟨ad299, e299, hx299_0, hx299_1⟩ := at_T39 HR0.out x6_1 p299 q299
       have hw299_1 := hx299_1
       have hw299_0 := hx299_0
       obtain rfl : ad297 = ad299 := (by injection e299)
       replace hx299_0 := hc_ HB hx299_0
       replace hx299_1 := hc_ HB hx299_1
       replace p299 := eq_true p299
       replace q299 := eq_true q299
       have p300 : 0 ≤ (x6_1 : Int) := od_
       have q300 : x6_1 < (l0.length : Int) := od_
       obtain ⟨ad300, e300, hx300_0, hx300_1⟩ := at_T39 HR0.out x6_1 p300 q300
       have hw300_1 := hx300_1
       have hw300_0 := hx300_0
       obtain rfl : ad297 = ad300 := (by injection e300)
       replace hx300_0 := hc_ HB hx300_0
       replace hx300_1 := hc_ HB hx300_1
       replace p300 := eq_true p300
       replace q300 := eq_true q300
       refine start_ (n := 12) (S := fun w' => w'.cell? (ad297.add ((x6_1).toNat * 2)) = some (.int .i64 ((rd_T39 l0 x6_1).f0)) ∧ w'.cell? ⟨(ad297.add ((x6_1).toNat * 2)).block, (ad297.add ((x6_1).toNat * 2)).off + 1, none⟩ = some (.int .i64 ((rd_T39 l0 x6_1).f1)) ∧ w'.cell? (ad297.add ((x6_1).toNat * 2)) = some (.int .i64 ((rd_T39 l0 x6_1).f0)) ∧ w'.cell? ⟨(ad297.add ((x6_1).toNat * 2)).block, (ad297.add ((x6_1).toNat * 2)).off + 1, none⟩ = some (.int .i64 ((rd_T39 l0 x6_1).f1))) (ds := []) #[false, false, false, false, false, false, false, false, false, false, false, false] (by kernel_rfl) rfl rfl ⟨(hc_ HB hw299_0), (hc_ HB hw299_1), (hc_ HB hw300_0), (hc_ HB hw300_1)⟩ (fun hHeld => ?_); refine with_tabW trishawtop_along.tab7 trishawtop_along.bits7 (fun HT_ HW_ => ?_)
       generalize w14.drew = w15 at HO_5 BK298 HB hx299_0 hx299_1 hx300_0 hx300_1 hHeld ⊢
       refine pu_ 0 28 HT_.out (h := ?_)
       refine pu_ 1 29 HT_.out (h := ?_)
       refine pu_ 2 30 HT_.out (h := ?_)
       refine pu_ 3 31 HT_.out (h := ?_)
       refine pu_ 5 33 HT_.out (h := ?_)
       refine pu_ 6 34 HT_.out (h := ?_)
       refine pu_ 7 35 HT_.out (h := ?_)
       refine pu_ 8 36 HT_.out (h := ?_)
       refine ta_ 4 32 HT_.out HW_.out hHeld (h := ?_)
       refine ta_ 9 37 HT_.out HW_.out hHeld (h := ?_)
       refine pu_ 10 38 HT_.out (h := ?_)
       refine one_ (i := 11) (N := none) #[true, true, true, true, true, true, true, true, true, true, true, true] rfl rfl (one_of HT_.out (by kernel_rfl)) (by decide) (fun K hK => ?_)
       have hs16 : w15.cell? ⟨gb298, 0, none⟩ = some (.int .i64 ((rd_T39 l0 x6_1).f0)) := (blk_cell BK298.out 0).trans rfl
       have hfs16 := bz_ BK298 0
       have hs17 : w15.cell? ⟨gb298, 1, none⟩ = some (.int .i64 ((rd_T39 l0 x6_1).f1)) := (blk_cell BK298.out 1).trans rfl
       have hfs17 := bz_ BK298 1
       refine skip_ (w1 := ?_) (by rfl) rfl ?_ ?_
       rotate_left
       ·go_simp
        rfl
       refine hK.out _ _ ⟨((cell_far (p := ⟨gb298, _, none⟩) (nf_ hw299_0 GW298.out) _).trans (((cell_far (p := ⟨gb298, _, none⟩) (nf_ hw299_0 GW298.out) _).trans (hHeld.1)))), ((cell_far (p := ⟨gb298, _, none⟩) (nf_ hw299_1 GW298.out) _).trans (((cell_far (p := ⟨gb298, _, none⟩) (nf_ hw299_1 GW298.out) _).trans (hHeld.2.1)))), ((cell_far (p := ⟨gb298, _, none⟩) (nf_ hw300_0 GW298.out) _).trans (((cell_far (p := ⟨gb298, _, none⟩) (nf_ hw300_0 GW298.out) _).trans (hHeld.2.2.1)))), ((cell_far (p := ⟨gb298, _, none⟩) (nf_ hw300_1 GW298.out) _).trans (((cell_far (p := ⟨gb298, _, none⟩) (nf_ hw300_1 GW298.out) _).trans (hHeld.2.2.2))))⟩ (fun hHeld => ?_)
       clear hK K
       refine done_ (done_of HT_.out (by kernel_rfl)) ?_
       have hcz18_0 := bc_ BK298 0 (.int .i64 ((rd_T39 l0 x6_1).f0))
       have hcz18_1 := bc_ BK298 1 (.int .i64 ((rd_T39 l0 x6_1).f1))
       have hfz18_0 := bz_ BK298 0
       have hfz18_1 := bz_ BK298 1
       try go_wp2_with (first | ((with_reducible refine gate_builtin (b := .append) (xs := #[.tmp 39, .tmp 41]) rfl ?_); (try (refine gate_guard (by rfl) ?_; dsimp only)); at_builtin; refine Kd.R_append k39 (w0 := w) w.heap.size rfl (.tmp 39) (.tmp 41) 22 39 (.agg #[(.int .i64 0), (.int .i64 0)]) 16 rfl Tryd.underlying22 info39 rfl (by decide) (by omega) u5 x5_1 (⟨(rd_T39 l0 x6_1).f1, (rd_T39 l0 x6_1).f0⟩ : S39) [.int .i64 ((rd_T39 l0 x6_1).f1), .int .i64 ((rd_T39 l0 x6_1).f0)] (fun k_ => k_ ≠ gb298) (fun _ => False) rfl (by first | (go_simp; done) | (go_simp; rfl)) ?aP (fun _ hk => hk.elim) ?aF ?aO ?aB ?aS ?aL ?_; (case aP => exact k39_mkM _ _ _ (⟨(rd_T39 l0 x6_1).f1, (rd_T39 l0 x6_1).f0⟩ : S39)); (case aB => exact (bl_)); (case aF => exact (fun k_ hk => Kd.freshB (g := gb298) (o := .cells #[.int .i64 ((rd_T39 l0 x6_1).f1), .int .i64 ((rd_T39 l0 x6_1).f0)] 39 (0, 0)) (by refine bk_ ?_; refine blk_put (cs := #[.int .i64 ((rd_T39 l0 x6_1).f1), .int .i64 ((rd_T39 l0 x6_1).f1)]) ?_ 1 _ rfl; refine bk_ ?_; refine blk_put (cs := #[.int .i64 ((rd_T39 l0 x6_1).f0), .int .i64 ((rd_T39 l0 x6_1).f1)]) ?_ 0 _ rfl; refine bk_ ?_; exact BK298.out) k_ hk)); (case aO => exact (by refine kr_ ?_; exact Kd.R_mono (Kd.R_far (p := ⟨gb298, 1, none⟩) (Kd.R_far (p := ⟨gb298, 0, none⟩) (Kd.R_mono HO_5.out (fun k_ hk => (⟨hk, hk⟩ : _ ∧ k_ ≠ gb298))) (fun _ hk => hk.2) (.int .i64 ((rd_T39 l0 x6_1).f1))) (fun _ hk => hk.2) (.int .i64 ((rd_T39 l0 x6_1).f0))) (fun _ hk => hk.1))); (case aS => exact (below_size (bl_))); (case aL => have := LMc11.out; omega); intro v302 w19 ho hb hg hat; rw [← Ny301.out] at ho; replace BK298 := Aside0.mk (blk_grown (g := gb298) (o := .cells #[.int .i64 ((rd_T39 l0 x6_1).f1), .int .i64 ((rd_T39 l0 x6_1).f0)] 39 (0, 0)) (by refine bk_ ?_; refine blk_put (cs := #[.int .i64 ((rd_T39 l0 x6_1).f1), .int .i64 ((rd_T39 l0 x6_1).f1)]) ?_ 1 _ rfl; refine bk_ ?_; refine blk_put (cs := #[.int .i64 ((rd_T39 l0 x6_1).f0), .int .i64 ((rd_T39 l0 x6_1).f1)]) ?_ 0 _ rfl; refine bk_ ?_; exact BK298.out) hg (Kd.R_away HO_5.out (fun _ hk => hk))); replace HB := Aside0.mk (hb); have HO303 := Aside0.mk (ho); clear HO_5; clear ho hb hg hat))
       go_roundg kj2
       case measure => have := HK1.out; have := HJ2.out; omega
       case rel => exact ⟨(y301), (wrap64 (x6_1 + 1)), rs_, H', ⟨by have := HK1.out; have := HJ2.out; omega⟩, ⟨by refine kr_ ?_; exact Kd.R_mono HO303.out (fun _ hk => trivial)⟩, ⟨bl_⟩⟩
      ·rw [if_neg c10] at H
       have c10b0 : ((bt a1 x6_1) == 60) = false := beq_eq_false_iff_ne.mpr c10
       have c10b1 : ((bt a1 x6_1) != 60) = true := bne_iff_ne.mpr c10
       have c20 : x5_1.length < 8796093022208 := fl_ fun c20 => by rw [if_neg c20] at H; exact absurd H (by simp)
       rw [if_pos c20] at H
       have LMc20 := Aside0.mk c20
       clear c20
       obtain ⟨y304, hy304⟩ : ∃ y_ : List (S39), y_ = (x5_1 ++ [(⟨(rd_T39 l0 x6_1).f0, (rd_T39 l0 x6_1).f1⟩ : S39)]) := ⟨_, rfl⟩
       replace H : (trishawtop_along.l0 kj2 l0 a1 y304 (wrap64 (x6_1 + 1))) = some r := by first | (rw [hy304]; with_reducible exact H) | (have H2_ := (Option.bind_some _ _).symm.trans H; rw [hy304]; with_reducible exact H2_) | (have H2_ := (Option.bind_some _ _).symm.trans H; with_reducible exact H2_) | with_reducible exact H | (rw [hy304]; exact H) | exact H
       have Ny304 := Aside0.mk hy304
       clear hy304
       have H' := Aside0.mk H
       clear H
       have p297 : 0 ≤ (x6_1 : Int) := od_
       have q297 : x6_1 < (l0.length : Int) := od_
       obtain ⟨ad297, e297, hx297_0, hx297_1⟩ := at_T39 HR0.out x6_1 p297 q297
       cases e297
       replace hx297_0 := hc_ HB hx297_0
       replace hx297_1 := hc_ HB hx297_1
       replace p297 := eq_true p297
       replace q297 := eq_true q297
       go_wp2_with (first | ((with_reducible refine gate_dst (N := 7) rfl ?_); (try (refine gate_guard (by rfl) ?_; dsimp only)); refine be_ #[.int .i64 0, .int .i64 0] 39 ?_; intro gb298 hg w21 hbox hb; replace HO_5 := Aside0.mk (Kd.R_below (Kd.R_elderB (kr_ HO_5.out) gb298 (Nat.le_of_eq hg.symm)) hb); have BK298 := Aside0.mk (hbox); have GW298 := gw_ hg; have GE298 := gw_ hg; replace HB := hb_ hb; clear hb hbox hg; have hcz22_0 := bc_ BK298 0 (.int .i64 0); have hcz22_1 := bc_ BK298 1 (.int .i64 0); have hfz22_0 := bz_ BK298 0; have hfz22_1 := bz_ BK298 1; have p9 : 0 ≤ (x6_1 : Int) := od_; have q9 : x6_1 < (a1.size : Int) := od_; have hx9 := bt_at a1 x6_1; replace p9 := eq_true p9; replace q9 := eq_true q9) | ((with_reducible refine gate_builtin (b := .append) (xs := #[.tmp 39, .tmp 41]) rfl ?_); (try (refine gate_guard (by rfl) ?_; dsimp only)); at_builtin; refine Kd.R_append k39 (w0 := w) w.heap.size rfl (.tmp 39) (.tmp 41) 22 39 (.agg #[(.int .i64 0), (.int .i64 0)]) 16 rfl Tryd.underlying22 info39 rfl (by decide) (by omega) u5 x5_1 (⟨(rd_T39 l0 x6_1).f0, (rd_T39 l0 x6_1).f1⟩ : S39) [.int .i64 ((rd_T39 l0 x6_1).f0), .int .i64 ((rd_T39 l0 x6_1).f1)] (fun k_ => k_ ≠ gb298) (fun _ => False) rfl (by first | (go_simp; done) | (go_simp; rfl)) ?aP (fun _ hk => hk.elim) ?aF ?aO ?aB ?aS ?aL ?_; (case aP => exact k39_mkM _ _ _ (⟨(rd_T39 l0 x6_1).f0, (rd_T39 l0 x6_1).f1⟩ : S39)); (case aB => exact (bl_)); (case aF => exact (fun k_ hk => Kd.freshB (g := gb298) (o := .cells #[.int .i64 ((rd_T39 l0 x6_1).f0), .int .i64 ((rd_T39 l0 x6_1).f1)] 39 (0, 0)) (by refine bk_ ?_; refine blk_put (cs := #[.int .i64 ((rd_T39 l0 x6_1).f0), .int .i64 0]) ?_ 1 _ rfl; refine bk_ ?_; refine blk_put (cs := #[.int .i64 0, .int .i64 0]) ?_ 0 _ rfl; refine bk_ ?_; exact BK298.out) k_ hk)); (case aO => exact (by refine kr_ ?_; exact Kd.R_mono (Kd.R_far (p := ⟨gb298, 1, none⟩) (Kd.R_far (p := ⟨gb298, 0, none⟩) (Kd.R_mono HO_5.out (fun k_ hk => (⟨hk, hk.2⟩ : _ ∧ k_ ≠ gb298))) (fun _ hk => hk.2) (.int .i64 ((rd_T39 l0 x6_1).f0))) (fun _ hk => hk.2) (.int .i64 ((rd_T39 l0 x6_1).f1))) (fun _ hk => hk.1.2))); (case aS => exact (below_size (bl_))); (case aL => have := LMc20.out; omega); intro v305 w23 ho hb hg hat; rw [← Ny304.out] at ho; replace BK298 := Aside0.mk (blk_grown (g := gb298) (o := .cells #[.int .i64 ((rd_T39 l0 x6_1).f0), .int .i64 ((rd_T39 l0 x6_1).f1)] 39 (0, 0)) (by refine bk_ ?_; refine blk_put (cs := #[.int .i64 ((rd_T39 l0 x6_1).f0), .int .i64 0]) ?_ 1 _ rfl; refine bk_ ?_; refine blk_put (cs := #[.int .i64 0, .int .i64 0]) ?_ 0 _ rfl; refine bk_ ?_; exact BK298.out) hg (Kd.R_away HO_5.out (fun _ hk => hk.2))); replace HB := Aside0.mk (hb); have HO306 := Aside0.mk (ho); clear HO_5; clear ho hb hg hat))
       go_roundg kj2
       case measure => have := HK1.out; have := HJ2.out; omega
       case rel => exact ⟨(y304), (wrap64 (x6_1 + 1)), rs_, H', ⟨by have := HK1.out; have := HJ2.out; omega⟩, ⟨by refine kr_ ?_; exact Kd.R_mono HO306.out (fun _ hk => trivial)⟩, ⟨bl_⟩⟩
     ·replace c5 := Bool.eq_false_iff.mpr c5
      subst c5
      have H1 : (some x5_1) = some r := by rw [if_neg (show ¬ (false = true) by decide)] at H; exact H
      clear H
      have H := H1
      clear H1
      obtain rfl := Option.some.inj H
      go_wp2
      go_ret
      exact ⟨_, er_, by refine kr_ ?_; exact HO_5.out, bl_⟩

end Go.Proofs.YtlcgoacmlbeliaaDoor.P
