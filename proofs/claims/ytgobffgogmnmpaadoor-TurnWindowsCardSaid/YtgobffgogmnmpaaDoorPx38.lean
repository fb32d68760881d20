-- Written by wip/tools/myprint.py of this session's repo, over the kit's printer and hand texts.
import Derived.Test.YtgobffgogmnmpaaDoorPx0
import Derived.Test.YtgobffgogmnmpaaDoorPre
import Derived.Test.YtgobffgogmnmpaaDoorPx35
import Derived.Test.YtgobffgogmnmpaaDoorPx36
namespace Go.Proofs.YtgobffgogmnmpaaDoor.P
open Go.RowKit Go.Proofs.YtgobffgogmnmpaaDoorW.PrintWords Go.Proofs.YtgobffgogmnmpaaDoorW.PrintLast Go.Proofs.YtgobffgogmnmpaaDoorW.PrintMore
attribute [local go_sem] max2_int min2_int max_two min_two max_three min_three max_four min_four   -- for this text's walks alone
set_option linter.unusedVariables false
set_option linter.unusedSimpArgs false

/-! ### trishawref01_Times: function 80 -/
def trishawref01_Times.f (k : Nat) (a0_0 : Bool) (l0_1 : List Int) (a1_0 : Bool) (l1_1 : List Int) : Option (Bool × List Int) := (trishawref01_mulD.f k l0_1 l1_1).bind fun t1016 => ((trishawref01_whole.f k (a0_0 != a1_0) t1016).bind fun bt1019 => (some (bt1019.1, bt1019.2)))
def trishawref01_Times.T1 : Bool × List (List Nat × List Nat) := (true, [([], []), ([0], [0]), ([], []), ([2], [2]), ([1, 3], [1, 3]), ([], []), ([5], [5]), ([], []), ([7], [7]), ([6, 8], [6, 8]), ([4, 9, 9], [4, 9]), ([10, 10, 0, 1, 2, 3, 4, 5, 6, 7, 8, 9, 10], [10])])
def trishawref01_Times.B1 : List Nat := [0, 1, 0, 4, 15, 0, 32, 0, 128, 480, 1023, 2047]
theorem trishawref01_Times.tab1 : rtab .any (opsOf Tryd.f80 1) = trishawref01_Times.T1 := by kernel_rfl
theorem trishawref01_Times.bits1 : waitsOk trishawref01_Times.T1.2 trishawref01_Times.B1 = true := by kernel_rfl
set_option maxHeartbeats 8000000 in
set_option maxRecDepth 100000 in
theorem trishawref01_Times.calls (k : Nat) (a0_0 : Bool) (A0_1 : Option Addr) (c0_1 : Nat) (l0_1 : List Int) (a1_0 : Bool) (A1_1 : Option Addr) (c1_1 : Nat) (l1_1 : List Int) (r1 : Bool) (r2 : List Int) (w : World) (hr0_1 : Kd.C (Kd.int .i64) w A0_1 l0_1.length l0_1) (hc0_1 : l0_1.length ≤ c0_1) (hr1_1 : Kd.C (Kd.int .i64) w A1_1 l1_1.length l1_1) (hc1_1 : l1_1.length ≤ c1_1) (h : trishawref01_Times.f k a0_0 l0_1 a1_0 l1_1 = some (r1, r2)) :
    Calls Tryd.prog 80 #[.agg #[.bool a0_0, .slice A0_1 l0_1.length c0_1], .agg #[.bool a1_0, .slice A1_1 l1_1.length c1_1]] w fun e w' => ∃ v1_ : Value, e = .returned (.agg #[.bool r1, v1_]) ∧ Kd.R (Kd.int .i64) 3 w' w.heap.size (fun _ => True) v1_ r2 ∧ Below w.heap.size w w' := by
 have hu91 := Tryd.underlying91
 have HR0_1 := Aside0.mk hr0_1
 have HC0_1 := Aside0.mk hc0_1
 clear hr0_1 hc0_1
 have HR1_1 := Aside0.mk hr1_1
 have HC1_1 := Aside0.mk hc1_1
 clear hr1_1 hc1_1
 have HB := Aside0.mk (Below.refl w.heap.size w)
 have H : ((trishawref01_mulD.f k l0_1 l1_1).bind fun t1016 => ((trishawref01_whole.f k (a0_0 != a1_0) t1016).bind fun bt1019 => (some (bt1019.1, bt1019.2)))) = some (r1, r2) := h
 clear h
 obtain ⟨t1016, A3, H⟩ := bi_ H
 replace H : ((trishawref01_whole.f k (a0_0 != a1_0) t1016).bind fun bt1019 => (some (bt1019.1, bt1019.2))) = some (r1, r2) := H
 obtain ⟨⟨t1019, t1020⟩, A4, H⟩ := bi_ H
 replace H : (some (t1019, t1020)) = some (r1, r2) := H
 simp only [Option.some.injEq, Prod.mk.injEq] at H
 obtain ⟨rfl, rfl⟩ := H
 go_enter Tryd.func80, Tryd.ntmps80
 try go_wp2_with (first | ((with_reducible refine gate_dst (N := 2) rfl ?_); refine be_ #[.bool a0_0, .slice A0_1 l0_1.length c0_1] 91 ?_; intro gb1013 hg w5 hbox hb; have BK1013 := Aside0.mk (hbox); have GW1013 := gw_ hg; have GE1013 := gw_ hg; replace HB := hb_ hb; clear hb hbox hg) | ((with_reducible refine gate_dst (N := 3) rfl ?_); refine be_ #[.bool a1_0, .slice A1_1 l1_1.length c1_1] 91 ?_; intro gb1014 hg w6 hbox hb; have BK1014 := Aside0.mk (hbox); have GW1014 := gw_ hg; have GE1014 := gw_ hg; replace HB := hb_ hb; have NB1013_1014 := nl_ hg BK1013; have NB1014_1013 := sy_ NB1013_1014; replace BK1013 := bb_ BK1013 hb; clear hb hbox hg) | ((with_reducible refine gate_dst (N := 4) rfl ?_); refine be_ #[.bool false, .slice none 0 0] 91 ?_; intro gb1015 hg w7 hbox hb; have BK1015 := Aside0.mk (hbox); have GW1015 := gw_ hg; have GE1015 := gw_ hg; replace HB := hb_ hb; have NB1013_1015 := nl_ hg BK1013; have NB1015_1013 := sy_ NB1013_1015; replace BK1013 := bb_ BK1013 hb; have NB1014_1015 := nl_ hg BK1014; have NB1015_1014 := sy_ NB1014_1015; replace BK1014 := bb_ BK1014 hb; clear hb hbox hg))
 replace BK1013 := Aside0.mk (blk_drew BK1013.out)
 replace BK1014 := Aside0.mk (blk_drew BK1014.out)
 replace BK1015 := Aside0.mk (blk_drew BK1015.out)
 replace HB := Aside0.mk (below_drew1 HB.out)
 refine start_ (n := 12) (S := fun w' => w'.cell? ⟨gb1013, 0, none⟩ = some (.bool a0_0) ∧ w'.cell? ⟨gb1013, 1, none⟩ = some (.slice A0_1 l0_1.length c0_1) ∧ w'.cell? ⟨gb1014, 0, none⟩ = some (.bool a1_0) ∧ w'.cell? ⟨gb1014, 1, none⟩ = some (.slice A1_1 l1_1.length c1_1)) (ds := []) #[false, false, false, false, false, false, false, false, false, false, false, false] (by kernel_rfl) rfl rfl ⟨(blk_cell BK1013.out 0).trans rfl, (blk_cell BK1013.out 1).trans rfl, (blk_cell BK1014.out 0).trans rfl, (blk_cell BK1014.out 1).trans rfl⟩ (fun hHeld => ?_); refine with_tabW trishawref01_Times.tab1 trishawref01_Times.bits1 (fun HT_ HW_ => ?_)
 generalize w7.drew = w8 at BK1013 BK1014 BK1015 HB hHeld ⊢
 refine pu_ 0 5 HT_.out (h := ?_)
 refine pu_ 2 7 HT_.out (h := ?_)
 refine pu_ 5 10 HT_.out (h := ?_)
 refine pu_ 7 12 HT_.out (h := ?_)
 refine ta_ 1 6 HT_.out HW_.out hHeld (h := ?_)
 refine ta_ 3 8 HT_.out HW_.out hHeld (h := ?_)
 refine pu_ 4 9 HT_.out (h := ?_)
 refine ta_ 6 11 HT_.out HW_.out hHeld (h := ?_)
 refine ta_ 8 13 HT_.out HW_.out hHeld (h := ?_)
 refine one_ (i := 9) (N := some 14) #[true, true, true, true, true, true, true, true, true, true, false, false] rfl rfl (one_of HT_.out (by kernel_rfl)) (by decide) (fun K hK => ?_)
 refine goes_ Tryd.func87 (by kernel_rfl) rfl #[.slice A0_1 l0_1.length c0_1, .slice A1_1 l1_1.length c1_1] (by rfl) rfl rfl (as_) ?_
 with_reducible refine (trishawref01_mulD.calls k _ _ l0_1 _ _ l1_1 t1016 _ ?side1 ?side2 ?side3 ?side4 A3.out).mono ?_
 (case side1 => exact cb_ HR0_1.out)
 (case side2 => exact HC0_1.out)
 (case side3 => exact cb_ HR1_1.out)
 (case side4 => exact HC1_1.out)
 rintro e w9 ⟨v1017, rfl, ho0, hb⟩
 refine ⟨_, rfl, ?_⟩
 have HO1018 := rl_ ho0
 replace BK1013 := bb_ BK1013 hb
 replace BK1014 := bb_ BK1014 hb
 replace BK1015 := bb_ BK1015 hb
 replace HB := hb_ hb
 clear hb ho0
 obtain ⟨Ao10, co10, eo10⟩ := Kd.R_slice HO1018.out
 (first | subst eo10 | (injection eo10 with f1_ f2_ f3_; have f4_ := f1_.symm; have f5_ := f3_.symm; clear f1_ f2_ f3_; subst f4_; subst f5_))
 refine hK.out _ _ ⟨(blk_cell BK1013.out 0).trans rfl, (blk_cell BK1013.out 1).trans rfl, (blk_cell BK1014.out 0).trans rfl, (blk_cell BK1014.out 1).trans rfl⟩ (fun hHeld => ?_)
 clear hK K
 refine np_ 14 (h := ?_)
 refine one_ (i := 10) (N := some 15) #[true, true, true, true, true, true, true, true, true, true, true, false] rfl rfl (one_of HT_.out (by kernel_rfl)) (by decide) (fun K hK => ?_)
 refine goes_ Tryd.func84 (by kernel_rfl) rfl #[.bool (a0_0 != a1_0), .slice Ao10 t1016.length co10] (by rfl) rfl rfl (as_) ?_
 with_reducible refine (trishawref01_whole.calls k (a0_0 != a1_0) _ _ t1016 t1019 t1020 _ ?side1 ?side2 A4.out).mono ?_
 (case side1 => exact cr_ HO1018.out)
 (case side2 => exact (Kd.R_reads' HO1018.out).2.1)
 rintro e w11 ⟨v1021, rfl, ho0, hb⟩
 refine ⟨_, rfl, ?_⟩
 have HO1022 := rl_ (rn_ ho0 HO1018)
 replace HO1018 := re_ HO1018 ho0 hb
 replace BK1013 := bb_ BK1013 hb
 replace BK1014 := bb_ BK1014 hb
 replace BK1015 := bb_ BK1015 hb
 replace HB := hb_ hb
 clear hb ho0
 obtain ⟨Ao13, co13, eo13⟩ := Kd.R_slice HO1022.out
 (first | subst eo13 | (injection eo13 with f1_ f2_ f3_; have f4_ := f1_.symm; have f5_ := f3_.symm; clear f1_ f2_ f3_; subst f4_; subst f5_))
 refine hK.out _ _ ⟨(blk_cell BK1013.out 0).trans rfl, (blk_cell BK1013.out 1).trans rfl, (blk_cell BK1014.out 0).trans rfl, (blk_cell BK1014.out 1).trans rfl⟩ (fun hHeld => ?_)
 clear hK K
 refine np_ 15 (h := ?_)
 refine one_ (i := 11) (N := none) #[true, true, true, true, true, true, true, true, true, true, true, true] rfl rfl (one_of HT_.out (by kernel_rfl)) (by decide) (fun K hK => ?_)
 have hs12 : w11.cell? ⟨gb1015, 0, none⟩ = some (.bool false) := (blk_cell BK1015.out 0).trans rfl
 have hfs12 := bz_ BK1015 0
 have hns12_0 := NB1013_1015.out
 have hns12_1 := NB1014_1015.out
 have hms12_0 := NB1015_1013.out
 have hms12_1 := NB1015_1014.out
 have hs14 : w11.cell? ⟨gb1015, 1, none⟩ = some (.slice none 0 0) := (blk_cell BK1015.out 1).trans rfl
 have hfs14 := bz_ BK1015 1
 have hns14_0 := NB1013_1015.out
 have hns14_1 := NB1014_1015.out
 have hms14_0 := NB1015_1013.out
 have hms14_1 := NB1015_1014.out
 refine skip_ (w1 := ?_) (by rfl) rfl ?_ ?_
 rotate_left
 ·go_simp
  rfl
 refine hK.out _ _ ⟨((cell_far (p := ⟨gb1015, _, none⟩) NB1013_1015.out _).trans (((cell_far (p := ⟨gb1015, _, none⟩) NB1013_1015.out _).trans (hHeld.1)))), ((cell_far (p := ⟨gb1015, _, none⟩) NB1013_1015.out _).trans (((cell_far (p := ⟨gb1015, _, none⟩) NB1013_1015.out _).trans (hHeld.2.1)))), ((cell_far (p := ⟨gb1015, _, none⟩) NB1014_1015.out _).trans (((cell_far (p := ⟨gb1015, _, none⟩) NB1014_1015.out _).trans (hHeld.2.2.1)))), ((cell_far (p := ⟨gb1015, _, none⟩) NB1014_1015.out _).trans (((cell_far (p := ⟨gb1015, _, none⟩) NB1014_1015.out _).trans (hHeld.2.2.2))))⟩ (fun hHeld => ?_)
 clear hK K
 refine done_ (done_of HT_.out (by kernel_rfl)) ?_
 try go_wp2
 refine bodyPost_ret (results_cell_row rfl _ _ gb1015 91 #[.bool t1019, .slice Ao13 t1020.length co13] (0, 0) _ rfl (by refine bk_ ?_; refine blk_put (cs := #[.bool t1019, .slice none 0 0]) ?_ 1 _ rfl; refine bk_ ?_; refine blk_put (cs := #[.bool false, .slice none 0 0]) ?_ 0 _ rfl; refine bk_ ?_; exact BK1015.out) Tryd.underlying91 rfl (by kernel_rfl)) rfl ?_
 exact ⟨_, er_, by refine kr_ ?_; exact Kd.R_mono (Kd.R_far (p := ⟨gb1015, 1, none⟩) (Kd.R_far (p := ⟨gb1015, 0, none⟩) (Kd.R_types HO1022.out BK1015.out (by decide)) (fun _ hk => hk.2) (.bool t1019)) (fun _ hk => hk.2) (.slice Ao13 t1020.length co13)) (fun _ hk => trivial), bl_⟩

/-! ### trishawref01_Of: function 81 -/
def trishawref01_Of.l0 : Nat → Int → List Int → Bool → Option (Bool × List Int)
  | 0, _, _, _ => none
  | k + 1, x0, x3, x4 => if x0 = 0 then ((trishawref01_whole.f k x4 x3).bind fun bt1024 => (some (bt1024.1, bt1024.2))) else (if (Int.tmod x0 10000) < 0 then (if x3.length < 17592186044416 then (trishawref01_Of.l0 k (wrap64 (Int.tdiv x0 10000)) (x3 ++ [wrap64 (-(Int.tmod x0 10000))]) x4) else (none)) else (if x3.length < 17592186044416 then (trishawref01_Of.l0 k (wrap64 (Int.tdiv x0 10000)) (x3 ++ [Int.tmod x0 10000]) x4) else (none)))
def trishawref01_Of.f (k : Nat) (a0 : Int) : Option (Bool × List Int) := trishawref01_Of.l0 k a0 ([] : List Int) (decide (a0 < 0))
set_option maxHeartbeats 8000000 in
set_option maxRecDepth 100000 in
theorem trishawref01_Of.calls (k : Nat) (a0 : Int) (r1 : Bool) (r2 : List Int) (w : World) (h : trishawref01_Of.f k a0 = some (r1, r2)) :
    Calls Tryd.prog 81 #[.int .i64 a0] w fun e w' => ∃ v1_ : Value, e = .returned (.agg #[.bool r1, v1_]) ∧ Kd.R (Kd.int .i64) 3 w' w.heap.size (fun _ => True) v1_ r2 ∧ Below w.heap.size w w' := by
 have hu91 := Tryd.underlying91
 have HB := Aside0.mk (Below.refl w.heap.size w)
 have H : (trishawref01_Of.l0 k a0 ([] : List Int) (decide (a0 < 0))) = some (r1, r2) := h
 clear h
 have H' := Aside0.mk H
 clear H
 go_enter Tryd.func81, Tryd.ntmps81
 go_wp2_with (first | ((with_reducible refine gate_dst (N := 2) rfl ?_); refine be_ #[.bool false, .slice none 0 0] 91 ?_; intro gb1023 hg w2 hbox hb; have BK1023 := Aside0.mk (hbox); have GW1023 := gw_ hg; have GE1023 := gw_ hg; replace HB := hb_ hb; clear hb hbox hg))
 go_loopg [0, 3] k (fun kq v0 v3 w' => ∃ (x0_1 : Int) (x3_1 : List Int), v0 = .int .i64 x0_1 ∧ Aside0 (trishawref01_Of.l0 kq x0_1 x3_1 (decide (a0 < 0)) = some (r1, r2)) ∧ Aside0 (kq ≤ k) ∧ Aside0 (Kd.R (Kd.int .i64) 3 w' w.heap.size (fun _ => True) v3 x3_1) ∧ Aside0 (w'.heap[gb1023]? = some (.cells #[.bool false, (.slice none 0 0)] 91 (0, 0))) ∧ Aside0 (Below w.heap.size w w'))
 case atStart => exact ⟨(a0), (([] : List Int)), rs_, H', ⟨Nat.le_refl _⟩, ⟨by first | exact Kd.R_nil _ _ _ _ _ | exact Kd.N_nil _ _ _ _ _ | exact Kd.V_nil _ _ _ _ _ | exact Kd.Q_nil _ _ _ _ _ | exact Kd.S_nil _ _ _ _ _⟩, ⟨bk_ BK1023.out⟩, ⟨bl_⟩⟩
 case round =>
  clear H'
  try clear p2
  obtain ⟨x0_1, x3_1, rfl, HA, HK1, HO_3, BK1023, HB⟩ := hrel
  cases gk with
  | zero => exact absurd HA.out (by simp [trishawref01_Of.l0])
  | succ k1 =>
   have H := HA.out
   clear HA
   simp only [trishawref01_Of.l0] at H
   by_cases c3 : x0_1 = 0
   ·rw [if_pos c3] at H
    have c3b0 : (x0_1 == 0) = true := beq_iff_eq.mpr c3
    have c3b1 : (x0_1 != 0) = false := bne_eq_false_iff_eq.mpr c3
    clear c3
    obtain ⟨⟨t1024, t1025⟩, A4, H⟩ := bi_ H
    replace H : (some (t1024, t1025)) = some (r1, r2) := H
    simp only [Option.some.injEq, Prod.mk.injEq] at H
    obtain ⟨rfl, rfl⟩ := H
    obtain ⟨Ao5, co5, eo5⟩ := Kd.R_slice HO_3.out
    subst eo5
    go_wp2_with (first | ((with_reducible refine gate_callee (f := 84) rfl ?_); refine goesL_ (some 24) rfl rfl Tryd.func84 (by kernel_rfl) rfl #[.bool (decide (a0 < 0)), .slice Ao5 x3_1.length co5] rfl (as_) ?_; (with_reducible refine (trishawref01_whole.calls k1 (decide (a0 < 0)) _ _ x3_1 t1024 t1025 _ ?side1 ?side2 A4.out).mono ?_); (case side1 => exact cr_ HO_3.out); (case side2 => exact (Kd.R_reads' HO_3.out).2.1); rintro e w6 ⟨v1026, rfl, ho0, hb⟩; refine ⟨_, rfl, ?_⟩; have HO1027 := rl_ (rn_ ho0 HO_3); replace HO_3 := re_ HO_3 ho0 hb; replace BK1023 := bb_ BK1023 hb; replace HB := hb_ hb; clear hb ho0; have hcz7_0 := bc_ BK1023 0 (.bool false); have hcz7_1 := bc_ BK1023 1 (.slice none 0 0); have hfz7_0 := bz_ BK1023 0; have hfz7_1 := bz_ BK1023 1; obtain ⟨Ao8, co8, eo8⟩ := Kd.R_slice HO1027.out; subst eo8))
    refine bodyPost_ret (results_cell_row rfl _ _ gb1023 91 #[.bool t1024, .slice Ao8 t1025.length co8] (0, 0) _ rfl (by refine bk_ ?_; refine blk_put (cs := #[.bool t1024, .slice none 0 0]) ?_ 1 _ rfl; refine bk_ ?_; refine blk_put (cs := #[.bool false, .slice none 0 0]) ?_ 0 _ rfl; refine bk_ ?_; exact BK1023.out) Tryd.underlying91 rfl (by kernel_rfl)) rfl ?_
    exact ⟨_, er_, by refine kr_ ?_; exact Kd.R_mono (Kd.R_far (p := ⟨gb1023, 1, none⟩) (Kd.R_far (p := ⟨gb1023, 0, none⟩) (Kd.R_types HO1027.out BK1023.out (by decide)) (fun _ hk => hk.2) (.bool t1024)) (fun _ hk => hk.2) (.slice Ao8 t1025.length co8)) (fun _ hk => trivial), bl_⟩
   ·rw [if_neg c3] at H
    have c3b0 : (x0_1 == 0) = false := beq_eq_false_iff_ne.mpr c3
    have c3b1 : (x0_1 != 0) = true := bne_iff_ne.mpr c3
    by_cases c9 : (Int.tmod x0_1 10000) < 0
    ·rw [if_pos c9] at H
     have c9b0 : decide ((Int.tmod x0_1 10000) < 0) = true := decide_eq_true c9
     clear c9
     have c10 : x3_1.length < 17592186044416 := fl_ fun c10 => by rw [if_neg c10] at H; exact absurd H (by simp)
     rw [if_pos c10] at H
     have LMc10 := Aside0.mk c10
     clear c10
     obtain ⟨y1028, hy1028⟩ : ∃ y_ : List Int, y_ = (x3_1 ++ [wrap64 (-(Int.tmod x0_1 10000))]) := ⟨_, rfl⟩
     replace H : (trishawref01_Of.l0 k1 (wrap64 (Int.tdiv x0_1 10000)) y1028 (decide (a0 < 0))) = some (r1, r2) := by first | (rw [hy1028]; with_reducible exact H) | (have H2_ := (Option.bind_some _ _).symm.trans H; rw [hy1028]; with_reducible exact H2_) | (have H2_ := (Option.bind_some _ _).symm.trans H; with_reducible exact H2_) | with_reducible exact H | (rw [hy1028]; exact H) | exact H
     have Ny1028 := Aside0.mk hy1028
     clear hy1028
     have H' := Aside0.mk H
     clear H
     go_wp2_with (first | ((with_reducible refine gate_builtin (b := .append) (xs := #[.tmp 16, .tmp 18]) rfl ?_); at_builtin; refine Kd.R_append (Kd.int .i64) (w0 := w) w.heap.size rfl (.tmp 16) (.tmp 18) 22 3 (.int .i64 0) 8 rfl Tryd.underlying22 info3 rfl (by decide) (by omega) u3 x3_1 (wrap64 (-(Int.tmod x0_1 10000))) [.int .i64 (wrap64 (-(Int.tmod x0_1 10000)))] (fun _ => True) (fun _ => False) rfl rfl ?aP (fun _ hk => hk.elim) ?aF ?aO ?aB ?aS ?aL ?_; (case aP => exact rfl); (case aB => exact (bl_)); (case aF => exact (fun _ _ => trivial)); (case aO => exact (kr_ HO_3.out)); (case aS => exact (below_size (bl_))); (case aL => have := LMc10.out; omega); intro v1029 w11 ho hb hg hat; rw [← Ny1028.out] at ho; replace BK1023 := Aside0.mk (blk_grown (g := gb1023) (o := .cells #[.bool false, .slice none 0 0] 91 (0, 0)) (bk_ BK1023.out) hg (Kd.R_ne HO_3.out BK1023.out (by decide))); replace HB := Aside0.mk (hb); have HO1030 := Aside0.mk (ho); clear HO_3; clear ho hb hg hat))
     go_roundg k1
     case measure => have := HK1.out; omega
     case rel => exact ⟨(wrap64 (Int.tdiv x0_1 10000)), (y1028), rs_, H', ⟨by have := HK1.out; omega⟩, ⟨kr_ HO1030.out⟩, ⟨bk_ BK1023.out⟩, ⟨bl_⟩⟩
    ·rw [if_neg c9] at H
     have c9b0 : decide ((Int.tmod x0_1 10000) < 0) = false := decide_eq_false c9
     clear c9
     have c12 : x3_1.length < 17592186044416 := fl_ fun c12 => by rw [if_neg c12] at H; exact absurd H (by simp)
     rw [if_pos c12] at H
     have LMc12 := Aside0.mk c12
     clear c12
     obtain ⟨y1031, hy1031⟩ : ∃ y_ : List Int, y_ = (x3_1 ++ [Int.tmod x0_1 10000]) := ⟨_, rfl⟩
     replace H : (trishawref01_Of.l0 k1 (wrap64 (Int.tdiv x0_1 10000)) y1031 (decide (a0 < 0))) = some (r1, r2) := by first | (rw [hy1031]; with_reducible exact H) | (have H2_ := (Option.bind_some _ _).symm.trans H; rw [hy1031]; with_reducible exact H2_) | (have H2_ := (Option.bind_some _ _).symm.trans H; with_reducible exact H2_) | with_reducible exact H | (rw [hy1031]; exact H) | exact H
     have Ny1031 := Aside0.mk hy1031
     clear hy1031
     have H' := Aside0.mk H
     clear H
     go_wp2_with (first | ((with_reducible refine gate_builtin (b := .append) (xs := #[.tmp 16, .tmp 18]) rfl ?_); at_builtin; refine Kd.R_append (Kd.int .i64) (w0 := w) w.heap.size rfl (.tmp 16) (.tmp 18) 22 3 (.int .i64 0) 8 rfl Tryd.underlying22 info3 rfl (by decide) (by omega) u3 x3_1 (Int.tmod x0_1 10000) [.int .i64 (Int.tmod x0_1 10000)] (fun _ => True) (fun _ => False) rfl rfl ?aP (fun _ hk => hk.elim) ?aF ?aO ?aB ?aS ?aL ?_; (case aP => exact rfl); (case aB => exact (bl_)); (case aF => exact (fun _ _ => trivial)); (case aO => exact (kr_ HO_3.out)); (case aS => exact (below_size (bl_))); (case aL => have := LMc12.out; omega); intro v1032 w13 ho hb hg hat; rw [← Ny1031.out] at ho; replace BK1023 := Aside0.mk (blk_grown (g := gb1023) (o := .cells #[.bool false, .slice none 0 0] 91 (0, 0)) (bk_ BK1023.out) hg (Kd.R_ne HO_3.out BK1023.out (by decide))); replace HB := Aside0.mk (hb); have HO1033 := Aside0.mk (ho); clear HO_3; clear ho hb hg hat))
     go_roundg k1
     case measure => have := HK1.out; omega
     case rel => exact ⟨(wrap64 (Int.tdiv x0_1 10000)), (y1031), rs_, H', ⟨by have := HK1.out; omega⟩, ⟨kr_ HO1033.out⟩, ⟨bk_ BK1023.out⟩, ⟨bl_⟩⟩

/-! ### trishawref01_Within: function 82 -/
def trishawref01_Within.l0 : Nat → Int → Int → Bool → List Int → Option (Int × Bool)
  | 0, _, _, _, _ => none
  | k + 1, x6, x7, x1035000, x1035001 => if x7 ≥ 0 then (if 0 ≤ x7 then (if x7 < (x1035001.length : Int) then (trishawref01_Within.l0 k (wrap64 ((wrap64 (x6 * 10000)) + (rd x1035001 x7))) (wrap64 (x7 - 1)) x1035000 x1035001) else (none)) else (none)) else (if x1035000 = true then (some (wrap64 (-x6), true)) else (some (x6, true)))
def trishawref01_Within.f (k : Nat) (a0_0 : Bool) (l0_1 : List Int) (a1 : Int) : Option (Int × Bool) := (trishawref01_Of.f k a1).bind fun bt1035 => ((trishawref01_cmpD.f k l0_1 bt1035.2).bind fun t1039 => (if t1039 > 0 then (some (0, false)) else (trishawref01_Within.l0 k 0 (wrap64 ((l0_1.length : Int) - 1)) a0_0 l0_1)))
theorem trishawref01_Within_field91 (b_ s_ : Value) (w_ : World) : Sem.run Tryd.prog (Instr.field 91 (Value.agg #[b_, s_]) 1) w_ = .ok s_ w_ := by kernel_rfl
set_option maxHeartbeats 8000000 in
set_option maxRecDepth 100000 in
theorem trishawref01_Within.calls (k : Nat) (a0_0 : Bool) (A0_1 : Option Addr) (c0_1 : Nat) (l0_1 : List Int) (a1 : Int) (r1 : Int) (r2 : Bool) (w : World) (hr0_1 : Kd.C (Kd.int .i64) w A0_1 l0_1.length l0_1) (hc0_1 : l0_1.length ≤ c0_1) (h : trishawref01_Within.f k a0_0 l0_1 a1 = some (r1, r2)) :
    Calls Tryd.prog 82 #[.agg #[.bool a0_0, .slice A0_1 l0_1.length c0_1], .int .i64 a1] w fun e w' => e = .returned (.tuple #[.int .i64 r1, .bool r2]) ∧ Below w.heap.size w w' := by
 have hu91 := Tryd.underlying91
 have HR0_1 := Aside0.mk hr0_1
 have HC0_1 := Aside0.mk hc0_1
 clear hr0_1 hc0_1
 have HB := Aside0.mk (Below.refl w.heap.size w)
 have H : ((trishawref01_Of.f k a1).bind fun bt1035 => ((trishawref01_cmpD.f k l0_1 bt1035.2).bind fun t1039 => (if t1039 > 0 then (some (0, false)) else (trishawref01_Within.l0 k 0 (wrap64 ((l0_1.length : Int) - 1)) a0_0 l0_1)))) = some (r1, r2) := h
 clear h
 obtain ⟨⟨t1035, t1036⟩, A3, H⟩ := bi_ H
 replace H : ((trishawref01_cmpD.f k l0_1 t1036).bind fun t1039 => (if t1039 > 0 then (some (0, false)) else (trishawref01_Within.l0 k 0 (wrap64 ((l0_1.length : Int) - 1)) a0_0 l0_1))) = some (r1, r2) := H
 obtain ⟨t1039, A4, H⟩ := bi_ H
 replace H : (if t1039 > 0 then (some (0, false)) else (trishawref01_Within.l0 k 0 (wrap64 ((l0_1.length : Int) - 1)) a0_0 l0_1)) = some (r1, r2) := H
 by_cases c5 : t1039 > 0
 ·rw [if_pos c5] at H
  have c5b0 : decide (0 < t1039) = true := decide_eq_true c5
  clear c5
  simp only [Option.some.injEq, Prod.mk.injEq] at H
  obtain ⟨rfl, rfl⟩ := H
  go_enter Tryd.func82, Tryd.ntmps82
  try go_wp2_with (first | ((with_reducible refine gate_dst (N := 2) rfl ?_); refine be_ #[.bool a0_0, .slice A0_1 l0_1.length c0_1] 91 ?_; intro gb1034 hg w6 hbox hb; have BK1034 := Aside0.mk (hbox); have GW1034 := gw_ hg; have GE1034 := gw_ hg; replace HB := hb_ hb; clear hb hbox hg))
  replace BK1034 := Aside0.mk (blk_drew BK1034.out)
  replace HB := Aside0.mk (below_drew1 HB.out)
  refine start_ (n := 7) (S := fun w' => w'.cell? ⟨gb1034, 0, none⟩ = some (.bool a0_0) ∧ w'.cell? ⟨gb1034, 1, none⟩ = some (.slice A0_1 l0_1.length c0_1)) (ds := []) #[false, false, false, false, false, false, false] (by kernel_rfl) rfl rfl ⟨(blk_cell BK1034.out 0).trans rfl, (blk_cell BK1034.out 1).trans rfl⟩ (fun hHeld => ?_)
  generalize w6.drew = w7 at BK1034 HB hHeld ⊢
  refine pure_ (i := 0) (N := some 8) (v := ?_) (a' := ?_) #[true, false, false, false, false, false, false] rfl rfl (by kernel_rfl) (fun _ _ _ h => h) (Or.inl ⟨by rfl, ?_⟩) ?_ ?_
  rotate_left
  ·intro w'
   go_simp
   first | with_reducible rfl | (simp only [trishawref01_Within_field91]; go_simp; done) | (simp only [trishawref01_Within_field91]; rfl)
  rotate_left
  ·simp only [Act.put, List.setIfInBounds_toArray, List.set_cons_zero, List.set_cons_succ, i64_w, i32_w]
   rfl
  refine pure_ (i := 2) (N := some 10) (v := ?_) (a' := ?_) #[true, false, true, false, false, false, false] rfl rfl (by kernel_rfl) (fun _ _ _ h => h) (Or.inl ⟨by rfl, ?_⟩) ?_ ?_
  rotate_left
  ·intro w'
   go_simp
   first | with_reducible rfl | (simp only [trishawref01_Within_field91]; go_simp; done) | (simp only [trishawref01_Within_field91]; rfl)
  rotate_left
  ·simp only [Act.put, List.setIfInBounds_toArray, List.set_cons_zero, List.set_cons_succ, i64_w, i32_w]
   rfl
  refine take_ (i := 1) (N := some 9) (v := ?_) (a' := ?_) #[true, true, true, false, false, false, false] rfl rfl (by kernel_rfl) (fun _ _ _ h => h) (Or.inl ⟨by rfl, ?_⟩) hHeld ?_ ?_
  rotate_left
  ·rintro w' ⟨s0, s1⟩
   go_simp
   first | with_reducible rfl | (simp only [trishawref01_Within_field91]; go_simp; done) | (simp only [trishawref01_Within_field91]; rfl)
  rotate_left
  ·simp only [Act.put, List.setIfInBounds_toArray, List.set_cons_zero, List.set_cons_succ, i64_w, i32_w]
   rfl
  refine one_ (i := 3) (N := some 11) #[true, true, true, true, false, false, false] rfl rfl (by kernel_rfl) (by decide) (fun K hK => ?_)
  refine goes_ Tryd.func81 (by kernel_rfl) rfl #[.int .i64 a1] (by rfl) rfl rfl (as_) ?_
  with_reducible refine (trishawref01_Of.calls k a1 t1035 t1036 _ A3.out).mono ?_
  rintro e w8 ⟨v1037, rfl, ho0, hb⟩
  refine ⟨_, rfl, ?_⟩
  have HO1038 := rl_ ho0
  replace BK1034 := bb_ BK1034 hb
  replace HB := hb_ hb
  clear hb ho0
  obtain ⟨Ao9, co9, eo9⟩ := Kd.R_slice HO1038.out
  (first | subst eo9 | (injection eo9 with f1_ f2_ f3_; have f4_ := f1_.symm; have f5_ := f3_.symm; clear f1_ f2_ f3_; subst f4_; subst f5_))
  refine hK.out _ _ ⟨(blk_cell BK1034.out 0).trans rfl, (blk_cell BK1034.out 1).trans rfl⟩ (fun hHeld => ?_)
  clear hK K
  refine np_ 11 (h := ?_)
  refine pure_ (i := 4) (N := some 12) (v := ?_) (a' := ?_) #[true, true, true, true, true, false, false] rfl rfl (by kernel_rfl) (fun _ _ _ h => h) (Or.inl ⟨by rfl, ?_⟩) ?_ ?_
  rotate_left
  ·intro w'
   go_simp
   first | with_reducible rfl | (simp only [trishawref01_Within_field91]; go_simp; done) | (simp only [trishawref01_Within_field91]; rfl)
  rotate_left
  ·simp only [Act.put, List.setIfInBounds_toArray, List.set_cons_zero, List.set_cons_succ, i64_w, i32_w]
   rfl
  refine one_ (i := 5) (N := some 13) #[true, true, true, true, true, true, false] rfl rfl (by kernel_rfl) (by decide) (fun K hK => ?_)
  refine goes_ Tryd.func88 (by kernel_rfl) rfl #[.slice A0_1 l0_1.length c0_1, .slice Ao9 t1036.length co9] (by rfl) rfl rfl (as_) ?_
  with_reducible refine (trishawref01_cmpD.calls k _ _ l0_1 _ _ t1036 t1039 _ ?side1 ?side2 ?side3 ?side4 A4.out).mono ?_
  (case side1 => exact cb_ HR0_1.out)
  (case side2 => exact HC0_1.out)
  (case side3 => exact cr_ HO1038.out)
  (case side4 => exact (Kd.R_reads' HO1038.out).2.1)
  rintro e w' ⟨rfl, ⟨nd, rfl⟩⟩
  refine ⟨_, rfl, ?_⟩
  refine hK.out _ _ ⟨(blk_cell BK1034.out 0).trans rfl, (blk_cell BK1034.out 1).trans rfl⟩ (fun hHeld => ?_)
  clear hK K
  refine np_ 13 (h := ?_)
  refine pure_ (i := 6) (N := some 14) (v := ?_) (a' := ?_) #[true, true, true, true, true, true, true] rfl rfl (by kernel_rfl) (fun _ _ _ h => h) (Or.inl ⟨by rfl, ?_⟩) ?_ ?_
  rotate_left
  ·intro w'
   go_simp
   first | with_reducible rfl | (simp only [trishawref01_Within_field91]; go_simp; done) | (simp only [trishawref01_Within_field91]; rfl)
  rotate_left
  ·simp only [Act.put, List.setIfInBounds_toArray, List.set_cons_zero, List.set_cons_succ, i64_w, i32_w]
   rfl
  refine done_ (by kernel_rfl) ?_
  try go_wp2
  go_ret2
  exact ⟨er_, bl_⟩
 ·rw [if_neg c5] at H
  have c5b0 : decide (0 < t1039) = false := decide_eq_false c5
  clear c5
  have H' := Aside0.mk H
  clear H
  go_enter Tryd.func82, Tryd.ntmps82
  try go_wp2_with (first | ((with_reducible refine gate_dst (N := 2) rfl ?_); refine be_ #[.bool a0_0, .slice A0_1 l0_1.length c0_1] 91 ?_; intro gb1034 hg w10 hbox hb; have BK1034 := Aside0.mk (hbox); have GW1034 := gw_ hg; have GE1034 := gw_ hg; replace HB := hb_ hb; clear hb hbox hg))
  replace BK1034 := Aside0.mk (blk_drew BK1034.out)
  replace HB := Aside0.mk (below_drew1 HB.out)
  refine start_ (n := 7) (S := fun w' => w'.cell? ⟨gb1034, 0, none⟩ = some (.bool a0_0) ∧ w'.cell? ⟨gb1034, 1, none⟩ = some (.slice A0_1 l0_1.length c0_1)) (ds := []) #[false, false, false, false, false, false, false] (by kernel_rfl) rfl rfl ⟨(blk_cell BK1034.out 0).trans rfl, (blk_cell BK1034.out 1).trans rfl⟩ (fun hHeld => ?_)
  generalize w10.drew = w11 at BK1034 HB hHeld ⊢
  refine pure_ (i := 0) (N := some 8) (v := ?_) (a' := ?_) #[true, false, false, false, false, false, false] rfl rfl (by kernel_rfl) (fun _ _ _ h => h) (Or.inl ⟨by rfl, ?_⟩) ?_ ?_
  rotate_left
  ·intro w'
   go_simp
   first | with_reducible rfl | (simp only [trishawref01_Within_field91]; go_simp; done) | (simp only [trishawref01_Within_field91]; rfl)
  rotate_left
  ·simp only [Act.put, List.setIfInBounds_toArray, List.set_cons_zero, List.set_cons_succ, i64_w, i32_w]
   rfl
  refine pure_ (i := 2) (N := some 10) (v := ?_) (a' := ?_) #[true, false, true, false, false, false, false] rfl rfl (by kernel_rfl) (fun _ _ _ h => h) (Or.inl ⟨by rfl, ?_⟩) ?_ ?_
  rotate_left
  ·intro w'
   go_simp
   first | with_reducible rfl | (simp only [trishawref01_Within_field91]; go_simp; done) | (simp only [trishawref01_Within_field91]; rfl)
  rotate_left
  ·simp only [Act.put, List.setIfInBounds_toArray, List.set_cons_zero, List.set_cons_succ, i64_w, i32_w]
   rfl
  refine take_ (i := 1) (N := some 9) (v := ?_) (a' := ?_) #[true, true, true, false, false, false, false] rfl rfl (by kernel_rfl) (fun _ _ _ h => h) (Or.inl ⟨by rfl, ?_⟩) hHeld ?_ ?_
  rotate_left
  ·rintro w' ⟨s0, s1⟩
   go_simp
   first | with_reducible rfl | (simp only [trishawref01_Within_field91]; go_simp; done) | (simp only [trishawref01_Within_field91]; rfl)
  rotate_left
  ·simp only [Act.put, List.setIfInBounds_toArray, List.set_cons_zero, List.set_cons_succ, i64_w, i32_w]
   rfl
  refine one_ (i := 3) (N := some 11) #[true, true, true, true, false, false, false] rfl rfl (by kernel_rfl) (by decide) (fun K hK => ?_)
  refine goes_ Tryd.func81 (by kernel_rfl) rfl #[.int .i64 a1] (by rfl) rfl rfl (as_) ?_
  with_reducible refine (trishawref01_Of.calls k a1 t1035 t1036 _ A3.out).mono ?_
  rintro e w12 ⟨v1037, rfl, ho0, hb⟩
  refine ⟨_, rfl, ?_⟩
  have HO1038 := rl_ ho0
  replace BK1034 := bb_ BK1034 hb
  replace HB := hb_ hb
  clear hb ho0
  obtain ⟨Ao13, co13, eo13⟩ := Kd.R_slice HO1038.out
  (first | subst eo13 | (injection eo13 with f1_ f2_ f3_; have f4_ := f1_.symm; have f5_ := f3_.symm; clear f1_ f2_ f3_; subst f4_; subst f5_))
  refine hK.out _ _ ⟨(blk_cell BK1034.out 0).trans rfl, (blk_cell BK1034.out 1).trans rfl⟩ (fun hHeld => ?_)
  clear hK K
  refine np_ 11 (h := ?_)
  refine pure_ (i := 4) (N := some 12) (v := ?_) (a' := ?_) #[true, true, true, true, true, false, false] rfl rfl (by kernel_rfl) (fun _ _ _ h => h) (Or.inl ⟨by rfl, ?_⟩) ?_ ?_
  rotate_left
  ·intro w'
   go_simp
   first | with_reducible rfl | (simp only [trishawref01_Within_field91]; go_simp; done) | (simp only [trishawref01_Within_field91]; rfl)
  rotate_left
  ·simp only [Act.put, List.setIfInBounds_toArray, List.set_cons_zero, List.set_cons_succ, i64_w, i32_w]
   rfl
  refine one_ (i := 5) (N := some 13) #[true, true, true, true, true, true, false] rfl rfl (by kernel_rfl) (by decide) (fun K hK => ?_)
  refine goes_ Tryd.func88 (by kernel_rfl) rfl #[.slice A0_1 l0_1.length c0_1, .slice Ao13 t1036.length co13] (by rfl) rfl rfl (as_) ?_
  with_reducible refine (trishawref01_cmpD.calls k _ _ l0_1 _ _ t1036 t1039 _ ?side1 ?side2 ?side3 ?side4 A4.out).mono ?_
  (case side1 => exact cb_ HR0_1.out)
  (case side2 => exact HC0_1.out)
  (case side3 => exact cr_ HO1038.out)
  (case side4 => exact (Kd.R_reads' HO1038.out).2.1)
  rintro e w' ⟨rfl, ⟨nd, rfl⟩⟩
  refine ⟨_, rfl, ?_⟩
  refine hK.out _ _ ⟨(blk_cell BK1034.out 0).trans rfl, (blk_cell BK1034.out 1).trans rfl⟩ (fun hHeld => ?_)
  clear hK K
  refine np_ 13 (h := ?_)
  refine pure_ (i := 6) (N := some 14) (v := ?_) (a' := ?_) #[true, true, true, true, true, true, true] rfl rfl (by kernel_rfl) (fun _ _ _ h => h) (Or.inl ⟨by rfl, ?_⟩) ?_ ?_
  rotate_left
  ·intro w'
   go_simp
   first | with_reducible rfl | (simp only [trishawref01_Within_field91]; go_simp; done) | (simp only [trishawref01_Within_field91]; rfl)
  rotate_left
  ·simp only [Act.put, List.setIfInBounds_toArray, List.set_cons_zero, List.set_cons_succ, i64_w, i32_w]
   rfl
  refine done_ (by kernel_rfl) ?_
  have hcz14_0 := bc_ BK1034 0 (.bool a0_0)
  have hcz14_1 := bc_ BK1034 1 (.slice A0_1 l0_1.length c0_1)
  have hfz14_0 := bz_ BK1034 0
  have hfz14_1 := bz_ BK1034 1
  try go_wp2
  go_loopg [6, 7] k (fun kq v6 v7 w' => ∃ (x6_1 : Int) (x7_1 : Int), v6 = .int .i64 x6_1 ∧ v7 = .int .i64 x7_1 ∧ Aside0 (trishawref01_Within.l0 kq x6_1 x7_1 a0_0 l0_1 = some (r1, r2)) ∧ Aside0 (kq ≤ k) ∧ Aside0 (w'.heap[gb1034]? = some (.cells #[.bool a0_0, (.slice A0_1 l0_1.length c0_1)] 91 (0, 0))) ∧ Aside0 (Below w.heap.size w w'))
  case atStart => exact ⟨(0), (wrap64 ((l0_1.length : Int) - 1)), rs_, rs_, H', ⟨Nat.le_refl _⟩, ⟨bk_ BK1034.out⟩, ⟨bl_⟩⟩
  case round =>
   clear H'
   try clear p2
   try clear c5
   try clear c5b0
   try clear p6
   try clear c8
   try clear hcz14_0
   try clear hcz14_1
   try clear hfz14_0
   try clear hfz14_1
   obtain ⟨x6_1, x7_1, rfl, rfl, HA, HK1, BK1034, HB⟩ := hrel
   cases gk with
   | zero => exact absurd HA.out (by simp [trishawref01_Within.l0])
   | succ k1 =>
    have H := HA.out
    clear HA
    simp only [trishawref01_Within.l0] at H
    by_cases c15 : x7_1 ≥ 0
    ·rw [if_pos c15] at H
     have c15b0 : decide (0 ≤ x7_1) = true := decide_eq_true c15
     clear c15
     obtain ⟨c16b0, H⟩ := fp_ H
     obtain ⟨c17b0, H⟩ := fp_ H
     have H' := Aside0.mk H
     clear H
     have hcz18_0 := bc_ BK1034 0 (.bool a0_0)
     have hcz18_1 := bc_ BK1034 1 (.slice A0_1 l0_1.length c0_1)
     have hfz18_0 := bz_ BK1034 0
     have hfz18_1 := bz_ BK1034 1
     obtain ⟨ad1040, e1040, hx1040_0, p1040, q1040⟩ := ai_ HR0_1.out x7_1
     cases e1040
     replace hx1040_0 := hc_ HB hx1040_0
     go_wp2
     go_roundg k1
     case measure => have := HK1.out; omega
     case rel => exact ⟨(wrap64 ((wrap64 (x6_1 * 10000)) + (rd l0_1 x7_1))), (wrap64 (x7_1 - 1)), rs_, rs_, H', ⟨by have := HK1.out; omega⟩, ⟨bk_ BK1034.out⟩, ⟨bl_⟩⟩
    ·rw [if_neg c15] at H
     have c15b0 : decide (0 ≤ x7_1) = false := decide_eq_false c15
     clear c15
     by_cases c19 : a0_0 = true
     ·subst c19
      have H1 : (some (wrap64 (-x6_1), true)) = some (r1, r2) := by rw [if_pos rfl] at H; exact H
      clear H
      have H := H1
      clear H1
      simp only [Option.some.injEq, Prod.mk.injEq] at H
      obtain ⟨rfl, rfl⟩ := H
      have hcz20_0 := bc_ BK1034 0 (.bool true)
      have hcz20_1 := bc_ BK1034 1 (.slice A0_1 l0_1.length c0_1)
      have hfz20_0 := bz_ BK1034 0
      have hfz20_1 := bz_ BK1034 1
      go_wp2
      go_ret2
      exact ⟨er_, bl_⟩
     ·replace c19 := Bool.eq_false_iff.mpr c19
      subst c19
      have H1 : (some (x6_1, true)) = some (r1, r2) := by rw [if_neg (show ¬ (false = true) by decide)] at H; exact H
      clear H
      have H := H1
      clear H1
      simp only [Option.some.injEq, Prod.mk.injEq] at H
      obtain ⟨rfl, rfl⟩ := H
      have hcz21_0 := bc_ BK1034 0 (.bool false)
      have hcz21_1 := bc_ BK1034 1 (.slice A0_1 l0_1.length c0_1)
      have hfz21_0 := bz_ BK1034 0
      have hfz21_1 := bz_ BK1034 1
      go_wp2
      go_ret2
      exact ⟨er_, bl_⟩

end Go.Proofs.YtgobffgogmnmpaaDoor.P
