-- Written by wip/tools/myprint.py of this session's repo, over the kit's printer and hand texts.
import Derived.Test.YtgobffgogmnmpaaDoorPx0
import Derived.Test.YtgobffgogmnmpaaDoorPre
import Derived.Test.YtgobffgogmnmpaaDoorPx2
import Derived.Test.YtgobffgogmnmpaaDoorPx3
import Derived.Test.YtgobffgogmnmpaaDoorPx4
import Derived.Test.YtgobffgogmnmpaaDoorPx10
import Derived.Test.YtgobffgogmnmpaaDoorPx28
import Derived.Test.YtgobffgogmnmpaaDoorPx30
import Derived.Test.YtgobffgogmnmpaaDoorPx40
namespace Go.Proofs.YtgobffgogmnmpaaDoor.P
open Go.RowKit Go.Proofs.YtgobffgogmnmpaaDoorW.PrintWords Go.Proofs.YtgobffgogmnmpaaDoorW.PrintLast Go.Proofs.YtgobffgogmnmpaaDoorW.PrintMore
attribute [local go_sem] max2_int min2_int max_two min_two max_three min_three max_four min_four   -- for this text's walks alone
set_option linter.unusedVariables false
set_option linter.unusedSimpArgs false

attribute [local go_sem high] eqA51
/-! ### trishawlaw01_TurnWindows: function 15 -/
mutual
def trishawlaw01_TurnWindows.l0 : Nat → List Int → List (List (S51)) → Int → Int → Int → Int → Option (Bool)
  | 0, _, _, _, _, _, _ => none
  | k + 1, x0, x5, x6, x7, x1091000, x1091001 => if x7 < 2 then ((turn_Windows.f k x0 x1091000 x1091001).bind fun bt1102 => (if (bt1102.1.length : Int) = (x5.length : Int) then (trishawlaw01_TurnWindows.j1 k x0 x5 x6 x7 bt1102.1 (bt1102.2 != x6) x1091000 x1091001) else (trishawlaw01_TurnWindows.j1 k x0 x5 x6 x7 bt1102.1 true x1091000 x1091001))) else ((turn_Feasible.f k x0 x1091000 x1091001).bind fun bt1097 => ((trishawref01_Feasible.f k x0 x1091000 x1091001).bind fun bt1099 => (if (bt1097.1 == bt1099.1) = true then (if bt1097.2 = bt1099.2 then ((trishawlaw01_alive.f k).bind fun t1101 => (some t1101)) else (some false)) else (some false))))
def trishawlaw01_TurnWindows.j1 : Nat → List Int → List (List (S51)) → Int → Int → List (List (S51)) → Bool → Int → Int → Option (Bool)
  | 0, _, _, _, _, _, _, _, _ => none
  | k + 1, x0, x5, x6, x7, x8, x44, x1091000, x1091001 => if x44 = true then (some false) else (trishawlaw01_TurnWindows.l1 k x0 x5 x6 x7 x8 0 x1091000 x1091001)
def trishawlaw01_TurnWindows.l1 : Nat → List Int → List (List (S51)) → Int → Int → List (List (S51)) → Int → Int → Int → Option (Bool)
  | 0, _, _, _, _, _, _, _, _ => none
  | k + 1, x0, x5, x6, x7, x8, x10, x1091000, x1091001 => if x10 < (x8.length : Int) then (if 0 ≤ x10 then (if x10 < (x5.length : Int) then (if ((rd_L2 x8 x10).length : Int) = ((rd_L2 x5 x10).length : Int) then (trishawlaw01_TurnWindows.l2 k x0 x5 x6 x7 x8 x10 0 x1091000 x1091001) else (some false)) else (none)) else (none)) else (trishawlaw01_TurnWindows.l0 k x0 x5 x6 (wrap64 (x7 + 1)) x1091000 x1091001)
def trishawlaw01_TurnWindows.l2 : Nat → List Int → List (List (S51)) → Int → Int → List (List (S51)) → Int → Int → Int → Int → Option (Bool)
  | 0, _, _, _, _, _, _, _, _, _ => none
  | k + 1, x0, x5, x6, x7, x8, x10, x11, x1091000, x1091001 => if 0 ≤ x10 then (if x10 < (x8.length : Int) then (if x11 < ((rd_L2 x8 x10).length : Int) then (if 0 ≤ x11 then (if x10 < (x5.length : Int) then (if x11 < ((rd_L2 x5 x10).length : Int) then (if (!(((rd_T51 (rd_L2 x8 x10) x11).f0) == ((rd_T51 (rd_L2 x5 x10) x11).f0)) || (!(((rd_T51 (rd_L2 x8 x10) x11).f1) == ((rd_T51 (rd_L2 x5 x10) x11).f1)))) = true then (some false) else (trishawlaw01_TurnWindows.l2 k x0 x5 x6 x7 (x8.set (x10 : Int).toNat ((rd_L2 x8 x10).set (x11 : Int).toNat (⟨(-9), (rd_T51 (rd_L2 x8 x10) x11).f1⟩ : S51))) x10 (wrap64 (x11 + 1)) x1091000 x1091001)) else (none)) else (none)) else (none)) else (trishawlaw01_TurnWindows.l1 k x0 x5 x6 x7 x8 (wrap64 (x10 + 1)) x1091000 x1091001)) else (none)) else (none)
end
def trishawlaw01_TurnWindows.f (k : Nat) (l0 : List Int) (a1_0 : Int) (a1_1 : Int) : Option (Bool) := (trishawlaw01_few.f l0 ([] : List Int)).bind fun t1091 => (if t1091 = true then ((trishawref01_Windows.f k l0 a1_0 a1_1).bind fun bt1093 => (trishawlaw01_TurnWindows.l0 k l0 bt1093.1 bt1093.2 0 a1_0 a1_1)) else ((trishawlaw01_alive.f k).bind fun t1092 => (some t1092)))
theorem wn_split {α : Type} {d : Kd α} {e : Nat} {W w1 : World} {base : Nat} {ok ok' : Nat → Prop} {u v : Value} {xs ys : List α} (h : Kd.S d e W base ok u xs) (ho : Kd.S d e w1 W.heap.size ok' v ys) (hb : Below W.heap.size W w1) (hl : base ≤ W.heap.size) :
    ∃ B, Kd.S d e w1 base (fun k => True ∧ some k ≠ v.ownBlock ∧ k < B) u xs ∧ Kd.S d e w1 base (fun k => True ∧ some k ≠ u.ownBlock ∧ B ≤ k) v ys :=
  ⟨W.heap.size, Kd.S_mono (Kd.S_elder' (Kd.S_bound h) (Kd.S_base ho) hb) (fun k hk => ⟨trivial, hk.2, hk.1.2.2.1⟩), Kd.S_lower (Kd.S_mono (Kd.S_bound (Kd.S_new' ho (Kd.S_lt h))) (fun k hk => ⟨trivial, hk.1.2, hk.2.1⟩)) hl⟩
theorem wn_put {W : World} {base : Nat} {okA okB : Nat → Prop} {ad : Addr} {n cap : Nat} {xs ys : List (List S51)} {vb : Value} {i j : Int} {go : Nat} {n1 c1 : Nat}
    (hA : Kd.S (Kd.slice 51 k51) 49 W base okA (.slice (some ad) n cap) xs) (hB : Kd.S (Kd.slice 51 k51) 49 W base okB vb ys) (hap : ∀ k, okA k → okB k → False) (i0 : 0 ≤ i) (i1 : i < n)
    (hx : W.cell? (ad.add i.toNat) = some (.slice (some ⟨go, 0, none⟩) n1 c1)) (j0 : 0 ≤ j) (j1 : j < ((rd_L2 xs i).length : Int)) :
    Kd.S (Kd.slice 51 k51) 49 (W.setCell ⟨go, j.toNat * 2, none⟩ (.int .i64 (-9))) base okA (.slice (some ad) n cap) (xs.set i.toNat ((rd_L2 xs i).set j.toNat (⟨(-9), (rd_T51 (rd_L2 xs i) j).f1⟩ : S51))) ∧
    Kd.S (Kd.slice 51 k51) 49 (W.setCell ⟨go, j.toNat * 2, none⟩ (.int .i64 (-9))) base okB vb ys ∧
    (∀ (g : Nat) (cs : Array Value), W.heap[g]? = some (.cells cs 26 (0, 0)) → (W.setCell ⟨go, j.toNat * 2, none⟩ (.int .i64 (-9))).heap[g]? = some (.cells cs 26 (0, 0))) ∧ base ≤ go := by
  obtain ⟨oki, ce, hcl, hM, hcc, hok, hbk⟩ := Kd.S_borrow hA [] i i0 i1
  obtain ⟨ve, rfl, ge⟩ := hM
  have hv := hcc 0 _ rfl
  rw [Nat.add_zero, show ((Kd.slice 51 k51)).sz = 1 from rfl, Nat.mul_one] at hv
  replace hv := Option.some.inj (hv.symm.trans hx)
  subst hv
  replace ge := (show Kd.R k51 51 _ _ _ _ (rd_L2 xs i) from ge)
  have hl : n1 = (rd_L2 xs i).length := (Kd.R_reads' ge).1
  subst hl
  obtain ⟨cf, hcl2, hN, hcc2, hfr⟩ := Kd.R_elem ge z51 j j0 j1
  obtain rfl := k51_openM hN
  have HP := Kd.R_seg ge j j0 j1 (seg := [.int .i64 (-9)]) (j := 0) hcl2 hcc2 (show 1 ≤ 2 from by decide) (x' := (⟨(-9), (rd_T51 (rd_L2 xs i) j).f1⟩ : S51)) (k51_mkM _ _ _ (⟨(-9), (rd_T51 (rd_L2 xs i) j).f1⟩ : S51)) (fun _ hk => hk)
  have hg : W.grownBy (W.setCell ⟨go, j.toNat * 2, none⟩ (.int .i64 (-9))) (some go) := HP.2
  have hz := HP.1
  refine ⟨hbk hg (fun k_ e_ => by injection e_ with e_; subst e_; exact ge.1 _ rfl) (Kd.M_row hz), Kd.S_grown hB hg (fun k_ hk_ e_ => ?_), fun g cs h => blk_grown (g := g) (o := .cells cs 26 (0, 0)) h hg (Kd.R_ne ge h (by decide)), Kd.R_base ge _ rfl⟩
  injection e_ with e_
  subst e_
  exact hap _ (hok _ (ge.1 _ rfl)).1 hk_
set_option maxHeartbeats 8000000 in
set_option maxRecDepth 100000 in
theorem trishawlaw01_TurnWindows.calls (k : Nat) (A0 : Option Addr) (c0 : Nat) (l0 : List Int) (a1_0 : Int) (a1_1 : Int) (r : Bool) (w : World) (hr0 : Kd.C (Kd.int .i64) w A0 l0.length l0) (hc0 : l0.length ≤ c0) (h : trishawlaw01_TurnWindows.f k l0 a1_0 a1_1 = some r) (hN0 : NoneLaid w) (hr_ : r = true) :
    Calls Tryd.prog 15 #[.slice A0 l0.length c0, .agg #[.int .i64 a1_0, .int .i64 a1_1]] w fun e w' => e = .returned (.bool r) ∧ Below w.heap.size w w' := by
 have HN := Aside0.mk hN0
 clear hN0
 have hr := Aside0.mk hr_
 clear hr_
 have hu26 := Tryd.underlying26
 have hu51 := Tryd.underlying51
 have HR0 := Aside0.mk hr0
 have HC0 := Aside0.mk hc0
 clear hr0 hc0
 have HB := Aside0.mk (Below.refl w.heap.size w)
 have H : ((trishawlaw01_few.f l0 ([] : List Int)).bind fun t1091 => (if t1091 = true then ((trishawref01_Windows.f k l0 a1_0 a1_1).bind fun bt1093 => (trishawlaw01_TurnWindows.l0 k l0 bt1093.1 bt1093.2 0 a1_0 a1_1)) else ((trishawlaw01_alive.f k).bind fun t1092 => (some t1092)))) = some r := h
 clear h
 obtain ⟨t1091, A3, H⟩ := bi_ H
 replace H : (if t1091 = true then ((trishawref01_Windows.f k l0 a1_0 a1_1).bind fun bt1093 => (trishawlaw01_TurnWindows.l0 k l0 bt1093.1 bt1093.2 0 a1_0 a1_1)) else ((trishawlaw01_alive.f k).bind fun t1092 => (some t1092))) = some r := H
 by_cases c4 : t1091 = true
 ·subst c4
  have H1 : ((trishawref01_Windows.f k l0 a1_0 a1_1).bind fun bt1093 => (trishawlaw01_TurnWindows.l0 k l0 bt1093.1 bt1093.2 0 a1_0 a1_1)) = some r := by rw [if_pos rfl] at H; exact H
  clear H
  have H := H1
  clear H1
  obtain ⟨⟨t1093, t1096⟩, A5, H⟩ := bi_ H
  replace H : (trishawlaw01_TurnWindows.l0 k l0 t1093 t1096 0 a1_0 a1_1) = some r := H
  have H' := Aside0.mk H
  clear H
  go_enter Tryd.func15, Tryd.ntmps15
  go_wp2_with (first | ((with_reducible refine gate_dst (N := 3) rfl ?_); refine be_ #[.int .i64 a1_0, .int .i64 a1_1] 26 ?_; intro gb1090 hg w6 hbox hb; have BK1090 := Aside0.mk (hbox); have GW1090 := gw_ hg; have GE1090 := gw_ hg; replace HB := hb_ hb; clear hb hbox hg) | (go_at_call 16; (refine (trishawlaw01_few.calls _ _ l0 _ _ ([] : List Int) true _ ?side1 ?side2 ?side3 ?side4 A3.out).mono ?_); (case side1 => exact cb_ HR0.out); (case side2 => exact HC0.out); (case side3 => exact Kd.C_nil _ _); (case side4 => exact Nat.le_refl _); rintro e w' ⟨rfl, ⟨nd, rfl⟩⟩; (try first | exact ⟨rfl, _, World.drewN_drewN _ _ _⟩ | exact ⟨rfl, _, Eq.trans (World.drewN_drewN _ _ _) (congrArg (World.drewN _) (Nat.add_assoc _ _ _))⟩); have hcz7_0 := bc_ BK1090 0 (.int .i64 a1_0); have hcz7_1 := bc_ BK1090 1 (.int .i64 a1_1); have hfz7_0 := bz_ BK1090 0; have hfz7_1 := bz_ BK1090 1) | (go_at_call 41; (with_reducible refine (trishawref01_Windows.calls k _ _ l0 a1_0 a1_1 t1093 t1096 _ ?side1 ?side2 A5.out).mono ?_); (case side1 => repeat (first | exact (Kd.C_below HR0.out (bl_)) | (with_reducible refine Kd.C_alloc ?_ _) | (with_reducible refine Kd.C_drewN ?_ _) | (with_reducible refine Kd.C_drew ?_))); (case side2 => exact HC0.out); rintro e w8 ⟨v1094, rfl, ho0, hb⟩; have HO1095 := Aside0.mk (Kd.S_lower ho0 (below_size (bl_))); replace BK1090 := bb_ BK1090 hb; replace HB := hb_ hb; clear hb ho0))
  repeat (go_quiet (first | ((with_reducible refine gate_dst (N := 3) rfl ?_); refine be_ #[.int .i64 a1_0, .int .i64 a1_1] 26 ?_; intro gb1090 hg w6 hbox hb; have BK1090 := Aside0.mk (hbox); have GW1090 := gw_ hg; have GE1090 := gw_ hg; replace HB := hb_ hb; clear hb hbox hg) | (go_at_call 16; (refine (trishawlaw01_few.calls _ _ l0 _ _ ([] : List Int) true _ ?side1 ?side2 ?side3 ?side4 A3.out).mono ?_); (case side1 => exact cb_ HR0.out); (case side2 => exact HC0.out); (case side3 => exact Kd.C_nil _ _); (case side4 => exact Nat.le_refl _); rintro e w' ⟨rfl, ⟨nd, rfl⟩⟩; (try first | exact ⟨rfl, _, World.drewN_drewN _ _ _⟩ | exact ⟨rfl, _, Eq.trans (World.drewN_drewN _ _ _) (congrArg (World.drewN _) (Nat.add_assoc _ _ _))⟩); have hcz7_0 := bc_ BK1090 0 (.int .i64 a1_0); have hcz7_1 := bc_ BK1090 1 (.int .i64 a1_1); have hfz7_0 := bz_ BK1090 0; have hfz7_1 := bz_ BK1090 1) | (go_at_call 41; (with_reducible refine (trishawref01_Windows.calls k _ _ l0 a1_0 a1_1 t1093 t1096 _ ?side1 ?side2 A5.out).mono ?_); (case side1 => repeat (first | exact (Kd.C_below HR0.out (bl_)) | (with_reducible refine Kd.C_alloc ?_ _) | (with_reducible refine Kd.C_drewN ?_ _) | (with_reducible refine Kd.C_drew ?_))); (case side2 => exact HC0.out); rintro e w8 ⟨v1094, rfl, ho0, hb⟩; have HO1095 := Aside0.mk (Kd.S_lower ho0 (below_size (bl_))); replace BK1090 := bb_ BK1090 hb; replace HB := hb_ hb; clear hb ho0)); try go_wp2_with (first | ((with_reducible refine gate_dst (N := 3) rfl ?_); refine be_ #[.int .i64 a1_0, .int .i64 a1_1] 26 ?_; intro gb1090 hg w6 hbox hb; have BK1090 := Aside0.mk (hbox); have GW1090 := gw_ hg; have GE1090 := gw_ hg; replace HB := hb_ hb; clear hb hbox hg) | (go_at_call 16; (refine (trishawlaw01_few.calls _ _ l0 _ _ ([] : List Int) true _ ?side1 ?side2 ?side3 ?side4 A3.out).mono ?_); (case side1 => exact cb_ HR0.out); (case side2 => exact HC0.out); (case side3 => exact Kd.C_nil _ _); (case side4 => exact Nat.le_refl _); rintro e w' ⟨rfl, ⟨nd, rfl⟩⟩; (try first | exact ⟨rfl, _, World.drewN_drewN _ _ _⟩ | exact ⟨rfl, _, Eq.trans (World.drewN_drewN _ _ _) (congrArg (World.drewN _) (Nat.add_assoc _ _ _))⟩); have hcz7_0 := bc_ BK1090 0 (.int .i64 a1_0); have hcz7_1 := bc_ BK1090 1 (.int .i64 a1_1); have hfz7_0 := bz_ BK1090 0; have hfz7_1 := bz_ BK1090 1) | (go_at_call 41; (with_reducible refine (trishawref01_Windows.calls k _ _ l0 a1_0 a1_1 t1093 t1096 _ ?side1 ?side2 A5.out).mono ?_); (case side1 => repeat (first | exact (Kd.C_below HR0.out (bl_)) | (with_reducible refine Kd.C_alloc ?_ _) | (with_reducible refine Kd.C_drewN ?_ _) | (with_reducible refine Kd.C_drew ?_))); (case side2 => exact HC0.out); rintro e w8 ⟨v1094, rfl, ho0, hb⟩; have HO1095 := Aside0.mk (Kd.S_lower ho0 (below_size (bl_))); replace BK1090 := bb_ BK1090 hb; replace HB := hb_ hb; clear hb ho0)))
  go_loopg [7] k (fun kq v7 w' => ∃ (x5_1 : List (List (S51))) (x7_1 : Int), v7 = .int .i64 x7_1 ∧ Aside0 (trishawlaw01_TurnWindows.l0 kq l0 x5_1 t1096 x7_1 a1_0 a1_1 = some r) ∧ Aside0 (kq ≤ k) ∧ Aside0 (Kd.S (Kd.slice 51 k51) 49 w' w.heap.size (fun _ => True) v1094 x5_1) ∧ Aside0 (w'.heap[gb1090]? = some (.cells #[.int .i64 a1_0, .int .i64 a1_1] 26 (0, 0))) ∧ Aside0 (Below w.heap.size w w'))
  case atStart => exact ⟨(t1093), (0), rs_, H', ⟨Nat.le_refl _⟩, ⟨ks_ HO1095.out⟩, ⟨bk_ BK1090.out⟩, ⟨bl_⟩⟩
  case round =>
   clear H'
   try clear c1
   try clear p2
   try clear c4
   try clear hcz7_0
   try clear hcz7_1
   try clear hfz7_0
   try clear hfz7_1
   obtain ⟨x5_1, x7_1, rfl, HA, HK1, HO_5, BK1090, HB⟩ := hrel
   cases gk with
   | zero => exact absurd HA.out (by simp [trishawlaw01_TurnWindows.l0])
   | succ k1 =>
    have H := HA.out
    clear HA
    simp only [trishawlaw01_TurnWindows.l0] at H
    by_cases c9 : x7_1 < 2
    ·rw [if_pos c9] at H
     have c9b0 : decide (x7_1 < 2) = true := decide_eq_true c9
     clear c9
     obtain ⟨⟨t1102, t1105⟩, A10, H⟩ := bi_ H
     replace H : (if (t1102.length : Int) = (x5_1.length : Int) then (trishawlaw01_TurnWindows.j1 k1 l0 x5_1 t1096 x7_1 t1102 (t1105 != t1096) a1_0 a1_1) else (trishawlaw01_TurnWindows.j1 k1 l0 x5_1 t1096 x7_1 t1102 true a1_0 a1_1)) = some r := H
     have HC11 := Aside0.mk H
     clear H
     have hcz12_0 := bc_ BK1090 0 (.int .i64 a1_0)
     have hcz12_1 := bc_ BK1090 1 (.int .i64 a1_1)
     have hfz12_0 := bz_ BK1090 0
     have hfz12_1 := bz_ BK1090 1
     go_upto_region 8 with (first | (go_at_call 36; (with_reducible refine (turn_Windows.calls k1 _ _ l0 a1_0 a1_1 t1102 t1105 _ ?side1 ?side2 A10.out (HN.out.of (bl_))).mono ?_); (case side1 => exact cb_ HR0.out); (case side2 => exact HC0.out); rintro e w13 ⟨v1103, rfl, ho0, hb⟩; obtain ⟨B_, n0_, n1_⟩ := wn_split (ks_ HO_5.out) ho0 hb (below_size (bl_)); replace HO_5 := Aside0.mk n0_; have HO1104 := Aside0.mk n1_; replace BK1090 := bb_ BK1090 hb; replace HB := hb_ hb; clear hb ho0))
     repeat (go_quiet (first | (go_at_call 36; (with_reducible refine (turn_Windows.calls k1 _ _ l0 a1_0 a1_1 t1102 t1105 _ ?side1 ?side2 A10.out (HN.out.of (bl_))).mono ?_); (case side1 => exact cb_ HR0.out); (case side2 => exact HC0.out); rintro e w13 ⟨v1103, rfl, ho0, hb⟩; obtain ⟨B_, n0_, n1_⟩ := wn_split (ks_ HO_5.out) ho0 hb (below_size (bl_)); replace HO_5 := Aside0.mk n0_; have HO1104 := Aside0.mk n1_; replace BK1090 := bb_ BK1090 hb; replace HB := hb_ hb; clear hb ho0)); go_upto_region 8 with (first | (go_at_call 36; (with_reducible refine (turn_Windows.calls k1 _ _ l0 a1_0 a1_1 t1102 t1105 _ ?side1 ?side2 A10.out (HN.out.of (bl_))).mono ?_); (case side1 => exact cb_ HR0.out); (case side2 => exact HC0.out); rintro e w13 ⟨v1103, rfl, ho0, hb⟩; obtain ⟨B_, n0_, n1_⟩ := wn_split (ks_ HO_5.out) ho0 hb (below_size (bl_)); replace HO_5 := Aside0.mk n0_; have HO1104 := Aside0.mk n1_; replace BK1090 := bb_ BK1090 hb; replace HB := hb_ hb; clear hb ho0)))
     (try simp only [Act.put, List.setIfInBounds_toArray, List.set_cons_zero, List.set_cons_succ])
     go_cut [44] (fun v44 wc => ∃ (kq : Nat) (x44_10 : Bool), v44 = .bool x44_10 ∧ Aside0 (trishawlaw01_TurnWindows.j1 kq l0 x5_1 t1096 x7_1 t1102 x44_10 a1_0 a1_1 = some r) ∧ Aside0 (kq ≤ k1) ∧ Aside0 (Kd.S (Kd.slice 51 k51) 49 wc w.heap.size (fun k_ => some k_ ≠ (v1103 : Value).ownBlock ∧ k_ < B_) v1094 x5_1) ∧ Aside0 (Kd.S (Kd.slice 51 k51) 49 wc w.heap.size (fun k_ => some k_ ≠ (v1094 : Value).ownBlock ∧ B_ ≤ k_) v1103 t1102) ∧ Aside0 (wc.heap[gb1090]? = some (.cells #[.int .i64 a1_0, .int .i64 a1_1] 26 (0, 0))) ∧ Aside0 (Below w.heap.size w wc))
     case first =>
      have H := HC11.out
      clear HC11
      by_cases c14 : (t1102.length : Int) = (x5_1.length : Int)
      ·rw [if_pos c14] at H
       have c14b0 : ((t1102.length : Int) == (x5_1.length : Int)) = true := beq_iff_eq.mpr c14
       have c14b1 : ((t1102.length : Int) != (x5_1.length : Int)) = false := bne_eq_false_iff_eq.mpr c14
       have c14b2 : (t1102.length == x5_1.length) = true := by first | simpa using c14 | (simp at c14 ⊢; omega)
       clear c14
       (first | rw [c14b0] | (simp only [i64_w, i32_w]; rw [c14b0]) | skip)
       have H' := Aside0.mk H
       clear H
       obtain ⟨Ao15, co15, eo15⟩ := Kd.S_slice HO1104.out
       subst eo15
       obtain ⟨Ao16, co16, eo16⟩ := Kd.S_slice HO_5.out
       subst eo16
       go_wp2
       repeat (go_quiet (fail); try go_wp2)
       go_meet
       case rel => exact ⟨_, ((t1105 != t1096)), rs_, H', ⟨by have := HK1.out; first | omega | exact Nat.le_refl _⟩, ⟨by refine ks_ ?_; exact Kd.S_mono HO_5.out (fun _ hk => hk.2)⟩, ⟨by refine ks_ ?_; exact Kd.S_mono HO1104.out (fun _ hk => hk.2)⟩, ⟨bk_ BK1090.out⟩, ⟨bl_⟩⟩
      ·rw [if_neg c14] at H
       have c14b0 : ((t1102.length : Int) == (x5_1.length : Int)) = false := beq_eq_false_iff_ne.mpr c14
       have c14b1 : ((t1102.length : Int) != (x5_1.length : Int)) = true := bne_iff_ne.mpr c14
       have c14b2 : (t1102.length == x5_1.length) = false := by first | simpa using c14 | (simp at c14 ⊢; omega)
       (first | rw [c14b0] | (simp only [i64_w, i32_w]; rw [c14b0]) | skip)
       have H' := Aside0.mk H
       clear H
       obtain ⟨Ao17, co17, eo17⟩ := Kd.S_slice HO1104.out
       subst eo17
       obtain ⟨Ao18, co18, eo18⟩ := Kd.S_slice HO_5.out
       subst eo18
       go_wp2
       repeat (go_quiet (fail); try go_wp2)
       go_meet
       case rel => exact ⟨_, (true), rs_, H', ⟨by have := HK1.out; first | omega | exact Nat.le_refl _⟩, ⟨by refine ks_ ?_; exact Kd.S_mono HO_5.out (fun _ hk => hk.2)⟩, ⟨by refine ks_ ?_; exact Kd.S_mono HO1104.out (fun _ hk => hk.2)⟩, ⟨bk_ BK1090.out⟩, ⟨bl_⟩⟩
     case rest =>
      clear HC11
      try clear c1
      try clear p2
      try clear c4
      try clear c9
      try clear c9b0
      try clear c14
      try clear c14b0
      try clear c14b1
      try clear c14b2
      try clear c15
      try clear hcz12_0
      try clear hcz12_1
      try clear hcz7_0
      try clear hcz7_1
      try clear hfz12_0
      try clear hfz12_1
      try clear hfz7_0
      try clear hfz7_1
      try clear p2
      obtain ⟨kq, x44_10, rfl, HA, HJ10, HO_5, HO_8, BK1090, HB⟩ := hcut
      cases kq with
      | zero => exact absurd HA.out (by simp [trishawlaw01_TurnWindows.j1])
      | succ kj10 =>
       have H := HA.out
       clear HA
       simp only [trishawlaw01_TurnWindows.j1] at H
       by_cases c19 : x44_10 = true
       ·subst c19
        have H1 : (some false) = some r := by rw [if_pos rfl] at H; exact H
        clear H
        have H := H1
        clear H1
        exact absurd (Option.some.inj (H.trans (congrArg some hr.out))) (by decide)
       ·replace c19 := Bool.eq_false_iff.mpr c19
        subst c19
        have H1 : (trishawlaw01_TurnWindows.l1 kj10 l0 x5_1 t1096 x7_1 t1102 0 a1_0 a1_1) = some r := by rw [if_neg (show ¬ (false = true) by decide)] at H; exact H
        clear H
        have H := H1
        clear H1
        have H' := Aside0.mk H
        clear H
        go_wp2
        repeat (go_quiet (fail); try go_wp2)
        go_loopg [10] kj10 (fun kq v10 w' => ∃ (x8_3 : List (List (S51))) (x10_3 : Int), v10 = .int .i64 x10_3 ∧ Aside0 (trishawlaw01_TurnWindows.l1 kq l0 x5_1 t1096 x7_1 x8_3 x10_3 a1_0 a1_1 = some r) ∧ Aside0 (kq ≤ kj10) ∧ Aside0 (Kd.S (Kd.slice 51 k51) 49 w' w.heap.size (fun k_ => some k_ ≠ (v1103 : Value).ownBlock ∧ k_ < B_) v1094 x5_1) ∧ Aside0 (Kd.S (Kd.slice 51 k51) 49 w' w.heap.size (fun k_ => some k_ ≠ (v1094 : Value).ownBlock ∧ B_ ≤ k_) v1103 x8_3) ∧ Aside0 (w'.heap[gb1090]? = some (.cells #[.int .i64 a1_0, .int .i64 a1_1] 26 (0, 0))) ∧ Aside0 (Below w.heap.size w w'))
        case atStart => exact ⟨(t1102), (0), rs_, H', ⟨Nat.le_refl _⟩, ⟨ks_ HO_5.out⟩, ⟨ks_ HO_8.out⟩, ⟨bk_ BK1090.out⟩, ⟨bl_⟩⟩
        case round =>
         clear H'
         try clear c1
         try clear p2
         try clear c4
         try clear c9
         try clear c9b0
         try clear c14
         try clear c14b0
         try clear c14b1
         try clear c14b2
         try clear c15
         try clear c19
         try clear hcz12_0
         try clear hcz12_1
         try clear hcz7_0
         try clear hcz7_1
         try clear hfz12_0
         try clear hfz12_1
         try clear hfz7_0
         try clear hfz7_1
         try clear p2
         obtain ⟨x8_3, x10_3, rfl, HA, HK3, HO_5, HO_8, BK1090, HB⟩ := hrel
         cases gk with
         | zero => exact absurd HA.out (by simp [trishawlaw01_TurnWindows.l1])
         | succ k3 =>
          have H := HA.out
          clear HA
          simp only [trishawlaw01_TurnWindows.l1] at H
          by_cases c20 : x10_3 < (x8_3.length : Int)
          ·rw [if_pos c20] at H
           have c20b0 : decide (x10_3 < (x8_3.length : Int)) = true := decide_eq_true c20
           clear c20
           obtain ⟨c21b0, H⟩ := fp_ H
           obtain ⟨c22b0, H⟩ := fp_ H
           by_cases c23 : ((rd_L2 x8_3 x10_3).length : Int) = ((rd_L2 x5_1 x10_3).length : Int)
           ·rw [if_pos c23] at H
            have c23b0 : (((rd_L2 x8_3 x10_3).length : Int) == ((rd_L2 x5_1 x10_3).length : Int)) = true := beq_iff_eq.mpr c23
            have c23b1 : (((rd_L2 x8_3 x10_3).length : Int) != ((rd_L2 x5_1 x10_3).length : Int)) = false := bne_eq_false_iff_eq.mpr c23
            have c23b2 : ((rd_L2 x8_3 x10_3).length == (rd_L2 x5_1 x10_3).length) = true := by first | simpa using c23 | (simp at c23 ⊢; omega)
            clear c23
            have H' := Aside0.mk H
            clear H
            obtain ⟨Ao24, co24, eo24⟩ := Kd.S_slice HO_8.out
            subst eo24
            have p1106 : 0 ≤ (x10_3 : Int) := od_
            have q1106 : x10_3 < (x8_3.length : Int) := od_
            obtain ⟨ad1106, A1106_0, c1106_0, e1106, hx1106_0, hl1106_0, hi1106_0⟩ := at_L2 (Kd.S_reads' HO_8.out).2.2 x10_3 p1106 q1106
            cases e1106
            obtain ⟨ce1106, hce1106, hMe1106, hcc1106⟩ := Kd.S_get HO_8.out [] x10_3 p1106 (by first | exact q1106 | exact od_ | (have e_ := (Kd.S_reads' HO_8.out).1; omega))
            obtain ⟨ve1106_0, rfl, ge1106_0⟩ := hMe1106
            have hv1106_0 := hcc1106 0 _ rfl
            rw [Nat.add_zero, show ((Kd.slice 51 k51)).sz = 1 from rfl, Nat.mul_one] at hv1106_0
            replace hv1106_0 := Option.some.inj (hv1106_0.symm.trans hx1106_0)
            rw [hv1106_0] at ge1106_0
            have HL1106_0 := Aside0.mk (show Kd.R k51 51 _ _ _ _ (rd_L2 x8_3 x10_3) from ge1106_0)
            clear hv1106_0 ge1106_0
            have HX1106_0 := Aside0.mk hx1106_0
            clear hcc1106 hce1106
            have HR1106_0 := Aside0.mk hi1106_0
            have HC1106_0 := Aside0.mk hl1106_0
            clear hi1106_0 hl1106_0
            replace p1106 := eq_true p1106
            replace q1106 := eq_true q1106
            obtain ⟨Ao25, co25, eo25⟩ := Kd.S_slice HO_5.out
            subst eo25
            have p1107 : 0 ≤ (x10_3 : Int) := od_
            have q1107 : x10_3 < (x5_1.length : Int) := od_
            obtain ⟨ad1107, A1107_0, c1107_0, e1107, hx1107_0, hl1107_0, hi1107_0⟩ := at_L2 (Kd.S_reads' HO_5.out).2.2 x10_3 p1107 q1107
            cases e1107
            obtain ⟨ce1107, hce1107, hMe1107, hcc1107⟩ := Kd.S_get HO_5.out [] x10_3 p1107 (by first | exact q1107 | exact od_ | (have e_ := (Kd.S_reads' HO_5.out).1; omega))
            obtain ⟨ve1107_0, rfl, ge1107_0⟩ := hMe1107
            have hv1107_0 := hcc1107 0 _ rfl
            rw [Nat.add_zero, show ((Kd.slice 51 k51)).sz = 1 from rfl, Nat.mul_one] at hv1107_0
            replace hv1107_0 := Option.some.inj (hv1107_0.symm.trans hx1107_0)
            rw [hv1107_0] at ge1107_0
            have HL1107_0 := Aside0.mk (show Kd.R k51 51 _ _ _ _ (rd_L2 x5_1 x10_3) from ge1107_0)
            clear hv1107_0 ge1107_0
            have HX1107_0 := Aside0.mk hx1107_0
            clear hcc1107 hce1107
            have HR1107_0 := Aside0.mk hi1107_0
            have HC1107_0 := Aside0.mk hl1107_0
            clear hi1107_0 hl1107_0
            replace p1107 := eq_true p1107
            replace q1107 := eq_true q1107
            go_wp2
            repeat (go_quiet (fail); try go_wp2)
            go_loopg [11] k3 (fun kq v11 w' => ∃ (x8_4 : List (List (S51))) (x11_4 : Int), v11 = .int .i64 x11_4 ∧ Aside0 (trishawlaw01_TurnWindows.l2 kq l0 x5_1 t1096 x7_1 x8_4 x10_3 x11_4 a1_0 a1_1 = some r) ∧ Aside0 (kq ≤ k3) ∧ Aside0 (Kd.S (Kd.slice 51 k51) 49 w' w.heap.size (fun k_ => some k_ ≠ ((.slice (some ad1106) x8_3.length co24) : Value).ownBlock ∧ k_ < B_) (.slice (some ad1107) x5_1.length co25) x5_1) ∧ Aside0 (Kd.S (Kd.slice 51 k51) 49 w' w.heap.size (fun k_ => some k_ ≠ ((.slice (some ad1107) x5_1.length co25) : Value).ownBlock ∧ B_ ≤ k_) (.slice (some ad1106) x8_3.length co24) x8_4) ∧ Aside0 (w'.heap[gb1090]? = some (.cells #[.int .i64 a1_0, .int .i64 a1_1] 26 (0, 0))) ∧ Aside0 (Below w.heap.size w w'))
            case atStart => exact ⟨(x8_3), (0), rs_, H', ⟨Nat.le_refl _⟩, ⟨ks_ HO_5.out⟩, ⟨ks_ HO_8.out⟩, ⟨bk_ BK1090.out⟩, ⟨bl_⟩⟩
            case round =>
             clear H'
             try clear c1
             try clear p1
             try clear q1
             try clear hx1
             try clear c2
             try clear p2
             try clear c4
             try clear c9
             try clear c9b0
             try clear c11
             try clear p11
             try clear q11
             try clear hx11
             try clear c14
             try clear c14b0
             try clear c14b1
             try clear c14b2
             try clear c15
             try clear c19
             try clear c20
             try clear c20b0
             try clear c21
             try clear c21b0
             try clear c22
             try clear c22b0
             try clear c23
             try clear c23b0
             try clear c23b1
             try clear c23b2
             try clear hcz12_0
             try clear hcz12_1
             try clear hcz7_0
             try clear hcz7_1
             try clear hfz12_0
             try clear hfz12_1
             try clear hfz7_0
             try clear hfz7_1
             try clear hx1106_0
             try clear hx1107_0
             try clear p1106
             try clear p1107
             try clear p2
             try clear q1106
             try clear q1107
             obtain ⟨x8_4, x11_4, rfl, HA, HK4, HO_5, HO_8, BK1090, HB⟩ := hrel
             have hl8_4 := (Kd.S_reads' HO_8.out).1
             rw [hl8_4] at HO_8
             (try simp only [hl8_4])
             (try simp only [hl8_4] at BK1090)
             (try simp only [hl8_4] at HO_5)
             cases gk with
             | zero => exact absurd HA.out (by simp [trishawlaw01_TurnWindows.l2])
             | succ k4 =>
              have H := HA.out
              clear HA
              simp only [trishawlaw01_TurnWindows.l2] at H
              obtain ⟨c26b0, H⟩ := fp_ H
              obtain ⟨c27b0, H⟩ := fp_ H
              by_cases c28 : x11_4 < ((rd_L2 x8_4 x10_3).length : Int)
              ·rw [if_pos c28] at H
               have c28b0 : decide (x11_4 < ((rd_L2 x8_4 x10_3).length : Int)) = true := decide_eq_true c28
               clear c28
               obtain ⟨c29b0, H⟩ := fp_ H
               obtain ⟨c30b0, H⟩ := fp_ H
               obtain ⟨c31b0, H⟩ := fp_ H
               by_cases c32 : (!(((rd_T51 (rd_L2 x8_4 x10_3) x11_4).f0) == ((rd_T51 (rd_L2 x5_1 x10_3) x11_4).f0)) || (!(((rd_T51 (rd_L2 x8_4 x10_3) x11_4).f1) == ((rd_T51 (rd_L2 x5_1 x10_3) x11_4).f1)))) = true
               ·rw [if_pos c32] at H
                have c32b0 : (!(((rd_T51 (rd_L2 x8_4 x10_3) x11_4).f0) == ((rd_T51 (rd_L2 x5_1 x10_3) x11_4).f0)) || (!(((rd_T51 (rd_L2 x8_4 x10_3) x11_4).f1) == ((rd_T51 (rd_L2 x5_1 x10_3) x11_4).f1)))) = true := c32
                clear c32
                exact absurd (Option.some.inj (H.trans (congrArg some hr.out))) (by decide)
               ·rw [if_neg c32] at H
                have c32b0 : (!(((rd_T51 (rd_L2 x8_4 x10_3) x11_4).f0) == ((rd_T51 (rd_L2 x5_1 x10_3) x11_4).f0)) || (!(((rd_T51 (rd_L2 x8_4 x10_3) x11_4).f1) == ((rd_T51 (rd_L2 x5_1 x10_3) x11_4).f1)))) = false := by simpa using c32
                clear c32
                obtain ⟨y1114, hy1114⟩ : ∃ y_ : List (S51), y_ = ((rd_L2 x8_4 x10_3).set (x11_4 : Int).toNat (⟨(-9), (rd_T51 (rd_L2 x8_4 x10_3) x11_4).f1⟩ : S51)) := ⟨_, rfl⟩
                replace H : (trishawlaw01_TurnWindows.l2 k4 l0 x5_1 t1096 x7_1 (x8_4.set (x10_3 : Int).toNat y1114) x10_3 (wrap64 (x11_4 + 1)) a1_0 a1_1) = some r := by first | (rw [hy1114]; with_reducible exact H) | (have H2_ := (Option.bind_some _ _).symm.trans H; rw [hy1114]; with_reducible exact H2_) | (have H2_ := (Option.bind_some _ _).symm.trans H; with_reducible exact H2_) | with_reducible exact H | (rw [hy1114]; exact H) | exact H
                have Ny1114 := Aside0.mk hy1114
                clear hy1114
                obtain ⟨y1116, hy1116⟩ : ∃ y_ : List (List (S51)), y_ = (x8_4.set (x10_3 : Int).toNat y1114) := ⟨_, rfl⟩
                replace H : (trishawlaw01_TurnWindows.l2 k4 l0 x5_1 t1096 x7_1 y1116 x10_3 (wrap64 (x11_4 + 1)) a1_0 a1_1) = some r := by first | (rw [hy1116]; with_reducible exact H) | (have H2_ := (Option.bind_some _ _).symm.trans H; rw [hy1116]; with_reducible exact H2_) | (have H2_ := (Option.bind_some _ _).symm.trans H; with_reducible exact H2_) | with_reducible exact H | (rw [hy1116]; exact H) | exact H
                have Ny1116 := Aside0.mk hy1116
                clear hy1116
                have H' := Aside0.mk H
                clear H
                have p1108 : 0 ≤ (x10_3 : Int) := od_
                have q1108 : x10_3 < (x8_4.length : Int) := od_
                obtain ⟨ad1108, A1108_0, c1108_0, e1108, hx1108_0, hl1108_0, hi1108_0⟩ := at_L2 (Kd.S_reads' HO_8.out).2.2 x10_3 p1108 q1108
                obtain rfl : ad1106 = ad1108 := (by injection e1108)
                obtain ⟨ce1108, hce1108, hMe1108, hcc1108⟩ := Kd.S_get HO_8.out [] x10_3 p1108 (by first | exact q1108 | exact od_ | (have e_ := (Kd.S_reads' HO_8.out).1; omega))
                obtain ⟨ve1108_0, rfl, ge1108_0⟩ := hMe1108
                have hv1108_0 := hcc1108 0 _ rfl
                rw [Nat.add_zero, show ((Kd.slice 51 k51)).sz = 1 from rfl, Nat.mul_one] at hv1108_0
                replace hv1108_0 := Option.some.inj (hv1108_0.symm.trans hx1108_0)
                rw [hv1108_0] at ge1108_0
                have HL1108_0 := Aside0.mk (show Kd.R k51 51 _ _ _ _ (rd_L2 x8_4 x10_3) from ge1108_0)
                clear hv1108_0 ge1108_0
                have HX1108_0 := Aside0.mk hx1108_0
                clear hcc1108 hce1108
                have HR1108_0 := Aside0.mk hi1108_0
                have HC1108_0 := Aside0.mk hl1108_0
                clear hi1108_0 hl1108_0
                replace p1108 := eq_true p1108
                replace q1108 := eq_true q1108
                have p1109 : 0 ≤ (x10_3 : Int) := od_
                have q1109 : x10_3 < (x8_4.length : Int) := od_
                obtain ⟨ad1109, A1109_0, c1109_0, e1109, hx1109_0, hl1109_0, hi1109_0⟩ := at_L2 (Kd.S_reads' HO_8.out).2.2 x10_3 p1109 q1109
                obtain rfl : ad1106 = ad1109 := (by injection e1109)
                obtain ⟨ce1109, hce1109, hMe1109, hcc1109⟩ := Kd.S_get HO_8.out [] x10_3 p1109 (by first | exact q1109 | exact od_ | (have e_ := (Kd.S_reads' HO_8.out).1; omega))
                obtain ⟨ve1109_0, rfl, ge1109_0⟩ := hMe1109
                have hv1109_0 := hcc1109 0 _ rfl
                rw [Nat.add_zero, show ((Kd.slice 51 k51)).sz = 1 from rfl, Nat.mul_one] at hv1109_0
                replace hv1109_0 := Option.some.inj (hv1109_0.symm.trans hx1109_0)
                rw [hv1109_0] at ge1109_0
                have HL1109_0 := Aside0.mk (show Kd.R k51 51 _ _ _ _ (rd_L2 x8_4 x10_3) from ge1109_0)
                clear hv1109_0 ge1109_0
                have HX1109_0 := Aside0.mk hx1109_0
                clear hcc1109 hce1109
                have HR1109_0 := Aside0.mk hi1109_0
                have HC1109_0 := Aside0.mk hl1109_0
                clear hi1109_0 hl1109_0
                replace p1109 := eq_true p1109
                replace q1109 := eq_true q1109
                have ea_ := Option.some.inj (hx1108_0.symm.trans hx1109_0)
                injection ea_ with ea_ en_ ec_
                subst ea_
                subst ec_
                clear en_
                have p1110 : 0 ≤ (x11_4 : Int) := od_
                have q1110 : x11_4 < ((rd_L2 x8_4 x10_3).length : Int) := od_
                obtain ⟨ad1110, e1110, hx1110_0, hx1110_1⟩ := at_T51 (by repeat (first | (with_reducible exact HR1109_0.out) | (with_reducible refine Kd.C_alloc ?_ _) | (with_reducible refine Kd.C_drewN ?_ _) | (with_reducible refine Kd.C_drew ?_) | exact HR1109_0.out)) x11_4 p1110 q1110
                cases e1110
                replace p1110 := eq_true p1110
                replace q1110 := eq_true q1110
                have p1111 : 0 ≤ (x10_3 : Int) := od_
                have q1111 : x10_3 < (x5_1.length : Int) := od_
                obtain ⟨ad1111, A1111_0, c1111_0, e1111, hx1111_0, hl1111_0, hi1111_0⟩ := at_L2 (Kd.S_reads' HO_5.out).2.2 x10_3 p1111 q1111
                obtain rfl : ad1107 = ad1111 := (by injection e1111)
                obtain ⟨ce1111, hce1111, hMe1111, hcc1111⟩ := Kd.S_get HO_5.out [] x10_3 p1111 (by first | exact q1111 | exact od_ | (have e_ := (Kd.S_reads' HO_5.out).1; omega))
                obtain ⟨ve1111_0, rfl, ge1111_0⟩ := hMe1111
                have hv1111_0 := hcc1111 0 _ rfl
                rw [Nat.add_zero, show ((Kd.slice 51 k51)).sz = 1 from rfl, Nat.mul_one] at hv1111_0
                replace hv1111_0 := Option.some.inj (hv1111_0.symm.trans hx1111_0)
                rw [hv1111_0] at ge1111_0
                have HL1111_0 := Aside0.mk (show Kd.R k51 51 _ _ _ _ (rd_L2 x5_1 x10_3) from ge1111_0)
                clear hv1111_0 ge1111_0
                have HX1111_0 := Aside0.mk hx1111_0
                clear hcc1111 hce1111
                have HR1111_0 := Aside0.mk hi1111_0
                have HC1111_0 := Aside0.mk hl1111_0
                clear hi1111_0 hl1111_0
                replace p1111 := eq_true p1111
                replace q1111 := eq_true q1111
                have p1112 : 0 ≤ (x11_4 : Int) := od_
                have q1112 : x11_4 < ((rd_L2 x5_1 x10_3).length : Int) := od_
                obtain ⟨ad1112, e1112, hx1112_0, hx1112_1⟩ := at_T51 (by repeat (first | (with_reducible exact HR1111_0.out) | (with_reducible refine Kd.C_alloc ?_ _) | (with_reducible refine Kd.C_drewN ?_ _) | (with_reducible refine Kd.C_drew ?_) | exact HR1111_0.out)) x11_4 p1112 q1112
                cases e1112
                replace p1112 := eq_true p1112
                replace q1112 := eq_true q1112
                have p1113 : 0 ≤ (x10_3 : Int) := od_
                have q1113 : x10_3 < (x8_4.length : Int) := od_
                obtain ⟨ad1113, A1113_0, c1113_0, e1113, hx1113_0, hl1113_0, hi1113_0⟩ := at_L2 (Kd.S_reads' HO_8.out).2.2 x10_3 p1113 q1113
                obtain rfl : ad1106 = ad1113 := (by injection e1113)
                obtain ⟨ce1113, hce1113, hMe1113, hcc1113⟩ := Kd.S_get HO_8.out [] x10_3 p1113 (by first | exact q1113 | exact od_ | (have e_ := (Kd.S_reads' HO_8.out).1; omega))
                obtain ⟨ve1113_0, rfl, ge1113_0⟩ := hMe1113
                have hv1113_0 := hcc1113 0 _ rfl
                rw [Nat.add_zero, show ((Kd.slice 51 k51)).sz = 1 from rfl, Nat.mul_one] at hv1113_0
                replace hv1113_0 := Option.some.inj (hv1113_0.symm.trans hx1113_0)
                rw [hv1113_0] at ge1113_0
                have HL1113_0 := Aside0.mk (show Kd.R k51 51 _ _ _ _ (rd_L2 x8_4 x10_3) from ge1113_0)
                clear hv1113_0 ge1113_0
                have HX1113_0 := Aside0.mk hx1113_0
                clear hcc1113 hce1113
                have HR1113_0 := Aside0.mk hi1113_0
                have HC1113_0 := Aside0.mk hl1113_0
                clear hi1113_0 hl1113_0
                replace p1113 := eq_true p1113
                replace q1113 := eq_true q1113
                have ea_ := Option.some.inj (hx1108_0.symm.trans hx1113_0)
                injection ea_ with ea_ en_ ec_
                subst ea_
                subst ec_
                clear en_
                have p33 : 0 ≤ (x11_4 : Int) := od_
                have q33 : (x11_4 : Int) < (((rd_L2 x8_4 x10_3).length : Int) : Int) := od_
                obtain ⟨go33, co33, eo33, gb33, gl33, cl33, HG33⟩ := Kd.R_form HL1113_0.out (by omega)
                (first | cases eo33 | (injection eo33 with ea_ en_ ec_; (first | subst ea_ | (injection ea_ with ea_; subst ea_)); subst ec_; clear en_))
                have GB33 := Aside0.mk gb33
                have GG33 := Aside0.mk HG33
                clear gb33 gl33 HG33
                (first | simp only [add_plain] at hx1110_0 | skip)
                (first | simp only [add_plain] at hx1110_1 | skip)
                obtain ⟨ce33, hcl33, hM33, hcc33, hfr33⟩ := Kd.R_elem HL1113_0.out z51 (x11_4 : Int) p33 q33
                obtain rfl := k51_openM hM33
                have hx33_0 : wr.cell? ⟨go33, (x11_4 : Int).toNat * 2, none⟩ = some (.int .i64 ((rd_T51 (rd_L2 x8_4 x10_3) x11_4).f0)) := hcc33 0 _ rfl
                have hx33_1 : wr.cell? ⟨go33, (x11_4 : Int).toNat * 2 + 1, none⟩ = some (.int .i64 ((rd_T51 (rd_L2 x8_4 x10_3) x11_4).f1)) := hcc33 1 _ rfl
                have hf33_0 : wr.frozen? ⟨go33, (x11_4 : Int).toNat * 2, none⟩ = false := hfr33 0
                have hf33_1 : wr.frozen? ⟨go33, (x11_4 : Int).toNat * 2 + 1, none⟩ = false := hfr33 1
                clear hcl33 hcc33 hfr33 hM33
                replace p33 := eq_true p33
                replace q33 := eq_true q33
                have hq34 : (x10_3 : Int) < (x8_4.length : Int) := (by have h_ : (x10_3 : Int) < ((x8_4.length : Int) : Int) := od_; first | exact h_ | (have e_ := (Kd.S_reads' HO_8.out).1; omega) | simpa only [List.length_set, List.length_set] using h_)
                obtain ⟨oki34, ce34, hcl34, hM34, hcc34, hok34, hbk34⟩ := Kd.S_borrow HO_8.out [] (x10_3 : Int) (od_) hq34
                obtain ⟨ve34_0, rfl, ge34_0⟩ := hM34
                have hv34 := hcc34 0 _ rfl
                rw [Nat.add_zero, show ((Kd.slice 51 k51)).sz = 1 from rfl, Nat.mul_one] at hv34
                replace hv34 := Option.some.inj (hv34.symm.trans HX1113_0.out)
                subst hv34
                clear hcc34 hcl34
                replace ge34_0 := (show Kd.R k51 51 _ _ _ _ (rd_L2 x8_4 x10_3) from ge34_0)
                obtain ⟨cf34, hcl34, hN34, hcc34, hfr34⟩ := Kd.R_elem ge34_0 z51 (x11_4 : Int) (od_) (by have h_ : (x11_4 : Int) < (((rd_L2 x8_4 x10_3).length : Int) : Int) := od_; first | exact h_ | (have e_ := (Kd.R_reads' HR1113_0.out).1; omega) | simpa using h_)
                obtain rfl := k51_openM hN34
                have HP34 := Kd.R_seg ge34_0 (x11_4 : Int) (od_) (by have h_ : (x11_4 : Int) < (((rd_L2 x8_4 x10_3).length : Int) : Int) := od_; first | exact h_ | (have e_ := (Kd.R_reads' HR1113_0.out).1; omega) | simpa using h_) (seg := [.int .i64 (-9)]) (j := 0) hcl34 hcc34 (show 1 ≤ 2 from by decide) (x' := (⟨(-9), (rd_T51 (rd_L2 x8_4 x10_3) x11_4).f1⟩ : S51)) (k51_mkM _ _ _ (⟨(-9), (rd_T51 (rd_L2 x8_4 x10_3) x11_4).f1⟩ : S51)) (fun _ hk => hk)
                clear hcl34 hcc34 hfr34 hN34
                go_wp2
                repeat (go_quiet (fail); try go_wp2)
                (try simp only [← hl8_4])
                go_roundg k4
                case measure => have := HK1.out; have := HJ10.out; have := HK3.out; have := HK4.out; omega
                case rel => exact ⟨(y1116), (wrap64 (x11_4 + 1)), rs_, H', ⟨by have := HK1.out; have := HJ10.out; have := HK3.out; have := HK4.out; omega⟩, ⟨(wn_put (Kd.S_drewN HO_8.out _) (Kd.S_drewN HO_5.out _) (fun k_ a_ b_ => by have h1_ := a_.2; have h2_ := b_.2; omega) (of_eq_true p1113) (of_eq_true q1113) HX1113_0.out (of_eq_true p33) (of_eq_true q33)).2.1⟩, ⟨by rw [Ny1116.out, Ny1114.out]; first | exact (wn_put (Kd.S_drewN HO_8.out _) (Kd.S_drewN HO_5.out _) (fun k_ a_ b_ => by have h1_ := a_.2; have h2_ := b_.2; omega) (of_eq_true p1113) (of_eq_true q1113) HX1113_0.out (of_eq_true p33) (of_eq_true q33)).1 | (simp only [hl8_4]; exact (wn_put (Kd.S_drewN HO_8.out _) (Kd.S_drewN HO_5.out _) (fun k_ a_ b_ => by have h1_ := a_.2; have h2_ := b_.2; omega) (of_eq_true p1113) (of_eq_true q1113) HX1113_0.out (of_eq_true p33) (of_eq_true q33)).1) | (simp only [← hl8_4]; exact (wn_put (Kd.S_drewN HO_8.out _) (Kd.S_drewN HO_5.out _) (fun k_ a_ b_ => by have h1_ := a_.2; have h2_ := b_.2; omega) (of_eq_true p1113) (of_eq_true q1113) HX1113_0.out (of_eq_true p33) (of_eq_true q33)).1)⟩, ⟨(wn_put (Kd.S_drewN HO_8.out _) (Kd.S_drewN HO_5.out _) (fun k_ a_ b_ => by have h1_ := a_.2; have h2_ := b_.2; omega) (of_eq_true p1113) (of_eq_true q1113) HX1113_0.out (of_eq_true p33) (of_eq_true q33)).2.2.1 _ _ (blk_drewN BK1090.out _)⟩, ⟨below_set (pw_below_drewN HB.out _) GB33.out⟩⟩
              ·rw [if_neg c28] at H
               have c28b0 : decide (x11_4 < ((rd_L2 x8_4 x10_3).length : Int)) = false := decide_eq_false c28
               clear c28
               have H' := Aside0.mk H
               clear H
               have p1108 : 0 ≤ (x10_3 : Int) := od_
               have q1108 : x10_3 < (x8_4.length : Int) := od_
               obtain ⟨ad1108, A1108_0, c1108_0, e1108, hx1108_0, hl1108_0, hi1108_0⟩ := at_L2 (Kd.S_reads' HO_8.out).2.2 x10_3 p1108 q1108
               obtain rfl : ad1106 = ad1108 := (by injection e1108)
               obtain ⟨ce1108, hce1108, hMe1108, hcc1108⟩ := Kd.S_get HO_8.out [] x10_3 p1108 (by first | exact q1108 | exact od_ | (have e_ := (Kd.S_reads' HO_8.out).1; omega))
               obtain ⟨ve1108_0, rfl, ge1108_0⟩ := hMe1108
               have hv1108_0 := hcc1108 0 _ rfl
               rw [Nat.add_zero, show ((Kd.slice 51 k51)).sz = 1 from rfl, Nat.mul_one] at hv1108_0
               replace hv1108_0 := Option.some.inj (hv1108_0.symm.trans hx1108_0)
               rw [hv1108_0] at ge1108_0
               have HL1108_0 := Aside0.mk (show Kd.R k51 51 _ _ _ _ (rd_L2 x8_4 x10_3) from ge1108_0)
               clear hv1108_0 ge1108_0
               have HX1108_0 := Aside0.mk hx1108_0
               clear hcc1108 hce1108
               have HR1108_0 := Aside0.mk hi1108_0
               have HC1108_0 := Aside0.mk hl1108_0
               clear hi1108_0 hl1108_0
               replace p1108 := eq_true p1108
               replace q1108 := eq_true q1108
               go_wp2
               repeat (go_quiet (fail); try go_wp2)
               (try simp only [← hl8_4])
               go_roundg k4
               case measure => have := HK1.out; have := HJ10.out; have := HK3.out; have := HK4.out; omega
               case rel => exact ⟨(x8_4), (wrap64 (x10_3 + 1)), rs_, H', ⟨by have := HK1.out; have := HJ10.out; have := HK3.out; have := HK4.out; omega⟩, ⟨by (try simp only [hl8_4]); refine ks_ ?_; exact HO_5.out⟩, ⟨by (try simp only [hl8_4]); refine ks_ ?_; exact HO_8.out⟩, ⟨by (try simp only [hl8_4]); refine bk_ ?_; exact BK1090.out⟩, ⟨bl_⟩⟩
           ·rw [if_neg c23] at H
            have c23b0 : (((rd_L2 x8_3 x10_3).length : Int) == ((rd_L2 x5_1 x10_3).length : Int)) = false := beq_eq_false_iff_ne.mpr c23
            have c23b1 : (((rd_L2 x8_3 x10_3).length : Int) != ((rd_L2 x5_1 x10_3).length : Int)) = true := bne_iff_ne.mpr c23
            have c23b2 : ((rd_L2 x8_3 x10_3).length == (rd_L2 x5_1 x10_3).length) = false := by first | simpa using c23 | (simp at c23 ⊢; omega)
            exact absurd (Option.some.inj (H.trans (congrArg some hr.out))) (by decide)
          ·rw [if_neg c20] at H
           have c20b0 : decide (x10_3 < (x8_3.length : Int)) = false := decide_eq_false c20
           clear c20
           have H' := Aside0.mk H
           clear H
           obtain ⟨Ao38, co38, eo38⟩ := Kd.S_slice HO_8.out
           subst eo38
           go_wp2
           repeat (go_quiet (fail); try go_wp2)
           go_roundg k3
           case measure => have := HK1.out; have := HJ10.out; have := HK3.out; omega
           case rel => exact ⟨(x5_1), (wrap64 (x7_1 + 1)), rs_, H', ⟨by have := HK1.out; have := HJ10.out; have := HK3.out; omega⟩, ⟨by refine ks_ ?_; exact Kd.S_mono HO_5.out (fun _ hk => trivial)⟩, ⟨bk_ BK1090.out⟩, ⟨bl_⟩⟩
    ·rw [if_neg c9] at H
     have c9b0 : decide (x7_1 < 2) = false := decide_eq_false c9
     clear c9
     obtain ⟨⟨t1097, t1098⟩, A39, H⟩ := bi_ H
     replace H : ((trishawref01_Feasible.f k1 l0 a1_0 a1_1).bind fun bt1099 => (if (t1097 == bt1099.1) = true then (if t1098 = bt1099.2 then ((trishawlaw01_alive.f k1).bind fun t1101 => (some t1101)) else (some false)) else (some false))) = some r := H
     obtain ⟨⟨t1099, t1100⟩, A40, H⟩ := bi_ H
     replace H : (if (t1097 == t1099) = true then (if t1098 = t1100 then ((trishawlaw01_alive.f k1).bind fun t1101 => (some t1101)) else (some false)) else (some false)) = some r := H
     by_cases c41 : (t1097 == t1099) = true
     ·rw [if_pos c41] at H
      have c41b0 : (t1097 == t1099) = true := c41
      (try (have c41b1 : decide (t1097 = t1099) = true := by simpa using c41))
      (try (have c41b2 : (t1097 == t1099) = true := by simpa using c41))
      clear c41
      by_cases c42 : t1098 = t1100
      ·rw [if_pos c42] at H
       have c42b0 : (t1098 == t1100) = true := beq_iff_eq.mpr c42
       have c42b1 : (t1098 != t1100) = false := bne_eq_false_iff_eq.mpr c42
       clear c42
       obtain ⟨t1101, A43, H⟩ := bi_ H
       replace H : (some t1101) = some r := H
       obtain rfl := Option.some.inj H
       have hcz44_0 := bc_ BK1090 0 (.int .i64 a1_0)
       have hcz44_1 := bc_ BK1090 1 (.int .i64 a1_1)
       have hfz44_0 := bz_ BK1090 0
       have hfz44_1 := bz_ BK1090 1
       go_wp2_with (first | (go_at_call 37; (with_reducible refine (turn_Feasible.calls k1 _ _ l0 a1_0 a1_1 t1097 t1098 _ ?side1 ?side2 A39.out (HN.out.of (bl_))).mono ?_); (case side1 => exact cb_ HR0.out); (case side2 => exact HC0.out); rintro e w45 ⟨rfl, hb⟩; replace HO_5 := Aside0.mk (Kd.S_below (ks_ HO_5.out) hb); replace BK1090 := bb_ BK1090 hb; replace HB := hb_ hb; clear hb; have hcz46_0 := bc_ BK1090 0 (.int .i64 a1_0); have hcz46_1 := bc_ BK1090 1 (.int .i64 a1_1); have hfz46_0 := bz_ BK1090 0; have hfz46_1 := bz_ BK1090 1) | (go_at_call 42; (with_reducible refine (trishawref01_Feasible.calls k1 _ _ l0 a1_0 a1_1 t1099 t1100 _ ?side1 ?side2 A40.out).mono ?_); (case side1 => exact cb_ HR0.out); (case side2 => exact HC0.out); rintro e w47 ⟨rfl, hb⟩; replace HO_5 := Aside0.mk (Kd.S_below (ks_ HO_5.out) hb); replace BK1090 := bb_ BK1090 hb; replace HB := hb_ hb; clear hb) | (go_at_call 17; (with_reducible refine (trishawlaw01_alive.calls k1  t1101 _ A43.out (HN.out.of (bl_))).mono ?_); rintro e w48 ⟨rfl, hb⟩; replace HO_5 := Aside0.mk (Kd.S_below (ks_ HO_5.out) hb); replace BK1090 := bb_ BK1090 hb; replace HB := hb_ hb; clear hb))
       repeat (go_quiet (first | (go_at_call 37; (with_reducible refine (turn_Feasible.calls k1 _ _ l0 a1_0 a1_1 t1097 t1098 _ ?side1 ?side2 A39.out (HN.out.of (bl_))).mono ?_); (case side1 => exact cb_ HR0.out); (case side2 => exact HC0.out); rintro e w45 ⟨rfl, hb⟩; replace HO_5 := Aside0.mk (Kd.S_below (ks_ HO_5.out) hb); replace BK1090 := bb_ BK1090 hb; replace HB := hb_ hb; clear hb; have hcz46_0 := bc_ BK1090 0 (.int .i64 a1_0); have hcz46_1 := bc_ BK1090 1 (.int .i64 a1_1); have hfz46_0 := bz_ BK1090 0; have hfz46_1 := bz_ BK1090 1) | (go_at_call 42; (with_reducible refine (trishawref01_Feasible.calls k1 _ _ l0 a1_0 a1_1 t1099 t1100 _ ?side1 ?side2 A40.out).mono ?_); (case side1 => exact cb_ HR0.out); (case side2 => exact HC0.out); rintro e w47 ⟨rfl, hb⟩; replace HO_5 := Aside0.mk (Kd.S_below (ks_ HO_5.out) hb); replace BK1090 := bb_ BK1090 hb; replace HB := hb_ hb; clear hb) | (go_at_call 17; (with_reducible refine (trishawlaw01_alive.calls k1  t1101 _ A43.out (HN.out.of (bl_))).mono ?_); rintro e w48 ⟨rfl, hb⟩; replace HO_5 := Aside0.mk (Kd.S_below (ks_ HO_5.out) hb); replace BK1090 := bb_ BK1090 hb; replace HB := hb_ hb; clear hb)); try go_wp2_with (first | (go_at_call 37; (with_reducible refine (turn_Feasible.calls k1 _ _ l0 a1_0 a1_1 t1097 t1098 _ ?side1 ?side2 A39.out (HN.out.of (bl_))).mono ?_); (case side1 => exact cb_ HR0.out); (case side2 => exact HC0.out); rintro e w45 ⟨rfl, hb⟩; replace HO_5 := Aside0.mk (Kd.S_below (ks_ HO_5.out) hb); replace BK1090 := bb_ BK1090 hb; replace HB := hb_ hb; clear hb; have hcz46_0 := bc_ BK1090 0 (.int .i64 a1_0); have hcz46_1 := bc_ BK1090 1 (.int .i64 a1_1); have hfz46_0 := bz_ BK1090 0; have hfz46_1 := bz_ BK1090 1) | (go_at_call 42; (with_reducible refine (trishawref01_Feasible.calls k1 _ _ l0 a1_0 a1_1 t1099 t1100 _ ?side1 ?side2 A40.out).mono ?_); (case side1 => exact cb_ HR0.out); (case side2 => exact HC0.out); rintro e w47 ⟨rfl, hb⟩; replace HO_5 := Aside0.mk (Kd.S_below (ks_ HO_5.out) hb); replace BK1090 := bb_ BK1090 hb; replace HB := hb_ hb; clear hb) | (go_at_call 17; (with_reducible refine (trishawlaw01_alive.calls k1  t1101 _ A43.out (HN.out.of (bl_))).mono ?_); rintro e w48 ⟨rfl, hb⟩; replace HO_5 := Aside0.mk (Kd.S_below (ks_ HO_5.out) hb); replace BK1090 := bb_ BK1090 hb; replace HB := hb_ hb; clear hb)))
       go_ret
       exact ⟨er_, bl_⟩
      ·rw [if_neg c42] at H
       have c42b0 : (t1098 == t1100) = false := beq_eq_false_iff_ne.mpr c42
       have c42b1 : (t1098 != t1100) = true := bne_iff_ne.mpr c42
       exact absurd (Option.some.inj (H.trans (congrArg some hr.out))) (by decide)
     ·rw [if_neg c41] at H
      have c41b0 : (t1097 == t1099) = false := by simpa using c41
      (try (have c41b1 : decide (t1097 = t1099) = false := by simpa using c41))
      (try (have c41b2 : (t1097 == t1099) = false := by simpa using c41))
      (try (have c41b3 : ¬ (t1097 = t1099) := by simpa using c41))
      clear c41
      exact absurd (Option.some.inj (H.trans (congrArg some hr.out))) (by decide)
 ·replace c4 := Bool.eq_false_iff.mpr c4
  subst c4
  have H1 : ((trishawlaw01_alive.f k).bind fun t1092 => (some t1092)) = some r := by rw [if_neg (show ¬ (false = true) by decide)] at H; exact H
  clear H
  have H := H1
  clear H1
  obtain ⟨t1092, A57, H⟩ := bi_ H
  replace H : (some t1092) = some r := H
  obtain rfl := Option.some.inj H
  go_enter Tryd.func15, Tryd.ntmps15
  go_wp2_with (first | ((with_reducible refine gate_dst (N := 3) rfl ?_); refine be_ #[.int .i64 a1_0, .int .i64 a1_1] 26 ?_; intro gb1090 hg w58 hbox hb; have BK1090 := Aside0.mk (hbox); have GW1090 := gw_ hg; have GE1090 := gw_ hg; replace HB := hb_ hb; clear hb hbox hg) | (go_at_call 16; (refine (trishawlaw01_few.calls _ _ l0 _ _ ([] : List Int) false _ ?side1 ?side2 ?side3 ?side4 A3.out).mono ?_); (case side1 => exact cb_ HR0.out); (case side2 => exact HC0.out); (case side3 => exact Kd.C_nil _ _); (case side4 => exact Nat.le_refl _); rintro e w' ⟨rfl, ⟨nd, rfl⟩⟩; (try first | exact ⟨rfl, _, World.drewN_drewN _ _ _⟩ | exact ⟨rfl, _, Eq.trans (World.drewN_drewN _ _ _) (congrArg (World.drewN _) (Nat.add_assoc _ _ _))⟩)) | (go_at_call 17; (with_reducible refine (trishawlaw01_alive.calls k  t1092 _ A57.out (HN.out.of (bl_))).mono ?_); rintro e w59 ⟨rfl, hb⟩; replace BK1090 := bb_ BK1090 hb; replace HB := hb_ hb; clear hb))
  repeat (go_quiet (first | ((with_reducible refine gate_dst (N := 3) rfl ?_); refine be_ #[.int .i64 a1_0, .int .i64 a1_1] 26 ?_; intro gb1090 hg w58 hbox hb; have BK1090 := Aside0.mk (hbox); have GW1090 := gw_ hg; have GE1090 := gw_ hg; replace HB := hb_ hb; clear hb hbox hg) | (go_at_call 16; (refine (trishawlaw01_few.calls _ _ l0 _ _ ([] : List Int) false _ ?side1 ?side2 ?side3 ?side4 A3.out).mono ?_); (case side1 => exact cb_ HR0.out); (case side2 => exact HC0.out); (case side3 => exact Kd.C_nil _ _); (case side4 => exact Nat.le_refl _); rintro e w' ⟨rfl, ⟨nd, rfl⟩⟩; (try first | exact ⟨rfl, _, World.drewN_drewN _ _ _⟩ | exact ⟨rfl, _, Eq.trans (World.drewN_drewN _ _ _) (congrArg (World.drewN _) (Nat.add_assoc _ _ _))⟩)) | (go_at_call 17; (with_reducible refine (trishawlaw01_alive.calls k  t1092 _ A57.out (HN.out.of (bl_))).mono ?_); rintro e w59 ⟨rfl, hb⟩; replace BK1090 := bb_ BK1090 hb; replace HB := hb_ hb; clear hb)); try go_wp2_with (first | ((with_reducible refine gate_dst (N := 3) rfl ?_); refine be_ #[.int .i64 a1_0, .int .i64 a1_1] 26 ?_; intro gb1090 hg w58 hbox hb; have BK1090 := Aside0.mk (hbox); have GW1090 := gw_ hg; have GE1090 := gw_ hg; replace HB := hb_ hb; clear hb hbox hg) | (go_at_call 16; (refine (trishawlaw01_few.calls _ _ l0 _ _ ([] : List Int) false _ ?side1 ?side2 ?side3 ?side4 A3.out).mono ?_); (case side1 => exact cb_ HR0.out); (case side2 => exact HC0.out); (case side3 => exact Kd.C_nil _ _); (case side4 => exact Nat.le_refl _); rintro e w' ⟨rfl, ⟨nd, rfl⟩⟩; (try first | exact ⟨rfl, _, World.drewN_drewN _ _ _⟩ | exact ⟨rfl, _, Eq.trans (World.drewN_drewN _ _ _) (congrArg (World.drewN _) (Nat.add_assoc _ _ _))⟩)) | (go_at_call 17; (with_reducible refine (trishawlaw01_alive.calls k  t1092 _ A57.out (HN.out.of (bl_))).mono ?_); rintro e w59 ⟨rfl, hb⟩; replace BK1090 := bb_ BK1090 hb; replace HB := hb_ hb; clear hb)))
  go_ret
  exact ⟨er_, bl_⟩

end Go.Proofs.YtgobffgogmnmpaaDoor.P
