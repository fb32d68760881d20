-- Written by wip/tools/myprint.py of this session's repo, over the kit's printer and hand texts.
import Derived.Test.YtlcgoacmlbeliaaDoorPx0
import Derived.Test.YtlcgoacmlbeliaaDoorPre
import Derived.Test.YtlcgoacmlbeliaaDoorMap
namespace Go.Proofs.YtlcgoacmlbeliaaDoor.P
open Go.RowKit Go.Proofs.YtlcgoacmlbeliaaDoorW.PrintWords Go.Proofs.YtlcgoacmlbeliaaDoorW.PrintLast Go.Proofs.YtlcgoacmlbeliaaDoorW.PrintMore
attribute [local go_sem] max2_int min2_int max_two min_two max_three min_three max_four min_four   -- for this text's walks alone
set_option linter.unusedVariables false
set_option linter.unusedSimpArgs false

/-! ### branch_read: function 16 -/
mutual
def branch_read.j0 : Nat → Int → List (S36) → Bool → Option (Int)
  | 0, _, _, _ => none
  | k + 1, x0, x1, x9 => if x9 = true then (some 2) else (if (x1.length : Int) > 30 then (some 3) else (branch_read.l0 k x0 x1 (x1.length : Int) 0))
def branch_read.l0 : Nat → Int → List (S36) → Int → Int → Option (Int)
  | 0, _, _, _, _ => none
  | k + 1, x0, x25, x26, x27 => if x27 < x26 then (if 0 ≤ x27 then (if x27 < (x25.length : Int) then (if (mn ((rd_T36 x25 x27).f0) ((rd_T36 x25 x27).f1)) < 0 then (some 2) else (if (mx ((rd_T36 x25 x27).f0) ((rd_T36 x25 x27).f1)) ≥ x0 then (some 2) else (if ((rd_T36 x25 x27).f0) = ((rd_T36 x25 x27).f1) then (some 2) else (if ((rd_T36 x25 x27).f2) < 0 then (some 2) else (if ((rd_T36 x25 x27).f2) > 1000 then (some 2) else (branch_read.l0 k x0 x25 x26 (wrap64 (x27 + 1)))))))) else (none)) else (none)) else (some 0)
end
def branch_read.f (k : Nat) (a0 : Int) (l1 : List (S36)) : Option (Int) := if a0 < 2 then (branch_read.j0 k a0 l1 true) else (branch_read.j0 k a0 l1 (decide (a0 > 7)))
theorem branch_read.mono_l : ∀ k, (∀ y0 y1 y2, LeO (branch_read.j0 k y0 y1 y2) (branch_read.j0 (k + 1) y0 y1 y2)) ∧ (∀ y0 y1 y2 y3, LeO (branch_read.l0 k y0 y1 y2 y3) (branch_read.l0 (k + 1) y0 y1 y2 y3))
  | 0 => ⟨fun _ _ _ r h => by simp [branch_read.j0] at h, fun _ _ _ _ r h => by simp [branch_read.l0] at h⟩
  | k + 1 => by
    obtain ⟨ih0, ih1⟩ := branch_read.mono_l k
    refine ⟨?_, ?_⟩
    · intro y0 y1 y2
      unfold branch_read.j0
      with_reducible repeat' first | exact ih0 _ _ _ | exact ih1 _ _ _ _ | exact LeO.refl _ | exact LeO.none _ | refine LeO.ite ?_ ?_ | refine LeO.bind ?_ (fun _ => ?_)
    · intro y0 y1 y2 y3
      unfold branch_read.l0
      with_reducible repeat' first | exact ih0 _ _ _ | exact ih1 _ _ _ _ | exact LeO.refl _ | exact LeO.none _ | refine LeO.ite ?_ ?_ | refine LeO.bind ?_ (fun _ => ?_)
theorem branch_read.mono : ∀ a0 a1 k, LeO (branch_read.f k a0 a1) (branch_read.f (k + 1) a0 a1) := by
  intro a0 a1 k
  obtain ⟨ih0, ih1⟩ := branch_read.mono_l k
  unfold branch_read.f
  with_reducible repeat' first | exact ih0 _ _ _ | exact ih1 _ _ _ _ | exact LeO.refl _ | exact LeO.none _ | refine LeO.ite ?_ ?_ | refine LeO.bind ?_ (fun _ => ?_)
def branch_read.T11 : Bool × List (List Nat × List Nat) := (true, [([], []), ([0], [0]), ([1], [1]), ([2], [2]), ([], []), ([4], [4]), ([], []), ([6], [6]), ([7], [7]), ([8], [8]), ([], []), ([10], [10]), ([9, 11], [9, 11]), ([], []), ([13], [13]), ([12, 14], [12, 14]), ([3, 5, 15, 15, 0, 1, 2, 3, 4, 5, 6, 7, 8, 9, 10, 11, 12, 13, 14, 15], [3, 5, 15])])
def branch_read.B11 : List Nat := [0, 1, 3, 7, 0, 16, 0, 64, 192, 448, 0, 1024, 4032, 0, 8192, 32704, 65535]
theorem branch_read.tab11 : rtab .any (opsOf Tryd.f16 11) = branch_read.T11 := by kernel_rfl
theorem branch_read.bits11 : waitsOk branch_read.T11.2 branch_read.B11 = true := by kernel_rfl
theorem zeroE_ (w : World) : (zeroValue 29).run Tryd.prog w = .ok (.slice none 0 0) w := by
  exact Tryd.zeroValue29 w
set_option maxHeartbeats 8000000 in
set_option maxRecDepth 100000 in
theorem branch_read.calls (k : Nat) (a0 : Int) (A1 : Option Addr) (c1 : Nat) (l1 : List (S36)) (r : Int) (w : World) (hr1 : Kd.C k36 w A1 l1.length l1) (hc1 : l1.length ≤ c1) (h : branch_read.f k a0 l1 = some r) :
    Calls Tryd.prog 16 #[.int .i64 a0, .slice A1 l1.length c1] w fun e w' => ∃ v_, e = .returned (.tuple #[v_, .int .i64 r]) ∧ TownAt a0 A1 l1.length c1 w.heap.size w' r v_ ∧ Below w.heap.size w w' := by
 have hu36 := Tryd.underlying36
 have HR1 := Aside0.mk hr1
 have HC1 := Aside0.mk hc1
 clear hr1 hc1
 have hmm_ := @run_makeMap Tryd.prog
 obtain ⟨i0, hi_, hz0, hz1, hz2⟩ := info_parts info3
 have HB := Aside0.mk (Below.refl w.heap.size w)
 have H : (if a0 < 2 then (branch_read.j0 k a0 l1 true) else (branch_read.j0 k a0 l1 (decide (a0 > 7)))) = some r := h
 clear h
 have HC3 := Aside0.mk H
 clear H
 go_enter Tryd.func16, Tryd.ntmps16
 go_upto_region 1 with (fail)
 repeat (go_quiet (fail); go_upto_region 1 with (fail))
 go_cut [9] (fun v9 wc => ∃ (kq : Nat) (x9_2 : Bool), v9 = .bool x9_2 ∧ Aside0 (branch_read.j0 kq a0 l1 x9_2 = some r) ∧ Aside0 (kq ≤ k) ∧ Aside0 (Below w.heap.size w wc) ∧ Aside0 (x9_2 = false → a0 ≤ 7))
 case first =>
  have H := HC3.out
  clear HC3
  by_cases c4 : a0 < 2
  ·rw [if_pos c4] at H
   have c4b0 : decide (a0 < 2) = true := decide_eq_true c4
   clear c4
   (first | rw [c4b0] | (simp only [i64_w, i32_w]; rw [c4b0]) | skip)
   have H' := Aside0.mk H
   clear H
   go_wp2
   repeat (go_quiet (fail); try go_wp2)
   go_meet
   case rel => exact ⟨_, (true), rs_, H', ⟨by first | omega | exact Nat.le_refl _⟩, ⟨bl_⟩, ⟨fun h_ => absurd h_ (by decide)⟩⟩
  ·rw [if_neg c4] at H
   have c4b0 : decide (a0 < 2) = false := decide_eq_false c4
   clear c4
   (first | rw [c4b0] | (simp only [i64_w, i32_w]; rw [c4b0]) | skip)
   have H' := Aside0.mk H
   clear H
   go_wp2
   repeat (go_quiet (fail); try go_wp2)
   go_meet
   case rel => exact ⟨_, (decide (a0 > 7)), rs_, H', ⟨by first | omega | exact Nat.le_refl _⟩, ⟨bl_⟩, ⟨fun h_ => by have := of_decide_eq_false h_; omega⟩⟩
 case rest =>
  clear HC3
  try clear c1
  try clear p2
  try clear c4
  try clear c4b0
  obtain ⟨kq, x9_2, rfl, HA, HJ2, HB, HA7⟩ := hcut
  cases kq with
  | zero => exact absurd HA.out (by simp [branch_read.j0])
  | succ kj2 =>
   have H := HA.out
   clear HA
   simp only [branch_read.j0] at H
   by_cases c5 : x9_2 = true
   ·subst c5
    have H1 : (some 2) = some r := by rw [if_pos rfl] at H; exact H
    clear H
    have H := H1
    clear H1
    obtain rfl := Option.some.inj H
    go_wp2
    repeat (go_quiet (fail); try go_wp2)
    go_ret2
    exact ⟨_, rfl, fun h0_ => absurd h0_ (by decide), bl_⟩
   ·replace c5 := Bool.eq_false_iff.mpr c5
    subst c5
    have H1 : (if (l1.length : Int) > 30 then (some 3) else (branch_read.l0 kj2 a0 l1 (l1.length : Int) 0)) = some r := by rw [if_neg (show ¬ (false = true) by decide)] at H; exact H
    clear H
    have H := H1
    clear H1
    by_cases c6 : (l1.length : Int) > 30
    ·rw [if_pos c6] at H
     have c6b0 : decide (30 < (l1.length : Int)) = true := decide_eq_true c6
     have c6b1 : decide (30 < l1.length) = true := decide_eq_true (by omega)
     clear c6
     obtain rfl := Option.some.inj H
     go_wp2
     repeat (go_quiet (fail); try go_wp2)
     go_ret2
     exact ⟨_, rfl, fun h0_ => absurd h0_ (by decide), bl_⟩
    ·rw [if_neg c6] at H
     have c6b0 : decide (30 < (l1.length : Int)) = false := decide_eq_false c6
     have c6b1 : decide (30 < l1.length) = false := decide_eq_false (by omega)
     have HC6_ := Aside0.mk c6b0
     clear c6
     have H' := Aside0.mk H
     clear H
     have HGM0_ := Aside0.mk (below_size HB.out)
     have HG0_ := Aside0.mk (World.ownsGroups_made (H := Unit) wc Tryd.prog 3 3 .i64)
     go_wp2_with (first | ((with_reducible refine gate_dst (N := 24) rfl ?_); refine be_ #[.int .i64 a0, .slice A1 l1.length c1, .map (some wc.heap.size)] 76 ?_; intro gt hg wt_ hbox hb; have BKT := Aside0.mk (hbox); have GT_ := gw_ hg; replace HG0_ := Aside0.mk (groups_below HG0_.out hb); replace HB := hb_ hb; clear hb hbox hg))
     generalize wc.heap.size = gm at HGM0_ HG0_ BKT ⊢
     go_loopg [27] kj2 (fun kq v27 w' => ∃ (x27_2 : Int), v27 = .int .i64 x27_2 ∧ Aside0 (branch_read.l0 kq a0 l1 (l1.length : Int) x27_2 = some r) ∧ Aside0 (kq ≤ kj2) ∧ Aside0 (Below w.heap.size w w') ∧ Aside0 (w'.heap[gt]? = some (.cells #[.int .i64 a0, .slice A1 l1.length c1, .map (some gm)] 76 (0, 0))) ∧ Aside0 (∃ (n_ : Nat) (D_ : DataW Unit), (n_ : Int) = x27_2 ∧ w'.ownsGroups (H := Unit) Tryd.prog 3 (gm + 1) 3 .i64 gm n_ D_))
     case atStart => exact ⟨(0), rs_, H', ⟨Nat.le_refl _⟩, ⟨bl_⟩, ⟨bk_ BKT.out⟩, ⟨0, _, rfl, HG0_.out⟩⟩
     case round =>
      clear H'
      try clear c1
      try clear p2
      try clear c4
      try clear c4b0
      try clear c5
      try clear c6
      try clear c6b0
      try clear c6b1
      try clear p2
      clear HG0_ BKT
      obtain ⟨x27_2, rfl, HA, HK2, HB, BKT, HG⟩ := hrel
      cases gk with
      | zero => exact absurd HA.out (by simp [branch_read.l0])
      | succ k2 =>
       have H := HA.out
       clear HA
       simp only [branch_read.l0] at H
       by_cases c7 : x27_2 < (l1.length : Int)
       ·rw [if_pos c7] at H
        have c7b0 : decide (x27_2 < (l1.length : Int)) = true := decide_eq_true c7
        clear c7
        obtain ⟨c8b0, H⟩ := fp_ H
        obtain ⟨c9b0, H⟩ := fp_ H
        obtain ⟨ji10, hji10⟩ : ∃ j_ : Int, (mn ((rd_T36 l1 x27_2).f0) ((rd_T36 l1 x27_2).f1)) = j_ := ⟨_, rfl⟩
        replace H : (if (ji10) < 0 then (some 2) else (if (mx ((rd_T36 l1 x27_2).f0) ((rd_T36 l1 x27_2).f1)) ≥ a0 then (some 2) else (if ((rd_T36 l1 x27_2).f0) = ((rd_T36 l1 x27_2).f1) then (some 2) else (if ((rd_T36 l1 x27_2).f2) < 0 then (some 2) else (if ((rd_T36 l1 x27_2).f2) > 1000 then (some 2) else (branch_read.l0 k2 a0 l1 (l1.length : Int) (wrap64 (x27_2 + 1)))))))) = some r := by first | (rw [hji10] at H; exact H) | (simp only [hji10] at H ⊢; exact H)
        have hji10_ : (if ((rd_T36 l1 x27_2).f1) < ((rd_T36 l1 x27_2).f0) then ((rd_T36 l1 x27_2).f1) else ((rd_T36 l1 x27_2).f0)) = ji10 := hji10
        by_cases c11 : (ji10) < 0
        ·rw [if_pos c11] at H
         have c11b0 : decide ((ji10) < 0) = true := decide_eq_true c11
         clear c11
         obtain rfl := Option.some.inj H
         have p162 : 0 ≤ (x27_2 : Int) := od_
         have q162 : x27_2 < (l1.length : Int) := od_
         obtain ⟨ad162, e162, hx162_0, hx162_1, hx162_2⟩ := at_T36 HR1.out x27_2 p162 q162
         cases e162
         replace hx162_0 := hc_ HB hx162_0
         replace hx162_1 := hc_ HB hx162_1
         replace hx162_2 := hc_ HB hx162_2
         replace p162 := eq_true p162
         replace q162 := eq_true q162
         go_wp2_with (first | ((with_reducible refine gate_dst (N := 8) rfl ?_); (try (refine gate_guard (by rfl) ?_; dsimp only)); refine be_ #[.int .i64 0, .int .i64 0, .int .i64 0] 36 ?_; intro gb163 hg w12 hbox hb; have BK163 := Aside0.mk (hbox); have GW163 := gw_ hg; have GE163 := gw_ hg; replace HB := hb_ hb; clear hb hbox hg; have hcz13_0 := bc_ BK163 0 (.int .i64 0); have hcz13_1 := bc_ BK163 1 (.int .i64 0); have hcz13_2 := bc_ BK163 2 (.int .i64 0); have hfz13_0 := bz_ BK163 0; have hfz13_1 := bz_ BK163 1; have hfz13_2 := bz_ BK163 2))
         repeat (go_quiet (first | ((with_reducible refine gate_dst (N := 8) rfl ?_); (try (refine gate_guard (by rfl) ?_; dsimp only)); refine be_ #[.int .i64 0, .int .i64 0, .int .i64 0] 36 ?_; intro gb163 hg w12 hbox hb; have BK163 := Aside0.mk (hbox); have GW163 := gw_ hg; have GE163 := gw_ hg; replace HB := hb_ hb; clear hb hbox hg; have hcz13_0 := bc_ BK163 0 (.int .i64 0); have hcz13_1 := bc_ BK163 1 (.int .i64 0); have hcz13_2 := bc_ BK163 2 (.int .i64 0); have hfz13_0 := bz_ BK163 0; have hfz13_1 := bz_ BK163 1; have hfz13_2 := bz_ BK163 2)); try go_wp2_with (first | ((with_reducible refine gate_dst (N := 8) rfl ?_); (try (refine gate_guard (by rfl) ?_; dsimp only)); refine be_ #[.int .i64 0, .int .i64 0, .int .i64 0] 36 ?_; intro gb163 hg w12 hbox hb; have BK163 := Aside0.mk (hbox); have GW163 := gw_ hg; have GE163 := gw_ hg; replace HB := hb_ hb; clear hb hbox hg; have hcz13_0 := bc_ BK163 0 (.int .i64 0); have hcz13_1 := bc_ BK163 1 (.int .i64 0); have hcz13_2 := bc_ BK163 2 (.int .i64 0); have hfz13_0 := bz_ BK163 0; have hfz13_1 := bz_ BK163 1; have hfz13_2 := bz_ BK163 2)))
         go_ret2
         exact ⟨_, rfl, fun h0_ => absurd h0_ (by decide), bl_⟩
        ·rw [if_neg c11] at H
         have c11b0 : decide ((ji10) < 0) = false := decide_eq_false c11
         clear c11
         obtain ⟨ji14, hji14⟩ : ∃ j_ : Int, (mx ((rd_T36 l1 x27_2).f0) ((rd_T36 l1 x27_2).f1)) = j_ := ⟨_, rfl⟩
         replace H : (if (ji14) ≥ a0 then (some 2) else (if ((rd_T36 l1 x27_2).f0) = ((rd_T36 l1 x27_2).f1) then (some 2) else (if ((rd_T36 l1 x27_2).f2) < 0 then (some 2) else (if ((rd_T36 l1 x27_2).f2) > 1000 then (some 2) else (branch_read.l0 k2 a0 l1 (l1.length : Int) (wrap64 (x27_2 + 1))))))) = some r := by first | (rw [hji14] at H; exact H) | (simp only [hji14] at H ⊢; exact H)
         have hji14_ : (if ((rd_T36 l1 x27_2).f0) < ((rd_T36 l1 x27_2).f1) then ((rd_T36 l1 x27_2).f1) else ((rd_T36 l1 x27_2).f0)) = ji14 := hji14
         by_cases c15 : (ji14) ≥ a0
         ·rw [if_pos c15] at H
          have c15b0 : decide (a0 ≤ (ji14)) = true := decide_eq_true c15
          clear c15
          obtain rfl := Option.some.inj H
          have p162 : 0 ≤ (x27_2 : Int) := od_
          have q162 : x27_2 < (l1.length : Int) := od_
          obtain ⟨ad162, e162, hx162_0, hx162_1, hx162_2⟩ := at_T36 HR1.out x27_2 p162 q162
          cases e162
          replace hx162_0 := hc_ HB hx162_0
          replace hx162_1 := hc_ HB hx162_1
          replace hx162_2 := hc_ HB hx162_2
          replace p162 := eq_true p162
          replace q162 := eq_true q162
          go_wp2_with (first | ((with_reducible refine gate_dst (N := 8) rfl ?_); (try (refine gate_guard (by rfl) ?_; dsimp only)); refine be_ #[.int .i64 0, .int .i64 0, .int .i64 0] 36 ?_; intro gb163 hg w16 hbox hb; have BK163 := Aside0.mk (hbox); have GW163 := gw_ hg; have GE163 := gw_ hg; replace HB := hb_ hb; clear hb hbox hg; have hcz17_0 := bc_ BK163 0 (.int .i64 0); have hcz17_1 := bc_ BK163 1 (.int .i64 0); have hcz17_2 := bc_ BK163 2 (.int .i64 0); have hfz17_0 := bz_ BK163 0; have hfz17_1 := bz_ BK163 1; have hfz17_2 := bz_ BK163 2))
          repeat (go_quiet (first | ((with_reducible refine gate_dst (N := 8) rfl ?_); (try (refine gate_guard (by rfl) ?_; dsimp only)); refine be_ #[.int .i64 0, .int .i64 0, .int .i64 0] 36 ?_; intro gb163 hg w16 hbox hb; have BK163 := Aside0.mk (hbox); have GW163 := gw_ hg; have GE163 := gw_ hg; replace HB := hb_ hb; clear hb hbox hg; have hcz17_0 := bc_ BK163 0 (.int .i64 0); have hcz17_1 := bc_ BK163 1 (.int .i64 0); have hcz17_2 := bc_ BK163 2 (.int .i64 0); have hfz17_0 := bz_ BK163 0; have hfz17_1 := bz_ BK163 1; have hfz17_2 := bz_ BK163 2)); try go_wp2_with (first | ((with_reducible refine gate_dst (N := 8) rfl ?_); (try (refine gate_guard (by rfl) ?_; dsimp only)); refine be_ #[.int .i64 0, .int .i64 0, .int .i64 0] 36 ?_; intro gb163 hg w16 hbox hb; have BK163 := Aside0.mk (hbox); have GW163 := gw_ hg; have GE163 := gw_ hg; replace HB := hb_ hb; clear hb hbox hg; have hcz17_0 := bc_ BK163 0 (.int .i64 0); have hcz17_1 := bc_ BK163 1 (.int .i64 0); have hcz17_2 := bc_ BK163 2 (.int .i64 0); have hfz17_0 := bz_ BK163 0; have hfz17_1 := bz_ BK163 1; have hfz17_2 := bz_ BK163 2)))
          go_ret2
          exact ⟨_, rfl, fun h0_ => absurd h0_ (by decide), bl_⟩
         ·rw [if_neg c15] at H
          have c15b0 : decide (a0 ≤ (ji14)) = false := decide_eq_false c15
          clear c15
          by_cases c18 : ((rd_T36 l1 x27_2).f0) = ((rd_T36 l1 x27_2).f1)
          ·rw [if_pos c18] at H
           have c18b0 : (((rd_T36 l1 x27_2).f0) == ((rd_T36 l1 x27_2).f1)) = true := beq_iff_eq.mpr c18
           have c18b1 : (((rd_T36 l1 x27_2).f0) != ((rd_T36 l1 x27_2).f1)) = false := bne_eq_false_iff_eq.mpr c18
           clear c18
           obtain rfl := Option.some.inj H
           have p162 : 0 ≤ (x27_2 : Int) := od_
           have q162 : x27_2 < (l1.length : Int) := od_
           obtain ⟨ad162, e162, hx162_0, hx162_1, hx162_2⟩ := at_T36 HR1.out x27_2 p162 q162
           cases e162
           replace hx162_0 := hc_ HB hx162_0
           replace hx162_1 := hc_ HB hx162_1
           replace hx162_2 := hc_ HB hx162_2
           replace p162 := eq_true p162
           replace q162 := eq_true q162
           go_wp2_with (first | ((with_reducible refine gate_dst (N := 8) rfl ?_); (try (refine gate_guard (by rfl) ?_; dsimp only)); refine be_ #[.int .i64 0, .int .i64 0, .int .i64 0] 36 ?_; intro gb163 hg w19 hbox hb; have BK163 := Aside0.mk (hbox); have GW163 := gw_ hg; have GE163 := gw_ hg; replace HB := hb_ hb; clear hb hbox hg; have hcz20_0 := bc_ BK163 0 (.int .i64 0); have hcz20_1 := bc_ BK163 1 (.int .i64 0); have hcz20_2 := bc_ BK163 2 (.int .i64 0); have hfz20_0 := bz_ BK163 0; have hfz20_1 := bz_ BK163 1; have hfz20_2 := bz_ BK163 2))
           repeat (go_quiet (first | ((with_reducible refine gate_dst (N := 8) rfl ?_); (try (refine gate_guard (by rfl) ?_; dsimp only)); refine be_ #[.int .i64 0, .int .i64 0, .int .i64 0] 36 ?_; intro gb163 hg w19 hbox hb; have BK163 := Aside0.mk (hbox); have GW163 := gw_ hg; have GE163 := gw_ hg; replace HB := hb_ hb; clear hb hbox hg; have hcz20_0 := bc_ BK163 0 (.int .i64 0); have hcz20_1 := bc_ BK163 1 (.int .i64 0); have hcz20_2 := bc_ BK163 2 (.int .i64 0); have hfz20_0 := bz_ BK163 0; have hfz20_1 := bz_ BK163 1; have hfz20_2 := bz_ BK163 2)); try go_wp2_with (first | ((with_reducible refine gate_dst (N := 8) rfl ?_); (try (refine gate_guard (by rfl) ?_; dsimp only)); refine be_ #[.int .i64 0, .int .i64 0, .int .i64 0] 36 ?_; intro gb163 hg w19 hbox hb; have BK163 := Aside0.mk (hbox); have GW163 := gw_ hg; have GE163 := gw_ hg; replace HB := hb_ hb; clear hb hbox hg; have hcz20_0 := bc_ BK163 0 (.int .i64 0); have hcz20_1 := bc_ BK163 1 (.int .i64 0); have hcz20_2 := bc_ BK163 2 (.int .i64 0); have hfz20_0 := bz_ BK163 0; have hfz20_1 := bz_ BK163 1; have hfz20_2 := bz_ BK163 2)))
           go_ret2
           exact ⟨_, rfl, fun h0_ => absurd h0_ (by decide), bl_⟩
          ·rw [if_neg c18] at H
           have c18b0 : (((rd_T36 l1 x27_2).f0) == ((rd_T36 l1 x27_2).f1)) = false := beq_eq_false_iff_ne.mpr c18
           have c18b1 : (((rd_T36 l1 x27_2).f0) != ((rd_T36 l1 x27_2).f1)) = true := bne_iff_ne.mpr c18
           by_cases c21 : ((rd_T36 l1 x27_2).f2) < 0
           ·rw [if_pos c21] at H
            have c21b0 : decide (((rd_T36 l1 x27_2).f2) < 0) = true := decide_eq_true c21
            clear c21
            obtain rfl := Option.some.inj H
            have p162 : 0 ≤ (x27_2 : Int) := od_
            have q162 : x27_2 < (l1.length : Int) := od_
            obtain ⟨ad162, e162, hx162_0, hx162_1, hx162_2⟩ := at_T36 HR1.out x27_2 p162 q162
            cases e162
            replace hx162_0 := hc_ HB hx162_0
            replace hx162_1 := hc_ HB hx162_1
            replace hx162_2 := hc_ HB hx162_2
            replace p162 := eq_true p162
            replace q162 := eq_true q162
            go_wp2_with (first | ((with_reducible refine gate_dst (N := 8) rfl ?_); (try (refine gate_guard (by rfl) ?_; dsimp only)); refine be_ #[.int .i64 0, .int .i64 0, .int .i64 0] 36 ?_; intro gb163 hg w22 hbox hb; have BK163 := Aside0.mk (hbox); have GW163 := gw_ hg; have GE163 := gw_ hg; replace HB := hb_ hb; clear hb hbox hg; have hcz23_0 := bc_ BK163 0 (.int .i64 0); have hcz23_1 := bc_ BK163 1 (.int .i64 0); have hcz23_2 := bc_ BK163 2 (.int .i64 0); have hfz23_0 := bz_ BK163 0; have hfz23_1 := bz_ BK163 1; have hfz23_2 := bz_ BK163 2))
            repeat (go_quiet (first | ((with_reducible refine gate_dst (N := 8) rfl ?_); (try (refine gate_guard (by rfl) ?_; dsimp only)); refine be_ #[.int .i64 0, .int .i64 0, .int .i64 0] 36 ?_; intro gb163 hg w22 hbox hb; have BK163 := Aside0.mk (hbox); have GW163 := gw_ hg; have GE163 := gw_ hg; replace HB := hb_ hb; clear hb hbox hg; have hcz23_0 := bc_ BK163 0 (.int .i64 0); have hcz23_1 := bc_ BK163 1 (.int .i64 0); have hcz23_2 := bc_ BK163 2 (.int .i64 0); have hfz23_0 := bz_ BK163 0; have hfz23_1 := bz_ BK163 1; have hfz23_2 := bz_ BK163 2)); try go_wp2_with (first | ((with_reducible refine gate_dst (N := 8) rfl ?_); (try (refine gate_guard (by rfl) ?_; dsimp only)); refine be_ #[.int .i64 0, .int .i64 0, .int .i64 0] 36 ?_; intro gb163 hg w22 hbox hb; have BK163 := Aside0.mk (hbox); have GW163 := gw_ hg; have GE163 := gw_ hg; replace HB := hb_ hb; clear hb hbox hg; have hcz23_0 := bc_ BK163 0 (.int .i64 0); have hcz23_1 := bc_ BK163 1 (.int .i64 0); have hcz23_2 := bc_ BK163 2 (.int .i64 0); have hfz23_0 := bz_ BK163 0; have hfz23_1 := bz_ BK163 1; have hfz23_2 := bz_ BK163 2)))
            go_ret2
            exact ⟨_, rfl, fun h0_ => absurd h0_ (by decide), bl_⟩
           ·rw [if_neg c21] at H
            have c21b0 : decide (((rd_T36 l1 x27_2).f2) < 0) = false := decide_eq_false c21
            clear c21
            by_cases c24 : ((rd_T36 l1 x27_2).f2) > 1000
            ·rw [if_pos c24] at H
             have c24b0 : decide (1000 < ((rd_T36 l1 x27_2).f2)) = true := decide_eq_true c24
             clear c24
             obtain rfl := Option.some.inj H
             have p162 : 0 ≤ (x27_2 : Int) := od_
             have q162 : x27_2 < (l1.length : Int) := od_
             obtain ⟨ad162, e162, hx162_0, hx162_1, hx162_2⟩ := at_T36 HR1.out x27_2 p162 q162
             cases e162
             replace hx162_0 := hc_ HB hx162_0
             replace hx162_1 := hc_ HB hx162_1
             replace hx162_2 := hc_ HB hx162_2
             replace p162 := eq_true p162
             replace q162 := eq_true q162
             go_wp2_with (first | ((with_reducible refine gate_dst (N := 8) rfl ?_); (try (refine gate_guard (by rfl) ?_; dsimp only)); refine be_ #[.int .i64 0, .int .i64 0, .int .i64 0] 36 ?_; intro gb163 hg w25 hbox hb; have BK163 := Aside0.mk (hbox); have GW163 := gw_ hg; have GE163 := gw_ hg; replace HB := hb_ hb; clear hb hbox hg; have hcz26_0 := bc_ BK163 0 (.int .i64 0); have hcz26_1 := bc_ BK163 1 (.int .i64 0); have hcz26_2 := bc_ BK163 2 (.int .i64 0); have hfz26_0 := bz_ BK163 0; have hfz26_1 := bz_ BK163 1; have hfz26_2 := bz_ BK163 2))
             repeat (go_quiet (first | ((with_reducible refine gate_dst (N := 8) rfl ?_); (try (refine gate_guard (by rfl) ?_; dsimp only)); refine be_ #[.int .i64 0, .int .i64 0, .int .i64 0] 36 ?_; intro gb163 hg w25 hbox hb; have BK163 := Aside0.mk (hbox); have GW163 := gw_ hg; have GE163 := gw_ hg; replace HB := hb_ hb; clear hb hbox hg; have hcz26_0 := bc_ BK163 0 (.int .i64 0); have hcz26_1 := bc_ BK163 1 (.int .i64 0); have hcz26_2 := bc_ BK163 2 (.int .i64 0); have hfz26_0 := bz_ BK163 0; have hfz26_1 := bz_ BK163 1; have hfz26_2 := bz_ BK163 2)); try go_wp2_with (first | ((with_reducible refine gate_dst (N := 8) rfl ?_); (try (refine gate_guard (by rfl) ?_; dsimp only)); refine be_ #[.int .i64 0, .int .i64 0, .int .i64 0] 36 ?_; intro gb163 hg w25 hbox hb; have BK163 := Aside0.mk (hbox); have GW163 := gw_ hg; have GE163 := gw_ hg; replace HB := hb_ hb; clear hb hbox hg; have hcz26_0 := bc_ BK163 0 (.int .i64 0); have hcz26_1 := bc_ BK163 1 (.int .i64 0); have hcz26_2 := bc_ BK163 2 (.int .i64 0); have hfz26_0 := bz_ BK163 0; have hfz26_1 := bz_ BK163 1; have hfz26_2 := bz_ BK163 2)))
             go_ret2
             exact ⟨_, rfl, fun h0_ => absurd h0_ (by decide), bl_⟩
            ·rw [if_neg c24] at H
             have c24b0 : decide (1000 < ((rd_T36 l1 x27_2).f2)) = false := decide_eq_false c24
             clear c24
             have H' := Aside0.mk H
             clear H
             have p162 : 0 ≤ (x27_2 : Int) := od_
             have q162 : x27_2 < (l1.length : Int) := od_
             obtain ⟨ad162, e162, hx162_0, hx162_1, hx162_2⟩ := at_T36 HR1.out x27_2 p162 q162
             cases e162
             replace hx162_0 := hc_ HB hx162_0
             replace hx162_1 := hc_ HB hx162_1
             replace hx162_2 := hc_ HB hx162_2
             replace p162 := eq_true p162
             replace q162 := eq_true q162
             go_wp2_with (first | ((with_reducible refine gate_dst (N := 8) rfl ?_); (try (refine gate_guard (by rfl) ?_; dsimp only)); refine be_ #[.int .i64 0, .int .i64 0, .int .i64 0] 36 ?_; intro gb163 hg w27 hbox hb; have BK163 := Aside0.mk (hbox); have GW163 := gw_ hg; have GE163 := gw_ hg; replace HB := hb_ hb; have HBr_ := Aside0.mk hb; have HGr_ := Aside0.mk (Nat.le_of_eq hg.symm); clear hb hbox hg; have hcz28_0 := bc_ BK163 0 (.int .i64 0); have hcz28_1 := bc_ BK163 1 (.int .i64 0); have hcz28_2 := bc_ BK163 2 (.int .i64 0); have hfz28_0 := bz_ BK163 0; have hfz28_1 := bz_ BK163 1; have hfz28_2 := bz_ BK163 2))
             have n0_ : Aside0 (Below wr.heap.size wr (((w27.setCell ⟨gb163, 0, none⟩ (.int .i64 ((rd_T36 l1 x27_2).f0))).setCell ⟨gb163, 1, none⟩ (.int .i64 ((rd_T36 l1 x27_2).f1))).setCell ⟨gb163, 2, none⟩ (.int .i64 ((rd_T36 l1 x27_2).f2)))) := ⟨below_set (below_set (below_set HBr_.out HGr_.out) HGr_.out) HGr_.out⟩
             have n1_ : Aside0 ((((w27.setCell ⟨gb163, 0, none⟩ (.int .i64 ((rd_T36 l1 x27_2).f0))).setCell ⟨gb163, 1, none⟩ (.int .i64 ((rd_T36 l1 x27_2).f1))).setCell ⟨gb163, 2, none⟩ (.int .i64 ((rd_T36 l1 x27_2).f2))).heap[gb163]? = some (.cells #[.int .i64 ((rd_T36 l1 x27_2).f0), .int .i64 ((rd_T36 l1 x27_2).f1), .int .i64 ((rd_T36 l1 x27_2).f2)] 36 (0, 0))) := ⟨by refine blk_put (cs := #[.int .i64 ((rd_T36 l1 x27_2).f0), .int .i64 ((rd_T36 l1 x27_2).f1), .int .i64 0]) ?_ 2 _ rfl; refine blk_put (cs := #[.int .i64 ((rd_T36 l1 x27_2).f0), .int .i64 0, .int .i64 0]) ?_ 1 _ rfl; refine blk_put (cs := #[.int .i64 0, .int .i64 0, .int .i64 0]) ?_ 0 _ rfl; exact BK163.out⟩
             have n2_ : Aside0 (Below w.heap.size w (((w27.setCell ⟨gb163, 0, none⟩ (.int .i64 ((rd_T36 l1 x27_2).f0))).setCell ⟨gb163, 1, none⟩ (.int .i64 ((rd_T36 l1 x27_2).f1))).setCell ⟨gb163, 2, none⟩ (.int .i64 ((rd_T36 l1 x27_2).f2)))) := ⟨bl_⟩
             (try clear HB)
             (try clear BK163)
             generalize (((w27.setCell ⟨gb163, 0, none⟩ (.int .i64 ((rd_T36 l1 x27_2).f0))).setCell ⟨gb163, 1, none⟩ (.int .i64 ((rd_T36 l1 x27_2).f1))).setCell ⟨gb163, 2, none⟩ (.int .i64 ((rd_T36 l1 x27_2).f2))) = ws_ at n0_ n1_ n2_ ⊢
             have BK163 := n1_
             have HB := n2_
             have HBS_ := n0_
             clear n0_ n1_ n2_ HBr_ HGr_
             have BKS_ := Aside0.mk (blk_below BKT.out HBS_.out)
             obtain ⟨n_, D_, hn_, hG_⟩ := HG.out
             have HGS_ := Aside0.mk (groups_below hG_ HBS_.out)
             clear hG_ HG
             have h7_ : a0 ≤ 7 := by have h_ := HA7.out; simpa using h_
             have c9_ : x27_2 < (l1.length : Int) := of_decide_eq_true c9b0
             have c6_ : ¬ (30 < (l1.length : Int)) := of_decide_eq_false HC6_.out
             have f1_ : 0 ≤ (rd_T36 l1 x27_2).f1 ∧ (rd_T36 l1 x27_2).f1 < 7 := by have a_ := of_decide_eq_false c11b0; have b_ := of_decide_eq_false c15b0; rw [← hji10_] at a_; rw [← hji14_] at b_; constructor <;> (split at a_ <;> split at b_ <;> omega)
             have hwf_ : (Lit.int .i64 ((rd_T36 l1 x27_2).f1)).wf = true := by simp only [Lit.wf, IntKind.min, IntKind.max, IntKind.signed, IntKind.bits, if_true]; simp; omega
             have hwx_ : (Lit.int .i64 x27_2).wf = true := by simp only [Lit.wf, IntKind.min, IntKind.max, IntKind.signed, IntKind.bits, if_true]; simp; omega
             obtain ⟨vl_, zs_, hlook_, hoi_, hzl_, hback_⟩ := look_same (Go.Maps.int_keyed Tryd.underlying3) Tryd.underlying74 zeroE_ HGS_.out (by unfold maxLen; omega) (Go.Maps.keyOf_int_mk Tryd.underlying3 hwf_)
             refine start_ (n := 17) (S := fun w' => w'.cell? ⟨gt, 2, none⟩ = some (.map (some gm)) ∧ w'.cell? ⟨gb163, 1, none⟩ = some (.int .i64 ((rd_T36 l1 x27_2).f1)) ∧ w'.heap[gm]? = ws_.heap[gm]?) (ds := [16]) #[false, false, false, false, false, false, false, false, false, false, false, false, false, false, false, false, false] (by kernel_rfl) rfl rfl ⟨(blk_cell BKS_.out 2).trans rfl, (blk_cell BK163.out 1).trans rfl, rfl⟩ (fun hHeld => ?_); refine with_tabW branch_read.tab11 branch_read.bits11 (fun HT_ HW_ => ?_)
             refine pu_ 0 64 HT_.out (h := ?_)
             refine pu_ 1 65 HT_.out (h := ?_)
             refine pu_ 2 66 HT_.out (h := ?_)
             refine pu_ 4 68 HT_.out (h := ?_)
             refine pu_ 6 70 HT_.out (h := ?_)
             refine pu_ 7 71 HT_.out (h := ?_)
             refine pu_ 8 72 HT_.out (h := ?_)
             refine pu_ 10 74 HT_.out (h := ?_)
             refine pu_ 13 77 HT_.out (h := ?_)
             refine ta_ 3 67 HT_.out HW_.out hHeld (h := ?_)
             refine ta_ 5 69 HT_.out HW_.out hHeld (h := ?_)
             refine ta_ 9 73 HT_.out HW_.out hHeld (h := ?_)
             refine ta_ 11 75 HT_.out HW_.out hHeld (h := ?_)
             refine ta_ 12 76 HT_.out HW_.out hHeld (v := vl_) (hy := Or.inl ⟨by rfl, by intro w' hs_; go_simp <;> rw [hlook_ w' hs_.2.2]⟩) (h := ?_)
             have hbl_ : Below ws_.heap.size ws_ (ws_.drew.alloc (.cells #[.int .i64 x27_2] 3)) := below_alloc (below_drew1 (Below.refl _ _)) _
             have hTl_ := blk_below BKS_.out hbl_
             have hBl_ := blk_below BK163.out hbl_
             have hol_ := ints_below hoi_ hbl_
             have hgl_ := groups_below HGS_.out hbl_
             have hlt_ := groups_lt HGS_.out
             have hnT_ := row_ne hol_.1 hTl_ (by decide)
             have hnB_ := row_ne hol_.1 hBl_ (by decide)
             have hnM_ : some gm ≠ vl_.ownBlock := fun e_ => by have := (hol_.1.lt gm e_.symm).1; omega
             have hgT_ : gt ≠ gm := groups_ne HGS_.out BKS_.out
             refine one_ (i := 14) (N := some 78) #[true, true, true, true, true, true, true, true, true, true, true, true, true, true, true, false, false] rfl rfl (one_of HT_.out (by kernel_rfl)) (by decide) (fun K hK => ?_)
             refine event_step (by rfl) (v := .slice (some ⟨ws_.drew.heap.size, 0, none⟩) 1 1) (w1 := ws_.drew.alloc (.cells #[.int .i64 x27_2] 3)) (by go_simp <;> first | exact ⟨rfl, rfl⟩ | rfl) ?_
             refine hK.out _ _ ⟨(blk_cell hTl_ 2).trans rfl, (blk_cell hBl_ 1).trans rfl, hbl_.block gm hlt_⟩ (fun hHeld => ?_)
             clear hK K
             refine np_ 78 (h := ?_)
             obtain ⟨va_, wa_, hra_, howa_, hga_, _, hloca_⟩ := run_append_own_at (P := Tryd.prog) (w := ws_.drew.alloc (.cells #[.int .i64 x27_2] 3)) (gm + 1) 29 29 3 i0 (.int .i64 0) 1 8 Tryd.underlying29 hi_ hz0 hz1 hz2 rfl (by decide) vl_ zs_.length (zs_.map (Value.int .i64)) hol_.1 ⟨ws_.drew.heap.size, 0, none⟩ 1 1 [.int .i64 x27_2] rfl (cell_one_new _ _ _) (ints_oneCell .i64 [x27_2]) (by unfold maxLen; omega) (by omega) (Nat.le_trans hlt_ hbl_.size)
             have hTa_ := blk_grown hTl_ hga_ hnT_
             have hBa_ := blk_grown hBl_ hga_ hnB_
             have hMa_ := (hga_.block gm (groups_lt hgl_) hnM_).trans (hbl_.block gm hlt_)
             refine one_ (i := 15) (N := some 79) #[true, true, true, true, true, true, true, true, true, true, true, true, true, true, true, true, false] rfl rfl (one_of HT_.out (by kernel_rfl)) (by decide) (fun K hK => ?_)
             refine event_step (by rfl) (v := va_) (w1 := wa_) (run_append_ rfl rfl rfl hra_) ?_
             refine hK.out _ _ ⟨(blk_cell hTa_ 2).trans rfl, (blk_cell hBa_ 1).trans rfl, hMa_⟩ (fun hHeld => ?_)
             clear hK K
             refine np_ 79 (h := ?_)
             have hgA_ := (grown_below vl_.ownBlock hbl_).trans hga_
             obtain ⟨wm_, hrm_, hGm_, hgm_⟩ := hback_ wa_ va_ (zs_ ++ [x27_2]) hgA_ (hol_.appended howa_ hwx_) (by simp; omega) (hloca_.imp id (fun h_ => ⟨_, h_, hbl_.size⟩))
             refine last_ (i := 16) (N := none) #[true, true, true, true, true, true, true, true, true, true, true, true, true, true, true, true, true] rfl rfl (one_of HT_.out (by kernel_rfl)) (by decide) (fun K hK => ?_)
             refine skip_ (w1 := wm_) (by rfl) rfl (run_update_ rfl rfl rfl rfl hrm_) ?_
             refine hK.out _ _ ?_
             clear hK K
             refine done_ (done_of HT_.out (by kernel_rfl)) ?_
             have hBm_ := RowKit.Below.groups HB.out hoi_ hgA_ hgm_ (below_size HB.out) (Nat.le_succ_of_le HGM0_.out) HGM0_.out
             have hTm_ := blk_grown hTa_ hgm_ (by intro e_; injection e_ with e_; exact hgT_ e_)
             have hw_ : wrap64 (x27_2 + 1) = x27_2 + 1 := by unfold wrap64; omega
             go_wp2
             go_roundg k2
             case measure => have := HJ2.out; have := HK2.out; omega
             case rel => exact ⟨(wrap64 (x27_2 + 1)), (by first | rfl | rw [hw_]), H', ⟨by have := HJ2.out; have := HK2.out; omega⟩, ⟨hBm_⟩, ⟨hTm_⟩, ⟨n_ + 1, _, by rw [hw_]; omega, hGm_⟩⟩
       ·rw [if_neg c7] at H
        have c7b0 : decide (x27_2 < (l1.length : Int)) = false := decide_eq_false c7
        clear c7
        obtain rfl := Option.some.inj H
        go_wp2
        repeat (go_quiet (fail); try go_wp2)
        go_ret2
        exact ⟨_, rfl, fun _ => ⟨gt, some gm, rfl, GT_.out, bk_ BKT.out⟩, bl_⟩

/-! ### branch_town_everybody: function 29 -/
def branch_town_everybody.f (a0 : Int) : Option (Int) := if 0 ≤ a0 then (some (wrap64 ((shl .i64 1 a0) - 1))) else (none)
set_option maxHeartbeats 8000000 in
set_option maxRecDepth 100000 in
theorem branch_town_everybody.calls (a0 : Int) (r : Int) (w : World) (gt : Nat) (A_ : Option Addr) (n_ c_ : Nat) (m_ : Option Nat) (ht : w.heap[gt]? = some (.cells #[.int .i64 a0, .slice A_ n_ c_, .map m_] 76 (0, 0))) (h : branch_town_everybody.f a0 = some r) :
    Calls Tryd.prog 29 #[.pointer (some ⟨gt, 0, none⟩)] w fun e w' => e = .returned (.int .i64 r) ∧ Drawn0 w w' := by
 have H : (if 0 ≤ a0 then (some (wrap64 ((shl .i64 1 a0) - 1))) else (none)) = some r := h
 clear h
 have c2 : 0 ≤ a0 := fl_ fun c2 => by rw [if_neg c2] at H; exact absurd H (by simp)
 rw [if_pos c2] at H
 have c2b0 := eq_true c2
 have c2b1 : decide (0 ≤ a0) = true := decide_eq_true c2
 clear c2
 obtain ⟨ji3, hji3⟩ : ∃ j_ : Int, (shl .i64 1 a0) = j_ := ⟨_, rfl⟩
 replace H : (some (wrap64 ((ji3) - 1))) = some r := by first | (rw [hji3] at H; exact H) | (simp only [hji3] at H ⊢; exact H)
 have hji3_ : (IntKind.i64.wrap (1 * 2 ^ min a0.toNat 64)) = ji3 := hji3
 have hji3z : a0 ≤ 64 → (IntKind.i64.wrap (1 * 2 ^ a0.toNat)) = ji3 := shl_small hji3
 have hji3u : (IntKind.i64.wrap (2 ^ min a0.toNat 64)) = ji3 := by have h_ := hji3_; rw [Int.one_mul] at h_; exact h_
 have hji3v : a0 ≤ 64 → (IntKind.i64.wrap (2 ^ a0.toNat)) = ji3 := fun hle_ => by have h_ := hji3z hle_; rw [Int.one_mul] at h_; exact h_
 have hji3y : (wrap64 (1 * 2 ^ min a0.toNat 64)) = ji3 := (i64_w _).symm.trans hji3_
 have hji3x : a0 ≤ 64 → (wrap64 (1 * 2 ^ a0.toNat)) = ji3 := fun h_ => (i64_w _).symm.trans (hji3z h_)
 obtain rfl := Option.some.inj H
 have hct0_ := bc_ (Aside0.mk ht) 0 (.int .i64 a0)
 go_enter Tryd.func29, Tryd.ntmps29
 go_wp2
 go_ret
 exact ⟨by first | rfl | (simp; done) | (simp only [← hji3] <;> (first | rfl | simp)) | (simp [*]; done), by repeat (first | exact Drawn0.refl _ | apply Drawn0.step)⟩

/-! ### branch_town_entering: function 30 -/
def branch_town_entering.l0 : Nat → Int → List Int → List (S36) → Int → Int → Option (List Int)
  | 0, _, _, _, _, _ => none
  | k + 1, x1, x5, x11, x12, x13 => if x13 < x12 then (if 0 ≤ x13 then (if x13 < (x11.length : Int) then (if 0 ≤ ((rd_T36 x11 x13).f0) then (if (Go.bits .and .i64 (shr .i64 x1 ((rd_T36 x11 x13).f0)) 1) = 0 then (if 0 ≤ ((rd_T36 x11 x13).f1) then (if (Go.bits .and .i64 (shr .i64 x1 ((rd_T36 x11 x13).f1)) 1) = 1 then (if x5.length < 17592186044416 then (branch_town_entering.l0 k x1 (x5 ++ [x13]) x11 x12 (wrap64 (x13 + 1))) else (none)) else (branch_town_entering.l0 k x1 x5 x11 x12 (wrap64 (x13 + 1)))) else (none)) else (branch_town_entering.l0 k x1 x5 x11 x12 (wrap64 (x13 + 1)))) else (none)) else (none)) else (none)) else (some x5)
def branch_town_entering.f (k : Nat) (l0 : List (S36)) (a1 : Int) : Option (List Int) := branch_town_entering.l0 k a1 ([] : List Int) l0 (l0.length : Int) 0
theorem branch_town_entering.mono_l : ∀ k, (∀ y0 y1 y2 y3 y4, LeO (branch_town_entering.l0 k y0 y1 y2 y3 y4) (branch_town_entering.l0 (k + 1) y0 y1 y2 y3 y4))
  | 0 => fun _ _ _ _ _ r h => by simp [branch_town_entering.l0] at h
  | k + 1 => by
    have ih0 := branch_town_entering.mono_l k
    · intro y0 y1 y2 y3 y4
      unfold branch_town_entering.l0
      with_reducible repeat' first | exact ih0 _ _ _ _ _ | exact LeO.refl _ | exact LeO.none _ | refine LeO.ite ?_ ?_ | refine LeO.bind ?_ (fun _ => ?_)
theorem branch_town_entering.mono : ∀ a0 a1 k, LeO (branch_town_entering.f k a0 a1) (branch_town_entering.f (k + 1) a0 a1) := by
  intro a0 a1 k
  have ih0 := branch_town_entering.mono_l k
  unfold branch_town_entering.f
  with_reducible repeat' first | exact ih0 _ _ _ _ _ | exact LeO.refl _ | exact LeO.none _ | refine LeO.ite ?_ ?_ | refine LeO.bind ?_ (fun _ => ?_)
set_option maxHeartbeats 8000000 in
set_option maxRecDepth 100000 in
theorem branch_town_entering.calls (k : Nat) (A0 : Option Addr) (c0 : Nat) (l0 : List (S36)) (a1 : Int) (r : List Int) (w : World) (hr0 : Kd.C k36 w A0 l0.length l0) (hc0 : l0.length ≤ c0) (gt : Nat) (a_ : Int) (m_ : Option Nat) (ht : w.heap[gt]? = some (.cells #[.int .i64 a_, .slice A0 l0.length c0, .map m_] 76 (0, 0))) (h : branch_town_entering.f k l0 a1 = some r) :
    Calls Tryd.prog 30 #[.pointer (some ⟨gt, 0, none⟩), .int .i64 a1] w fun e w' => ∃ v0_ : Value, e = .returned (v0_) ∧ Kd.R (Kd.int .i64) 3 w' w.heap.size (fun _ => True) v0_ r ∧ Below w.heap.size w w' := by
 have hu36 := Tryd.underlying36
 have HR0 := Aside0.mk hr0
 have HC0 := Aside0.mk hc0
 clear hr0 hc0
 have HB := Aside0.mk (Below.refl w.heap.size w)
 have H : (branch_town_entering.l0 k a1 ([] : List Int) l0 (l0.length : Int) 0) = some r := h
 clear h
 have H' := Aside0.mk H
 clear H
 have hct1_ := bc_ (Aside0.mk ht) 1 (.slice A0 l0.length c0)
 go_enter Tryd.func30, Tryd.ntmps30
 go_wp2
 go_loopg [5, 13] k (fun kq v5 v13 w' => ∃ (x5_1 : List Int) (x13_1 : Int), v13 = .int .i64 x13_1 ∧ Aside0 (branch_town_entering.l0 kq a1 x5_1 l0 (l0.length : Int) x13_1 = some r) ∧ Aside0 (kq ≤ k) ∧ Aside0 (Kd.R (Kd.int .i64) 3 w' w.heap.size (fun _ => True) v5 x5_1) ∧ Aside0 (Below w.heap.size w w'))
 case atStart => exact ⟨(([] : List Int)), (0), rs_, H', ⟨Nat.le_refl _⟩, ⟨by first | exact Kd.R_nil _ _ _ _ _ | exact Kd.N_nil _ _ _ _ _ | exact Kd.V_nil _ _ _ _ _ | exact Kd.Q_nil _ _ _ _ _ | exact Kd.S_nil _ _ _ _ _⟩, ⟨bl_⟩⟩
 case round =>
  clear H'
  try clear p2
  obtain ⟨x5_1, x13_1, rfl, HA, HK1, HO_5, HB⟩ := hrel
  cases gk with
  | zero => exact absurd HA.out (by simp [branch_town_entering.l0])
  | succ k1 =>
   have H := HA.out
   clear HA
   simp only [branch_town_entering.l0] at H
   by_cases c3 : x13_1 < (l0.length : Int)
   ·rw [if_pos c3] at H
    have c3b0 : decide (x13_1 < (l0.length : Int)) = true := decide_eq_true c3
    clear c3
    obtain ⟨c4b0, H⟩ := fp_ H
    obtain ⟨c5b0, H⟩ := fp_ H
    have c6 : 0 ≤ ((rd_T36 l0 x13_1).f0) := fl_ fun c6 => by rw [if_neg c6] at H; exact absurd H (by simp)
    rw [if_pos c6] at H
    have c6b0 := eq_true c6
    have c6b1 : decide (0 ≤ ((rd_T36 l0 x13_1).f0)) = true := decide_eq_true c6
    clear c6
    obtain ⟨ji7, hji7⟩ : ∃ j_ : Int, (shr .i64 a1 ((rd_T36 l0 x13_1).f0)) = j_ := ⟨_, rfl⟩
    replace H : (if (Go.bits .and .i64 (ji7) 1) = 0 then (if 0 ≤ ((rd_T36 l0 x13_1).f1) then (if (Go.bits .and .i64 (shr .i64 a1 ((rd_T36 l0 x13_1).f1)) 1) = 1 then (if x5_1.length < 17592186044416 then (branch_town_entering.l0 k1 a1 (x5_1 ++ [x13_1]) l0 (l0.length : Int) (wrap64 (x13_1 + 1))) else (none)) else (branch_town_entering.l0 k1 a1 x5_1 l0 (l0.length : Int) (wrap64 (x13_1 + 1)))) else (none)) else (branch_town_entering.l0 k1 a1 x5_1 l0 (l0.length : Int) (wrap64 (x13_1 + 1)))) = some r := by first | (rw [hji7] at H; exact H) | (simp only [hji7] at H ⊢; exact H)
    have hji7_ : (a1 / 2 ^ min ((rd_T36 l0 x13_1).f0).toNat 64) = ji7 := hji7
    have hji7z : ((rd_T36 l0 x13_1).f0) ≤ 64 → (a1 / 2 ^ ((rd_T36 l0 x13_1).f0).toNat) = ji7 := shr_small hji7
    by_cases c8 : (Go.bits .and .i64 (ji7) 1) = 0
    ·rw [if_pos c8] at H
     have c8b0 : ((Go.bits .and .i64 (ji7) 1) == 0) = true := beq_iff_eq.mpr c8
     have c8b1 : ((Go.bits .and .i64 (ji7) 1) != 0) = false := bne_eq_false_iff_eq.mpr c8
     clear c8
     have c9 : 0 ≤ ((rd_T36 l0 x13_1).f1) := fl_ fun c9 => by rw [if_neg c9] at H; exact absurd H (by simp)
     rw [if_pos c9] at H
     have c9b0 := eq_true c9
     have c9b1 : decide (0 ≤ ((rd_T36 l0 x13_1).f1)) = true := decide_eq_true c9
     clear c9
     obtain ⟨ji10, hji10⟩ : ∃ j_ : Int, (shr .i64 a1 ((rd_T36 l0 x13_1).f1)) = j_ := ⟨_, rfl⟩
     replace H : (if (Go.bits .and .i64 (ji10) 1) = 1 then (if x5_1.length < 17592186044416 then (branch_town_entering.l0 k1 a1 (x5_1 ++ [x13_1]) l0 (l0.length : Int) (wrap64 (x13_1 + 1))) else (none)) else (branch_town_entering.l0 k1 a1 x5_1 l0 (l0.length : Int) (wrap64 (x13_1 + 1)))) = some r := by first | (rw [hji10] at H; exact H) | (simp only [hji10] at H ⊢; exact H)
     have hji10_ : (a1 / 2 ^ min ((rd_T36 l0 x13_1).f1).toNat 64) = ji10 := hji10
     have hji10z : ((rd_T36 l0 x13_1).f1) ≤ 64 → (a1 / 2 ^ ((rd_T36 l0 x13_1).f1).toNat) = ji10 := shr_small hji10
     by_cases c11 : (Go.bits .and .i64 (ji10) 1) = 1
     ·rw [if_pos c11] at H
      have c11b0 : ((Go.bits .and .i64 (ji10) 1) == 1) = true := beq_iff_eq.mpr c11
      have c11b1 : ((Go.bits .and .i64 (ji10) 1) != 1) = false := bne_eq_false_iff_eq.mpr c11
      clear c11
      have c12 : x5_1.length < 17592186044416 := fl_ fun c12 => by rw [if_neg c12] at H; exact absurd H (by simp)
      rw [if_pos c12] at H
      have LMc12 := Aside0.mk c12
      clear c12
      obtain ⟨y166, hy166⟩ : ∃ y_ : List Int, y_ = (x5_1 ++ [x13_1]) := ⟨_, rfl⟩
      replace H : (branch_town_entering.l0 k1 a1 y166 l0 (l0.length : Int) (wrap64 (x13_1 + 1))) = some r := by first | (rw [hy166]; with_reducible exact H) | (have H2_ := (Option.bind_some _ _).symm.trans H; rw [hy166]; with_reducible exact H2_) | (have H2_ := (Option.bind_some _ _).symm.trans H; with_reducible exact H2_) | with_reducible exact H | (rw [hy166]; exact H) | exact H
      have Ny166 := Aside0.mk hy166
      clear hy166
      have H' := Aside0.mk H
      clear H
      have p164 : 0 ≤ (x13_1 : Int) := od_
      have q164 : x13_1 < (l0.length : Int) := od_
      obtain ⟨ad164, e164, hx164_0, hx164_1, hx164_2⟩ := at_T36 HR0.out x13_1 p164 q164
      cases e164
      replace hx164_0 := hc_ HB hx164_0
      replace hx164_1 := hc_ HB hx164_1
      replace hx164_2 := hc_ HB hx164_2
      replace p164 := eq_true p164
      replace q164 := eq_true q164
      go_wp2_with (first | ((with_reducible refine gate_dst (N := 7) rfl ?_); refine be_ #[.int .i64 0, .int .i64 0, .int .i64 0] 36 ?_; intro gb165 hg w13 hbox hb; replace HO_5 := rb_ HO_5 hb; have BK165 := Aside0.mk (hbox); have GW165 := gw_ hg; have GE165 := gw_ hg; replace HB := hb_ hb; clear hb hbox hg; have hcz14_0 := bc_ BK165 0 (.int .i64 0); have hcz14_1 := bc_ BK165 1 (.int .i64 0); have hcz14_2 := bc_ BK165 2 (.int .i64 0); have hfz14_0 := bz_ BK165 0; have hfz14_1 := bz_ BK165 1; have hfz14_2 := bz_ BK165 2) | ((with_reducible refine gate_builtin (b := .append) (xs := #[.tmp 32, .tmp 34]) rfl ?_); at_builtin; refine Kd.R_append (Kd.int .i64) (w0 := w) w.heap.size rfl (.tmp 32) (.tmp 34) 29 3 (.int .i64 0) 8 rfl Tryd.underlying29 info3 rfl (by decide) (by omega) u5 x5_1 x13_1 [.int .i64 x13_1] (fun _ => True) (fun _ => False) rfl (by first | (go_simp; done) | (go_simp; rfl)) ?aP (fun _ hk => hk.elim) ?aF ?aO ?aB ?aS ?aL ?_; (case aP => exact rfl); (case aB => exact (bl_)); (case aF => exact (fun _ _ => trivial)); (case aO => exact (by refine kr_ ?_; exact Kd.R_mono (Kd.R_far (p := ⟨gb165, 2, none⟩) (Kd.R_far (p := ⟨gb165, 1, none⟩) (Kd.R_far (p := ⟨gb165, 0, none⟩) (Kd.R_types HO_5.out BK165.out (by decide)) (fun _ hk => hk.2) (.int .i64 ((rd_T36 l0 x13_1).f0))) (fun _ hk => hk.2) (.int .i64 ((rd_T36 l0 x13_1).f1))) (fun _ hk => hk.2) (.int .i64 ((rd_T36 l0 x13_1).f2))) (fun _ hk => trivial))); (case aS => exact (below_size (bl_))); (case aL => have := LMc12.out; omega); intro v167 w15 ho hb hg hat; rw [← Ny166.out] at ho; replace BK165 := Aside0.mk (blk_grown (g := gb165) (o := .cells #[.int .i64 ((rd_T36 l0 x13_1).f0), .int .i64 ((rd_T36 l0 x13_1).f1), .int .i64 ((rd_T36 l0 x13_1).f2)] 36 (0, 0)) (by refine bk_ ?_; refine blk_put (cs := #[.int .i64 ((rd_T36 l0 x13_1).f0), .int .i64 ((rd_T36 l0 x13_1).f1), .int .i64 0]) ?_ 2 _ rfl; refine bk_ ?_; refine blk_put (cs := #[.int .i64 ((rd_T36 l0 x13_1).f0), .int .i64 0, .int .i64 0]) ?_ 1 _ rfl; refine bk_ ?_; refine blk_put (cs := #[.int .i64 0, .int .i64 0, .int .i64 0]) ?_ 0 _ rfl; refine bk_ ?_; exact BK165.out) hg (Kd.R_ne HO_5.out BK165.out (by decide))); replace HB := Aside0.mk (hb); have HO168 := Aside0.mk (ho); clear HO_5; clear ho hb hg hat))
      go_roundg k1
      case measure => have := HK1.out; omega
      case rel => exact ⟨(y166), (wrap64 (x13_1 + 1)), rs_, H', ⟨by have := HK1.out; omega⟩, ⟨kr_ HO168.out⟩, ⟨bl_⟩⟩
     ·rw [if_neg c11] at H
      have c11b0 : ((Go.bits .and .i64 (ji10) 1) == 1) = false := beq_eq_false_iff_ne.mpr c11
      have c11b1 : ((Go.bits .and .i64 (ji10) 1) != 1) = true := bne_iff_ne.mpr c11
      have H' := Aside0.mk H
      clear H
      have p164 : 0 ≤ (x13_1 : Int) := od_
      have q164 : x13_1 < (l0.length : Int) := od_
      obtain ⟨ad164, e164, hx164_0, hx164_1, hx164_2⟩ := at_T36 HR0.out x13_1 p164 q164
      cases e164
      replace hx164_0 := hc_ HB hx164_0
      replace hx164_1 := hc_ HB hx164_1
      replace hx164_2 := hc_ HB hx164_2
      replace p164 := eq_true p164
      replace q164 := eq_true q164
      go_wp2_with (first | ((with_reducible refine gate_dst (N := 7) rfl ?_); refine be_ #[.int .i64 0, .int .i64 0, .int .i64 0] 36 ?_; intro gb165 hg w16 hbox hb; replace HO_5 := rb_ HO_5 hb; have BK165 := Aside0.mk (hbox); have GW165 := gw_ hg; have GE165 := gw_ hg; replace HB := hb_ hb; clear hb hbox hg; have hcz17_0 := bc_ BK165 0 (.int .i64 0); have hcz17_1 := bc_ BK165 1 (.int .i64 0); have hcz17_2 := bc_ BK165 2 (.int .i64 0); have hfz17_0 := bz_ BK165 0; have hfz17_1 := bz_ BK165 1; have hfz17_2 := bz_ BK165 2))
      go_roundg k1
      case measure => have := HK1.out; omega
      case rel => exact ⟨(x5_1), (wrap64 (x13_1 + 1)), rs_, H', ⟨by have := HK1.out; omega⟩, ⟨by refine kr_ ?_; exact Kd.R_mono (Kd.R_far (p := ⟨gb165, 2, none⟩) (Kd.R_far (p := ⟨gb165, 1, none⟩) (Kd.R_far (p := ⟨gb165, 0, none⟩) (Kd.R_types HO_5.out BK165.out (by decide)) (fun _ hk => hk.2) (.int .i64 ((rd_T36 l0 x13_1).f0))) (fun _ hk => hk.2) (.int .i64 ((rd_T36 l0 x13_1).f1))) (fun _ hk => hk.2) (.int .i64 ((rd_T36 l0 x13_1).f2))) (fun _ hk => trivial)⟩, ⟨bl_⟩⟩
    ·rw [if_neg c8] at H
     have c8b0 : ((Go.bits .and .i64 (ji7) 1) == 0) = false := beq_eq_false_iff_ne.mpr c8
     have c8b1 : ((Go.bits .and .i64 (ji7) 1) != 0) = true := bne_iff_ne.mpr c8
     have H' := Aside0.mk H
     clear H
     have p164 : 0 ≤ (x13_1 : Int) := od_
     have q164 : x13_1 < (l0.length : Int) := od_
     obtain ⟨ad164, e164, hx164_0, hx164_1, hx164_2⟩ := at_T36 HR0.out x13_1 p164 q164
     cases e164
     replace hx164_0 := hc_ HB hx164_0
     replace hx164_1 := hc_ HB hx164_1
     replace hx164_2 := hc_ HB hx164_2
     replace p164 := eq_true p164
     replace q164 := eq_true q164
     go_wp2_with (first | ((with_reducible refine gate_dst (N := 7) rfl ?_); refine be_ #[.int .i64 0, .int .i64 0, .int .i64 0] 36 ?_; intro gb165 hg w18 hbox hb; replace HO_5 := rb_ HO_5 hb; have BK165 := Aside0.mk (hbox); have GW165 := gw_ hg; have GE165 := gw_ hg; replace HB := hb_ hb; clear hb hbox hg; have hcz19_0 := bc_ BK165 0 (.int .i64 0); have hcz19_1 := bc_ BK165 1 (.int .i64 0); have hcz19_2 := bc_ BK165 2 (.int .i64 0); have hfz19_0 := bz_ BK165 0; have hfz19_1 := bz_ BK165 1; have hfz19_2 := bz_ BK165 2))
     go_roundg k1
     case measure => have := HK1.out; omega
     case rel => exact ⟨(x5_1), (wrap64 (x13_1 + 1)), rs_, H', ⟨by have := HK1.out; omega⟩, ⟨by refine kr_ ?_; exact Kd.R_mono (Kd.R_far (p := ⟨gb165, 2, none⟩) (Kd.R_far (p := ⟨gb165, 1, none⟩) (Kd.R_far (p := ⟨gb165, 0, none⟩) (Kd.R_types HO_5.out BK165.out (by decide)) (fun _ hk => hk.2) (.int .i64 ((rd_T36 l0 x13_1).f0))) (fun _ hk => hk.2) (.int .i64 ((rd_T36 l0 x13_1).f1))) (fun _ hk => hk.2) (.int .i64 ((rd_T36 l0 x13_1).f2))) (fun _ hk => trivial)⟩, ⟨bl_⟩⟩
   ·rw [if_neg c3] at H
    have c3b0 : decide (x13_1 < (l0.length : Int)) = false := decide_eq_false c3
    clear c3
    obtain rfl := Option.some.inj H
    go_wp2
    go_ret
    exact ⟨_, er_, by refine kr_ ?_; exact HO_5.out, bl_⟩

/-! ### branch_town_narrow: function 17 -/
mutual
def branch_town_narrow.l0 : Nat → Int → List (S36) → Int → Int → Int → Option (Int × Int)
  | 0, _, _, _, _, _ => none
  | k + 1, x0, x1, x6, x7, x8 => (branch_town_everybody.f x0).bind fun t169 => (if x8 ≤ t169 then ((branch_town_entering.f k x1 x8).bind fun t170 => (branch_town_narrow.l1 k x0 x1 x6 x7 x8 0 t170 (t170.length : Int) 0)) else (some (x6, x7)))
def branch_town_narrow.l1 : Nat → Int → List (S36) → Int → Int → Int → Int → List Int → Int → Int → Option (Int × Int)
  | 0, _, _, _, _, _, _, _, _, _ => none
  | k + 1, x0, x1, x6, x7, x8, x9, x20, x21, x22 => if x22 < x21 then (if 0 ≤ x22 then (if x22 < (x20.length : Int) then (branch_town_narrow.l1 k x0 x1 x6 x7 x8 (wrap64 (x9 + 1)) x20 x21 (wrap64 (x22 + 1))) else (none)) else (none)) else (if x6 < 0 then (branch_town_narrow.l0 k x0 x1 x9 x8 (wrap64 (x8 + 2))) else (if x9 < x6 then (branch_town_narrow.l0 k x0 x1 x9 x8 (wrap64 (x8 + 2))) else (branch_town_narrow.l0 k x0 x1 x6 x7 (wrap64 (x8 + 2)))))
end
def branch_town_narrow.f (k : Nat) (a0 : Int) (l1 : List (S36)) : Option (Int × Int) := branch_town_narrow.l0 k a0 l1 (-1) 0 2
theorem branch_town_narrow.mono_l : ∀ k, (∀ y0 y1 y2 y3 y4, LeO (branch_town_narrow.l0 k y0 y1 y2 y3 y4) (branch_town_narrow.l0 (k + 1) y0 y1 y2 y3 y4)) ∧ (∀ y0 y1 y2 y3 y4 y5 y6 y7 y8, LeO (branch_town_narrow.l1 k y0 y1 y2 y3 y4 y5 y6 y7 y8) (branch_town_narrow.l1 (k + 1) y0 y1 y2 y3 y4 y5 y6 y7 y8))
  | 0 => ⟨fun _ _ _ _ _ r h => by simp [branch_town_narrow.l0] at h, fun _ _ _ _ _ _ _ _ _ r h => by simp [branch_town_narrow.l1] at h⟩
  | k + 1 => by
    obtain ⟨ih0, ih1⟩ := branch_town_narrow.mono_l k
    refine ⟨?_, ?_⟩
    · intro y0 y1 y2 y3 y4
      unfold branch_town_narrow.l0
      with_reducible repeat' first | exact ih0 _ _ _ _ _ | exact ih1 _ _ _ _ _ _ _ _ _ | exact branch_town_entering.mono _ _ _ | exact LeO.refl _ | exact LeO.none _ | refine LeO.ite ?_ ?_ | refine LeO.bind ?_ (fun _ => ?_)
    · intro y0 y1 y2 y3 y4 y5 y6 y7 y8
      unfold branch_town_narrow.l1
      with_reducible repeat' first | exact ih0 _ _ _ _ _ | exact ih1 _ _ _ _ _ _ _ _ _ | exact branch_town_entering.mono _ _ _ | exact LeO.refl _ | exact LeO.none _ | refine LeO.ite ?_ ?_ | refine LeO.bind ?_ (fun _ => ?_)
theorem branch_town_narrow.mono : ∀ a0 a1 k, LeO (branch_town_narrow.f k a0 a1) (branch_town_narrow.f (k + 1) a0 a1) := by
  intro a0 a1 k
  obtain ⟨ih0, ih1⟩ := branch_town_narrow.mono_l k
  unfold branch_town_narrow.f
  with_reducible repeat' first | exact ih0 _ _ _ _ _ | exact ih1 _ _ _ _ _ _ _ _ _ | exact branch_town_entering.mono _ _ _ | exact LeO.refl _ | exact LeO.none _ | refine LeO.ite ?_ ?_ | refine LeO.bind ?_ (fun _ => ?_)
set_option maxHeartbeats 8000000 in
set_option maxRecDepth 100000 in
theorem branch_town_narrow.calls (k : Nat) (a0 : Int) (A1 : Option Addr) (c1 : Nat) (l1 : List (S36)) (r1 : Int) (r2 : Int) (w : World) (hr1 : Kd.C k36 w A1 l1.length l1) (hc1 : l1.length ≤ c1) (gt : Nat) (m_ : Option Nat) (ht : w.heap[gt]? = some (.cells #[.int .i64 a0, .slice A1 l1.length c1, .map m_] 76 (0, 0))) (h : branch_town_narrow.f k a0 l1 = some (r1, r2)) :
    Calls Tryd.prog 17 #[.pointer (some ⟨gt, 0, none⟩), .map none] w fun e w' => e = .returned (.tuple #[.int .i64 r1, .int .i64 r2]) ∧ Below w.heap.size w w' := by
 have HR1 := Aside0.mk hr1
 have HC1 := Aside0.mk hc1
 clear hr1 hc1
 have HB := Aside0.mk (Below.refl w.heap.size w)
 have H : (branch_town_narrow.l0 k a0 l1 (-1) 0 2) = some (r1, r2) := h
 clear h
 have H' := Aside0.mk H
 clear H
 have hlk_ := look_nil_
 go_enter Tryd.func17, Tryd.ntmps17
 go_wp2
 go_loopg [6, 7, 8] k (fun kq v6 v7 v8 w' => ∃ (x6_1 : Int) (x7_1 : Int) (x8_1 : Int), v6 = .int .i64 x6_1 ∧ v7 = .int .i64 x7_1 ∧ v8 = .int .i64 x8_1 ∧ Aside0 (branch_town_narrow.l0 kq a0 l1 x6_1 x7_1 x8_1 = some (r1, r2)) ∧ Aside0 (kq ≤ k) ∧ Aside0 (Below w.heap.size w w'))
 case atStart => exact ⟨((-1)), (0), (2), rs_, rs_, rs_, H', ⟨Nat.le_refl _⟩, ⟨bl_⟩⟩
 case round =>
  clear H'
  try clear c1
  try clear p2
  obtain ⟨x6_1, x7_1, x8_1, rfl, rfl, rfl, HA, HK1, HB⟩ := hrel
  cases gk with
  | zero => exact absurd HA.out (by simp [branch_town_narrow.l0])
  | succ k1 =>
   have H := HA.out
   clear HA
   simp only [branch_town_narrow.l0] at H
   obtain ⟨t169, A3, H⟩ := bi_ H
   replace H : (if x8_1 ≤ t169 then ((branch_town_entering.f k1 l1 x8_1).bind fun t170 => (branch_town_narrow.l1 k1 a0 l1 x6_1 x7_1 x8_1 0 t170 (t170.length : Int) 0)) else (some (x6_1, x7_1))) = some (r1, r2) := H
   by_cases c4 : x8_1 ≤ t169
   ·rw [if_pos c4] at H
    have c4b0 : decide (x8_1 ≤ t169) = true := decide_eq_true c4
    clear c4
    obtain ⟨t170, A5, H⟩ := bi_ H
    replace H : (branch_town_narrow.l1 k1 a0 l1 x6_1 x7_1 x8_1 0 t170 (t170.length : Int) 0) = some (r1, r2) := H
    have H' := Aside0.mk H
    clear H
    go_wp2_with (first | ((with_reducible refine gate_callee (f := 29) rfl ?_); refine goesL_ (some 14) rfl rfl Tryd.func29 (by kernel_rfl) rfl #[.pointer (some ⟨gt, 0, none⟩)] rfl (as_) ?_; (with_reducible refine (branch_town_everybody.calls a0 t169 _ gt _ _ _ _ (tw_ ht) A3.out).mono ?_); rintro e w' ⟨rfl, ⟨nd, rfl⟩⟩; refine ⟨_, rfl, ?_⟩) | ((with_reducible refine gate_callee (f := 30) rfl ?_); refine goesL_ (some 20) rfl rfl Tryd.func30 (by kernel_rfl) rfl #[.pointer (some ⟨gt, 0, none⟩), .int .i64 x8_1] rfl (as_) ?_; (with_reducible refine (branch_town_entering.calls k1 _ _ l1 x8_1 t170 _ ?side1 ?side2 gt _ _ (tw_ ht) A5.out).mono ?_); (case side1 => repeat (first | exact (Kd.C_below HR1.out (bl_)) | (with_reducible refine Kd.C_alloc ?_ _) | (with_reducible refine Kd.C_drewN ?_ _) | (with_reducible refine Kd.C_drew ?_))); (case side2 => exact HC1.out); rintro e w6 ⟨v171, rfl, ho0, hb⟩; refine ⟨_, rfl, ?_⟩; have HO172 := rl_ ho0; replace HB := hb_ hb; clear hb ho0; obtain ⟨Ao7, co7, eo7⟩ := Kd.R_slice HO172.out; subst eo7))
    go_loopg [9, 22] k1 (fun kq v9 v22 w' => ∃ (x9_2 : Int) (x22_2 : Int), v9 = .int .i64 x9_2 ∧ v22 = .int .i64 x22_2 ∧ Aside0 (branch_town_narrow.l1 kq a0 l1 x6_1 x7_1 x8_1 x9_2 t170 (t170.length : Int) x22_2 = some (r1, r2)) ∧ Aside0 (kq ≤ k1) ∧ Aside0 (Kd.R (Kd.int .i64) 3 w' w.heap.size (fun _ => True) (.slice Ao7 t170.length co7) t170) ∧ Aside0 (Below w.heap.size w w'))
    case atStart => exact ⟨(0), (0), rs_, rs_, H', ⟨Nat.le_refl _⟩, ⟨kr_ HO172.out⟩, ⟨bl_⟩⟩
    case round =>
     clear H'
     try clear c1
     try clear c2
     try clear p2
     try clear c3
     try clear c4
     try clear c4b0
     try clear p2
     obtain ⟨x9_2, x22_2, rfl, rfl, HA, HK2, HO_20, HB⟩ := hrel
     cases gk with
     | zero => exact absurd HA.out (by simp [branch_town_narrow.l1])
     | succ k2 =>
      have H := HA.out
      clear HA
      simp only [branch_town_narrow.l1] at H
      by_cases c8 : x22_2 < (t170.length : Int)
      ·rw [if_pos c8] at H
       have c8b0 : decide (x22_2 < (t170.length : Int)) = true := decide_eq_true c8
       clear c8
       obtain ⟨c9b0, H⟩ := fp_ H
       obtain ⟨c10b0, H⟩ := fp_ H
       have H' := Aside0.mk H
       clear H
       obtain ⟨ad173, e173, hx173_0, p173, q173⟩ := ai_ (Kd.R_reads' HO_20.out).2.2 x22_2
       cases e173
       go_wp2
       go_roundg k2
       case measure => have := HK1.out; have := HK2.out; omega
       case rel => exact ⟨(wrap64 (x9_2 + 1)), (wrap64 (x22_2 + 1)), rs_, rs_, H', ⟨by have := HK1.out; have := HK2.out; omega⟩, ⟨kr_ HO_20.out⟩, ⟨bl_⟩⟩
      ·rw [if_neg c8] at H
       have c8b0 : decide (x22_2 < (t170.length : Int)) = false := decide_eq_false c8
       clear c8
       by_cases c11 : x6_1 < 0
       ·rw [if_pos c11] at H
        have c11b0 : decide (x6_1 < 0) = true := decide_eq_true c11
        clear c11
        have H' := Aside0.mk H
        clear H
        go_wp2
        go_roundg k2
        case measure => have := HK1.out; have := HK2.out; omega
        case rel => exact ⟨(x9_2), (x8_1), (wrap64 (x8_1 + 2)), rs_, rs_, rs_, H', ⟨by have := HK1.out; have := HK2.out; omega⟩, ⟨bl_⟩⟩
       ·rw [if_neg c11] at H
        have c11b0 : decide (x6_1 < 0) = false := decide_eq_false c11
        clear c11
        by_cases c12 : x9_2 < x6_1
        ·rw [if_pos c12] at H
         have c12b0 : decide (x9_2 < x6_1) = true := decide_eq_true c12
         clear c12
         have H' := Aside0.mk H
         clear H
         go_wp2
         go_roundg k2
         case measure => have := HK1.out; have := HK2.out; omega
         case rel => exact ⟨(x9_2), (x8_1), (wrap64 (x8_1 + 2)), rs_, rs_, rs_, H', ⟨by have := HK1.out; have := HK2.out; omega⟩, ⟨bl_⟩⟩
        ·rw [if_neg c12] at H
         have c12b0 : decide (x9_2 < x6_1) = false := decide_eq_false c12
         clear c12
         have H' := Aside0.mk H
         clear H
         go_wp2
         go_roundg k2
         case measure => have := HK1.out; have := HK2.out; omega
         case rel => exact ⟨(x6_1), (x7_1), (wrap64 (x8_1 + 2)), rs_, rs_, rs_, H', ⟨by have := HK1.out; have := HK2.out; omega⟩, ⟨bl_⟩⟩
   ·rw [if_neg c4] at H
    have c4b0 : decide (x8_1 ≤ t169) = false := decide_eq_false c4
    clear c4
    simp only [Option.some.injEq, Prod.mk.injEq] at H
    obtain ⟨rfl, rfl⟩ := H
    go_wp2_with (first | ((with_reducible refine gate_callee (f := 29) rfl ?_); refine goesL_ (some 14) rfl rfl Tryd.func29 (by kernel_rfl) rfl #[.pointer (some ⟨gt, 0, none⟩)] rfl (as_) ?_; (with_reducible refine (branch_town_everybody.calls a0 t169 _ gt _ _ _ _ (tw_ ht) A3.out).mono ?_); rintro e w' ⟨rfl, ⟨nd, rfl⟩⟩; refine ⟨_, rfl, ?_⟩))
    go_ret2
    exact ⟨er_, bl_⟩

/-! ### branch_Narrow: function 9 -/
def branch_Narrow.f (k : Nat) (a0 : Int) (l1 : List (S36)) : Option (Int × Int × Int) := (branch_read.f k a0 l1).bind fun t174 => (if t174 = 0 then ((branch_town_narrow.f k a0 l1).bind fun bt175 => (some (bt175.1, bt175.2, 0))) else (some (0, 0, t174)))
theorem branch_Narrow.mono : ∀ a0 a1 k, LeO (branch_Narrow.f k a0 a1) (branch_Narrow.f (k + 1) a0 a1) := by
  intro a0 a1 k
  unfold branch_Narrow.f
  with_reducible repeat' first | exact branch_read.mono _ _ _ | exact branch_town_narrow.mono _ _ _ | exact LeO.refl _ | exact LeO.none _ | refine LeO.ite ?_ ?_ | refine LeO.bind ?_ (fun _ => ?_)
set_option maxHeartbeats 8000000 in
set_option maxRecDepth 100000 in
theorem branch_Narrow.calls (k : Nat) (a0 : Int) (A1 : Option Addr) (c1 : Nat) (l1 : List (S36)) (r1 : Int) (r2 : Int) (r3 : Int) (w : World) (hr1 : Kd.C k36 w A1 l1.length l1) (hc1 : l1.length ≤ c1) (h : branch_Narrow.f k a0 l1 = some (r1, r2, r3)) :
    Calls Tryd.prog 9 #[.int .i64 a0, .slice A1 l1.length c1] w fun e w' => e = .returned (.tuple #[.int .i64 r1, .int .i64 r2, .int .i64 r3]) ∧ Below w.heap.size w w' := by
 have HR1 := Aside0.mk hr1
 have HC1 := Aside0.mk hc1
 clear hr1 hc1
 have HB := Aside0.mk (Below.refl w.heap.size w)
 have H : ((branch_read.f k a0 l1).bind fun t174 => (if t174 = 0 then ((branch_town_narrow.f k a0 l1).bind fun bt175 => (some (bt175.1, bt175.2, 0))) else (some (0, 0, t174)))) = some (r1, r2, r3) := h
 clear h
 obtain ⟨t174, A3, H⟩ := bi_ H
 replace H : (if t174 = 0 then ((branch_town_narrow.f k a0 l1).bind fun bt175 => (some (bt175.1, bt175.2, 0))) else (some (0, 0, t174))) = some (r1, r2, r3) := H
 by_cases c4 : t174 = 0
 ·rw [if_pos c4] at H
  have c4b0 : (t174 == 0) = true := beq_iff_eq.mpr c4
  have c4b1 : (t174 != 0) = false := bne_eq_false_iff_eq.mpr c4
  clear c4
  obtain ⟨⟨t175, t176⟩, A5, H⟩ := bi_ H
  replace H : (some (t175, t176, 0)) = some (r1, r2, r3) := H
  simp only [Option.some.injEq, Prod.mk.injEq] at H
  obtain ⟨rfl, rfl, rfl⟩ := H
  go_enter Tryd.func9, Tryd.ntmps9
  go_wp2_with (first | ((with_reducible refine gate_callee (f := 16) rfl ?_); refine goesL_ (some 14) rfl rfl Tryd.func16 (by kernel_rfl) rfl #[.int .i64 a0, .slice A1 l1.length c1] rfl (as_) ?_; (with_reducible refine (branch_read.calls k a0 _ _ l1 t174 _ ?side1 ?side2 A3.out).mono ?_); (case side1 => repeat (first | exact HR1.out | (with_reducible refine Kd.C_alloc ?_ _) | (with_reducible refine Kd.C_drewN ?_ _) | (with_reducible refine Kd.C_drew ?_))); (case side2 => exact HC1.out); rintro e w6 ⟨vt_, rfl, ht_, hb⟩; obtain ⟨gt_, mt_, rfl, hg_, hbox_⟩ := ht_ (beq_iff_eq.mp c4b0); refine ⟨_, rfl, ?_⟩; have BKT := Aside0.mk hbox_; replace HB := hb_ hb; clear hb ht_ hg_ hbox_) | ((with_reducible refine gate_callee (f := 17) rfl ?_); refine goesL_ (some 22) rfl rfl Tryd.func17 (by kernel_rfl) rfl #[.pointer (some ⟨gt_, 0, none⟩), .map none] rfl (as_) ?_; (with_reducible refine (branch_town_narrow.calls k a0 _ _ l1 t175 t176 _ ?side1 ?side2 gt_ _ (bk_ BKT.out) A5.out).mono ?_); (case side1 => exact cb_ HR1.out); (case side2 => exact HC1.out); rintro e w7 ⟨rfl, hb⟩; refine ⟨_, rfl, ?_⟩; replace HB := hb_ hb; clear hb))
  go_ret3
  exact ⟨er_, bl_⟩
 ·rw [if_neg c4] at H
  have c4b0 : (t174 == 0) = false := beq_eq_false_iff_ne.mpr c4
  have c4b1 : (t174 != 0) = true := bne_iff_ne.mpr c4
  simp only [Option.some.injEq, Prod.mk.injEq] at H
  obtain ⟨rfl, rfl, rfl⟩ := H
  go_enter Tryd.func9, Tryd.ntmps9
  go_wp2_with (first | ((with_reducible refine gate_callee (f := 16) rfl ?_); refine goesL_ (some 14) rfl rfl Tryd.func16 (by kernel_rfl) rfl #[.int .i64 a0, .slice A1 l1.length c1] rfl (as_) ?_; (with_reducible refine (branch_read.calls k a0 _ _ l1 t174 _ ?side1 ?side2 A3.out).mono ?_); (case side1 => repeat (first | exact HR1.out | (with_reducible refine Kd.C_alloc ?_ _) | (with_reducible refine Kd.C_drewN ?_ _) | (with_reducible refine Kd.C_drew ?_))); (case side2 => exact HC1.out); rintro e w8 ⟨vt_, rfl, ht_, hb⟩; refine ⟨_, rfl, ?_⟩; replace HB := hb_ hb; clear hb))
  go_ret3
  exact ⟨er_, bl_⟩

end Go.Proofs.YtlcgoacmlbeliaaDoor.P
