-- Written by wip/tools/myprint.py of this session's repo, over the kit's printer and hand texts.
import Derived.Test.YtlcgoacmlbeliaaPx0
import Derived.Test.YtlcgoacmlbeliaaPre
namespace Go.Proofs.Ytlcgoacmlbeliaa.P
open Go.RowKit Go.Proofs.YtlcgoacmlbeliaaW.PrintWords Go.Proofs.YtlcgoacmlbeliaaW.PrintLast Go.Proofs.YtlcgoacmlbeliaaW.PrintMore
attribute [local go_sem] max2_int min2_int max_two min_two max_three min_three max_four min_four   -- for this text's walks alone
set_option linter.unusedVariables false
set_option linter.unusedSimpArgs false

/-! ### oneway_read: function 9 -/
mutual
def oneway_read.j0 : Nat → Int → List (S37) → Bool → Option (Int × (List (S37)) × Int)
  | 0, _, _, _ => none
  | k + 1, x0, x1, x8 => if x8 = true then (some (0, ([] : List (S37)), 2)) else (if (x1.length : Int) > 14 then (some (0, ([] : List (S37)), 3)) else (oneway_read.l0 k x0 x1 x1 (x1.length : Int) 0))
def oneway_read.l0 : Nat → Int → List (S37) → List (S37) → Int → Int → Option (Int × (List (S37)) × Int)
  | 0, _, _, _, _, _ => none
  | k + 1, x0, x1, x21, x22, x23 => if x23 < x22 then (if 0 ≤ x23 then (if x23 < (x21.length : Int) then (if (mn ((rd_T37 x21 x23).f0) ((rd_T37 x21 x23).f1)) < 0 then (some (0, ([] : List (S37)), 2)) else (if (mx ((rd_T37 x21 x23).f0) ((rd_T37 x21 x23).f1)) ≥ x0 then (some (0, ([] : List (S37)), 2)) else (if ((rd_T37 x21 x23).f0) = ((rd_T37 x21 x23).f1) then (some (0, ([] : List (S37)), 2)) else (oneway_read.l0 k x0 x1 x21 x22 (wrap64 (x23 + 1)))))) else (none)) else (none)) else (some (x0, x1, 0))
end
def oneway_read.f (k : Nat) (a0 : Int) (l1 : List (S37)) : Option (Int × (List (S37)) × Int) := if a0 < 1 then (oneway_read.j0 k a0 l1 true) else (oneway_read.j0 k a0 l1 (decide (a0 > 7)))
theorem oneway_read.mono_l : ∀ k, (∀ y0 y1 y2, LeO (oneway_read.j0 k y0 y1 y2) (oneway_read.j0 (k + 1) y0 y1 y2)) ∧ (∀ y0 y1 y2 y3 y4, LeO (oneway_read.l0 k y0 y1 y2 y3 y4) (oneway_read.l0 (k + 1) y0 y1 y2 y3 y4))
  | 0 => ⟨fun _ _ _ r h => by simp [oneway_read.j0] at h, fun _ _ _ _ _ r h => by simp [oneway_read.l0] at h⟩
  | k + 1 => by
    obtain ⟨ih0, ih1⟩ := oneway_read.mono_l k
    refine ⟨?_, ?_⟩
    · intro y0 y1 y2
      unfold oneway_read.j0
      with_reducible repeat' first | exact ih0 _ _ _ | exact ih1 _ _ _ _ _ | exact LeO.refl _ | exact LeO.none _ | refine LeO.ite ?_ ?_ | refine LeO.bind ?_ (fun _ => ?_)
    · intro y0 y1 y2 y3 y4
      unfold oneway_read.l0
      with_reducible repeat' first | exact ih0 _ _ _ | exact ih1 _ _ _ _ _ | exact LeO.refl _ | exact LeO.none _ | refine LeO.ite ?_ ?_ | refine LeO.bind ?_ (fun _ => ?_)
theorem oneway_read.mono : ∀ a0 a1 k, LeO (oneway_read.f k a0 a1) (oneway_read.f (k + 1) a0 a1) := by
  intro a0 a1 k
  obtain ⟨ih0, ih1⟩ := oneway_read.mono_l k
  unfold oneway_read.f
  with_reducible repeat' first | exact ih0 _ _ _ | exact ih1 _ _ _ _ _ | exact LeO.refl _ | exact LeO.none _ | refine LeO.ite ?_ ?_ | refine LeO.bind ?_ (fun _ => ?_)
set_option maxHeartbeats 8000000 in
set_option maxRecDepth 100000 in
theorem oneway_read.calls (k : Nat) (a0 : Int) (P1_ : Nat → Prop) (A1 : Option Addr) (c1 : Nat) (l1 : List (S37)) (r1 : Int) (r2 : List (S37)) (r3 : Int) (w : World) (hs1 : Kd.V k37 37 w w.heap.size (fun k_ => P1_ k_) (.slice A1 l1.length c1) l1) (h : oneway_read.f k a0 l1 = some (r1, r2, r3)) :
    Calls Try.prog 9 #[.int .i64 a0, .slice A1 l1.length c1] w fun e w' => ∃ v1_ : Value, e = .returned (.tuple #[.agg #[.int .i64 r1, v1_], .int .i64 r3]) ∧ Kd.V k37 37 w' w.heap.size (fun k_ => (P1_ k_ ∨ w.heap.size ≤ k_)) v1_ r2 ∧ Below w.heap.size w w' := by
 have hu39 := Try.underlying39
 have hu37 := Try.underlying37
 have HO1 := Aside0.mk (show Kd.V k37 37 w w.heap.size (fun k_ => (P1_ k_ ∨ w.heap.size ≤ k_)) (.slice A1 l1.length c1) l1 from Kd.V_mono hs1 (fun k_ hk => .inl hk))
 have HB := Aside0.mk (Below.refl w.heap.size w)
 have H : (if a0 < 1 then (oneway_read.j0 k a0 l1 true) else (oneway_read.j0 k a0 l1 (decide (a0 > 7)))) = some (r1, r2, r3) := h
 clear h
 have HC3 := Aside0.mk H
 clear H
 go_enter Try.func9, Try.ntmps9
 go_upto_region 1 with (first | ((with_reducible refine gate_dst (N := 4) rfl ?_); (try (refine gate_guard (by rfl) ?_; dsimp only)); refine be_ #[.int .i64 0, .slice none 0 0] 39 ?_; intro gb101 hg w4 hbox hb; replace HO1 := ve_ HO1 hg hb; have BK101 := Aside0.mk (hbox); have GW101 := gw_ hg; have GE101 := gw_ hg; replace HB := hb_ hb; clear hb hbox hg))
 (try simp only [Act.put, List.setIfInBounds_toArray, List.set_cons_zero, List.set_cons_succ])
 go_cut [8] (fun v8 wc => ∃ (kq : Nat) (x8_2 : Bool), v8 = .bool x8_2 ∧ Aside0 (oneway_read.j0 kq a0 l1 x8_2 = some (r1, r2, r3)) ∧ Aside0 (kq ≤ k) ∧ Aside0 (Kd.V k37 37 wc w.heap.size (fun k_ => (P1_ k_ ∨ w.heap.size ≤ k_) ∧ k_ ≠ gb101) (.slice A1 l1.length c1) l1) ∧ Aside0 (wc.heap[gb101]? = some (.cells #[.int .i64 0, (.slice none 0 0)] 39 (0, 0))) ∧ Aside0 (Below w.heap.size w wc))
 case first =>
  have H := HC3.out
  clear HC3
  by_cases c5 : a0 < 1
  ·rw [if_pos c5] at H
   have c5b0 : decide (a0 < 1) = true := decide_eq_true c5
   clear c5
   (first | rw [c5b0] | (simp only [i64_w, i32_w]; rw [c5b0]) | skip)
   have H' := Aside0.mk H
   clear H
   go_wp2
   go_meet
   case rel => exact ⟨_, (true), rs_, H', ⟨by first | omega | exact Nat.le_refl _⟩, ⟨kv_ HO1.out⟩, ⟨bk_ BK101.out⟩, ⟨bl_⟩⟩
  ·rw [if_neg c5] at H
   have c5b0 : decide (a0 < 1) = false := decide_eq_false c5
   clear c5
   (first | rw [c5b0] | (simp only [i64_w, i32_w]; rw [c5b0]) | skip)
   have H' := Aside0.mk H
   clear H
   go_wp2
   go_meet
   case rel => exact ⟨_, (decide (a0 > 7)), rs_, H', ⟨by first | omega | exact Nat.le_refl _⟩, ⟨kv_ HO1.out⟩, ⟨bk_ BK101.out⟩, ⟨bl_⟩⟩
 case rest =>
  clear HC3
  try clear c1
  try clear p2
  try clear c5
  try clear c5b0
  obtain ⟨kq, x8_2, rfl, HA, HJ2, HO_1, BK101, HB⟩ := hcut
  cases kq with
  | zero => exact absurd HA.out (by simp [oneway_read.j0])
  | succ kj2 =>
   have H := HA.out
   clear HA
   simp only [oneway_read.j0] at H
   by_cases c6 : x8_2 = true
   ·subst c6
    have H1 : (some (0, ([] : List (S37)), 2)) = some (r1, r2, r3) := by rw [if_pos rfl] at H; exact H
    clear H
    have H := H1
    clear H1
    simp only [Option.some.injEq, Prod.mk.injEq] at H
    obtain ⟨rfl, rfl, rfl⟩ := H
    have hcz7_0 := bc_ BK101 0 (.int .i64 0)
    have hcz7_1 := bc_ BK101 1 (.slice none 0 0)
    have hfz7_0 := bz_ BK101 0
    have hfz7_1 := bz_ BK101 1
    go_wp2
    refine bodyPost_ret (results_ct rfl _ _ gb101 39 #[.int .i64 0, .slice none 0 0] (0, 0) _ rfl (by refine bk_ ?_; refine blk_put (cs := #[.int .i64 0, .slice none 0 0]) ?_ 1 _ rfl; refine bk_ ?_; refine blk_put (cs := #[.int .i64 0, .slice none 0 0]) ?_ 0 _ rfl; refine bk_ ?_; exact BK101.out) Try.underlying39 rfl (by kernel_rfl)) rfl ?_
    exact ⟨_, er_, Kd.V_nil _ _ _ _ _, bl_⟩
   ·replace c6 := Bool.eq_false_iff.mpr c6
    subst c6
    have H1 : (if (l1.length : Int) > 14 then (some (0, ([] : List (S37)), 3)) else (oneway_read.l0 kj2 a0 l1 l1 (l1.length : Int) 0)) = some (r1, r2, r3) := by rw [if_neg (show ¬ (false = true) by decide)] at H; exact H
    clear H
    have H := H1
    clear H1
    by_cases c8 : (l1.length : Int) > 14
    ·rw [if_pos c8] at H
     have c8b0 : decide (14 < (l1.length : Int)) = true := decide_eq_true c8
     have c8b1 : decide (14 < l1.length) = true := decide_eq_true (by omega)
     clear c8
     simp only [Option.some.injEq, Prod.mk.injEq] at H
     obtain ⟨rfl, rfl, rfl⟩ := H
     have hcz9_0 := bc_ BK101 0 (.int .i64 0)
     have hcz9_1 := bc_ BK101 1 (.slice none 0 0)
     have hfz9_0 := bz_ BK101 0
     have hfz9_1 := bz_ BK101 1
     go_wp2
     refine bodyPost_ret (results_ct rfl _ _ gb101 39 #[.int .i64 0, .slice none 0 0] (0, 0) _ rfl (by refine bk_ ?_; refine blk_put (cs := #[.int .i64 0, .slice none 0 0]) ?_ 1 _ rfl; refine bk_ ?_; refine blk_put (cs := #[.int .i64 0, .slice none 0 0]) ?_ 0 _ rfl; refine bk_ ?_; exact BK101.out) Try.underlying39 rfl (by kernel_rfl)) rfl ?_
     exact ⟨_, er_, Kd.V_nil _ _ _ _ _, bl_⟩
    ·rw [if_neg c8] at H
     have c8b0 : decide (14 < (l1.length : Int)) = false := decide_eq_false c8
     have c8b1 : decide (14 < l1.length) = false := decide_eq_false (by omega)
     clear c8
     have H' := Aside0.mk H
     clear H
     go_wp2
     go_loopg [23] kj2 (fun kq v23 w' => ∃ (x23_2 : Int) (x102000_2 : Int), v23 = .int .i64 x23_2 ∧ Aside0 (oneway_read.l0 kq a0 l1 l1 (l1.length : Int) x23_2 = some (r1, r2, r3)) ∧ Aside0 (kq ≤ kj2) ∧ Aside0 (Kd.V k37 37 w' w.heap.size (fun k_ => (P1_ k_ ∨ w.heap.size ≤ k_) ∧ k_ ≠ gb101) (.slice A1 l1.length c1) l1) ∧ Aside0 (Kd.V k37 37 w' w.heap.size (fun k_ => (P1_ k_ ∨ w.heap.size ≤ k_) ∧ k_ ≠ gb101) (.slice A1 l1.length c1) l1) ∧ Aside0 (w'.heap[gb101]? = some (.cells #[.int .i64 x102000_2, (.slice none 0 0)] 39 (0, 0))) ∧ Aside0 (Below w.heap.size w w'))
     case atStart => exact ⟨(0), (0), rs_, H', ⟨Nat.le_refl _⟩, ⟨kv_ HO_1.out⟩, ⟨kv_ HO_1.out⟩, ⟨bk_ BK101.out⟩, ⟨bl_⟩⟩
     case round =>
      clear H'
      try clear c1
      try clear p2
      try clear c5
      try clear c5b0
      try clear c6
      try clear c8
      try clear c8b0
      try clear c8b1
      try clear c9
      try clear hcz7_0
      try clear hcz7_1
      try clear hcz9_0
      try clear hcz9_1
      try clear hfz7_0
      try clear hfz7_1
      try clear hfz9_0
      try clear hfz9_1
      try clear p2
      obtain ⟨x23_2, x102000_2, rfl, HA, HK2, HO_1, HO_21, BK101, HB⟩ := hrel
      cases gk with
      | zero => exact absurd HA.out (by simp [oneway_read.l0])
      | succ k2 =>
       have H := HA.out
       clear HA
       simp only [oneway_read.l0] at H
       by_cases c10 : x23_2 < (l1.length : Int)
       ·rw [if_pos c10] at H
        have c10b0 : decide (x23_2 < (l1.length : Int)) = true := decide_eq_true c10
        clear c10
        obtain ⟨c11b0, H⟩ := fp_ H
        obtain ⟨c12b0, H⟩ := fp_ H
        obtain ⟨ji13, hji13⟩ : ∃ j_ : Int, (mn ((rd_T37 l1 x23_2).f0) ((rd_T37 l1 x23_2).f1)) = j_ := ⟨_, rfl⟩
        replace H : (if (ji13) < 0 then (some (0, ([] : List (S37)), 2)) else (if (mx ((rd_T37 l1 x23_2).f0) ((rd_T37 l1 x23_2).f1)) ≥ a0 then (some (0, ([] : List (S37)), 2)) else (if ((rd_T37 l1 x23_2).f0) = ((rd_T37 l1 x23_2).f1) then (some (0, ([] : List (S37)), 2)) else (oneway_read.l0 k2 a0 l1 l1 (l1.length : Int) (wrap64 (x23_2 + 1)))))) = some (r1, r2, r3) := by first | (rw [hji13] at H; exact H) | (simp only [hji13] at H ⊢; exact H)
        have hji13_ : (if ((rd_T37 l1 x23_2).f1) < ((rd_T37 l1 x23_2).f0) then ((rd_T37 l1 x23_2).f1) else ((rd_T37 l1 x23_2).f0)) = ji13 := hji13
        by_cases c14 : (ji13) < 0
        ·rw [if_pos c14] at H
         have c14b0 : decide ((ji13) < 0) = true := decide_eq_true c14
         clear c14
         simp only [Option.some.injEq, Prod.mk.injEq] at H
         obtain ⟨rfl, rfl, rfl⟩ := H
         have p102 : 0 ≤ (x23_2 : Int) := od_
         have q102 : x23_2 < (l1.length : Int) := od_
         obtain ⟨ad102, e102, hx102_0, hx102_1⟩ := at_T37 (Kd.V_reads' HO_21.out).2.2 x23_2 p102 q102
         cases e102
         replace p102 := eq_true p102
         replace q102 := eq_true q102
         go_wp2_with (first | ((with_reducible refine gate_dst (N := 7) rfl ?_); (try (refine gate_guard (by rfl) ?_; dsimp only)); refine be_ #[.int .i64 0, .int .i64 0] 37 ?_; intro gb103 hg w15 hbox hb; replace HO_1 := ve_ HO_1 hg hb; replace HO_21 := ve_ HO_21 hg hb; have BK103 := Aside0.mk (hbox); have GW103 := gw_ hg; have GE103 := gw_ hg; replace HB := hb_ hb; have NB101_103 := nl_ hg BK101; have NB103_101 := sy_ NB101_103; replace BK101 := bb_ BK101 hb; clear hb hbox hg; have hnb16 := NB103_101.out; have hnc16 := NB101_103.out; have hcz17_0 := bc_ BK103 0 (.int .i64 0); have hcz17_1 := bc_ BK103 1 (.int .i64 0); have hfz17_0 := bz_ BK103 0; have hfz17_1 := bz_ BK103 1; have hcz18_0 := bc_ BK101 0 (.int .i64 x102000_2); have hcz18_1 := bc_ BK101 1 (.slice none 0 0); have hfz18_0 := bz_ BK101 0; have hfz18_1 := bz_ BK101 1))
         refine bodyPost_ret (results_ct rfl _ _ gb101 39 #[.int .i64 0, .slice none 0 0] (0, 0) _ rfl (by refine bk_ ?_; refine blk_put (cs := #[.int .i64 0, .slice none 0 0]) ?_ 1 _ rfl; refine bk_ ?_; refine blk_put (cs := #[.int .i64 x102000_2, .slice none 0 0]) ?_ 0 _ rfl; refine bk_ ?_; refine blk_far ?_ NB101_103.out _; refine bk_ ?_; refine blk_far ?_ NB101_103.out _; refine bk_ ?_; exact BK101.out) Try.underlying39 rfl (by kernel_rfl)) rfl ?_
         exact ⟨_, by first | rfl | (simp [errW_none, errW_some] <;> rfl) | (simp only [← hji13]; first | rfl | (simp [errW_none, errW_some] <;> rfl)) | (simp [*, errW_none, errW_some] <;> rfl), Kd.V_nil _ _ _ _ _, bl_⟩
        ·rw [if_neg c14] at H
         have c14b0 : decide ((ji13) < 0) = false := decide_eq_false c14
         clear c14
         obtain ⟨ji19, hji19⟩ : ∃ j_ : Int, (mx ((rd_T37 l1 x23_2).f0) ((rd_T37 l1 x23_2).f1)) = j_ := ⟨_, rfl⟩
         replace H : (if (ji19) ≥ a0 then (some (0, ([] : List (S37)), 2)) else (if ((rd_T37 l1 x23_2).f0) = ((rd_T37 l1 x23_2).f1) then (some (0, ([] : List (S37)), 2)) else (oneway_read.l0 k2 a0 l1 l1 (l1.length : Int) (wrap64 (x23_2 + 1))))) = some (r1, r2, r3) := by first | (rw [hji19] at H; exact H) | (simp only [hji19] at H ⊢; exact H)
         have hji19_ : (if ((rd_T37 l1 x23_2).f0) < ((rd_T37 l1 x23_2).f1) then ((rd_T37 l1 x23_2).f1) else ((rd_T37 l1 x23_2).f0)) = ji19 := hji19
         by_cases c20 : (ji19) ≥ a0
         ·rw [if_pos c20] at H
          have c20b0 : decide (a0 ≤ (ji19)) = true := decide_eq_true c20
          clear c20
          simp only [Option.some.injEq, Prod.mk.injEq] at H
          obtain ⟨rfl, rfl, rfl⟩ := H
          have p102 : 0 ≤ (x23_2 : Int) := od_
          have q102 : x23_2 < (l1.length : Int) := od_
          obtain ⟨ad102, e102, hx102_0, hx102_1⟩ := at_T37 (Kd.V_reads' HO_21.out).2.2 x23_2 p102 q102
          cases e102
          replace p102 := eq_true p102
          replace q102 := eq_true q102
          go_wp2_with (first | ((with_reducible refine gate_dst (N := 7) rfl ?_); (try (refine gate_guard (by rfl) ?_; dsimp only)); refine be_ #[.int .i64 0, .int .i64 0] 37 ?_; intro gb103 hg w21 hbox hb; replace HO_1 := ve_ HO_1 hg hb; replace HO_21 := ve_ HO_21 hg hb; have BK103 := Aside0.mk (hbox); have GW103 := gw_ hg; have GE103 := gw_ hg; replace HB := hb_ hb; have NB101_103 := nl_ hg BK101; have NB103_101 := sy_ NB101_103; replace BK101 := bb_ BK101 hb; clear hb hbox hg; have hnb22 := NB103_101.out; have hnc22 := NB101_103.out; have hcz23_0 := bc_ BK103 0 (.int .i64 0); have hcz23_1 := bc_ BK103 1 (.int .i64 0); have hfz23_0 := bz_ BK103 0; have hfz23_1 := bz_ BK103 1; have hcz24_0 := bc_ BK101 0 (.int .i64 x102000_2); have hcz24_1 := bc_ BK101 1 (.slice none 0 0); have hfz24_0 := bz_ BK101 0; have hfz24_1 := bz_ BK101 1))
          refine bodyPost_ret (results_ct rfl _ _ gb101 39 #[.int .i64 0, .slice none 0 0] (0, 0) _ rfl (by refine bk_ ?_; refine blk_put (cs := #[.int .i64 0, .slice none 0 0]) ?_ 1 _ rfl; refine bk_ ?_; refine blk_put (cs := #[.int .i64 x102000_2, .slice none 0 0]) ?_ 0 _ rfl; refine bk_ ?_; refine blk_far ?_ NB101_103.out _; refine bk_ ?_; refine blk_far ?_ NB101_103.out _; refine bk_ ?_; exact BK101.out) Try.underlying39 rfl (by kernel_rfl)) rfl ?_
          exact ⟨_, by first | rfl | (simp [errW_none, errW_some] <;> rfl) | (simp only [← hji13, ← hji19]; first | rfl | (simp [errW_none, errW_some] <;> rfl)) | (simp [*, errW_none, errW_some] <;> rfl), Kd.V_nil _ _ _ _ _, bl_⟩
         ·rw [if_neg c20] at H
          have c20b0 : decide (a0 ≤ (ji19)) = false := decide_eq_false c20
          clear c20
          by_cases c25 : ((rd_T37 l1 x23_2).f0) = ((rd_T37 l1 x23_2).f1)
          ·rw [if_pos c25] at H
           have c25b0 : (((rd_T37 l1 x23_2).f0) == ((rd_T37 l1 x23_2).f1)) = true := beq_iff_eq.mpr c25
           have c25b1 : (((rd_T37 l1 x23_2).f0) != ((rd_T37 l1 x23_2).f1)) = false := bne_eq_false_iff_eq.mpr c25
           clear c25
           simp only [Option.some.injEq, Prod.mk.injEq] at H
           obtain ⟨rfl, rfl, rfl⟩ := H
           have p102 : 0 ≤ (x23_2 : Int) := od_
           have q102 : x23_2 < (l1.length : Int) := od_
           obtain ⟨ad102, e102, hx102_0, hx102_1⟩ := at_T37 (Kd.V_reads' HO_21.out).2.2 x23_2 p102 q102
           cases e102
           replace p102 := eq_true p102
           replace q102 := eq_true q102
           go_wp2_with (first | ((with_reducible refine gate_dst (N := 7) rfl ?_); (try (refine gate_guard (by rfl) ?_; dsimp only)); refine be_ #[.int .i64 0, .int .i64 0] 37 ?_; intro gb103 hg w26 hbox hb; replace HO_1 := ve_ HO_1 hg hb; replace HO_21 := ve_ HO_21 hg hb; have BK103 := Aside0.mk (hbox); have GW103 := gw_ hg; have GE103 := gw_ hg; replace HB := hb_ hb; have NB101_103 := nl_ hg BK101; have NB103_101 := sy_ NB101_103; replace BK101 := bb_ BK101 hb; clear hb hbox hg; have hnb27 := NB103_101.out; have hnc27 := NB101_103.out; have hcz28_0 := bc_ BK103 0 (.int .i64 0); have hcz28_1 := bc_ BK103 1 (.int .i64 0); have hfz28_0 := bz_ BK103 0; have hfz28_1 := bz_ BK103 1; have hcz29_0 := bc_ BK101 0 (.int .i64 x102000_2); have hcz29_1 := bc_ BK101 1 (.slice none 0 0); have hfz29_0 := bz_ BK101 0; have hfz29_1 := bz_ BK101 1))
           refine bodyPost_ret (results_ct rfl _ _ gb101 39 #[.int .i64 0, .slice none 0 0] (0, 0) _ rfl (by refine bk_ ?_; refine blk_put (cs := #[.int .i64 0, .slice none 0 0]) ?_ 1 _ rfl; refine bk_ ?_; refine blk_put (cs := #[.int .i64 x102000_2, .slice none 0 0]) ?_ 0 _ rfl; refine bk_ ?_; refine blk_far ?_ NB101_103.out _; refine bk_ ?_; refine blk_far ?_ NB101_103.out _; refine bk_ ?_; exact BK101.out) Try.underlying39 rfl (by kernel_rfl)) rfl ?_
           exact ⟨_, by first | rfl | (simp [errW_none, errW_some] <;> rfl) | (simp only [← hji13, ← hji19]; first | rfl | (simp [errW_none, errW_some] <;> rfl)) | (simp [*, errW_none, errW_some] <;> rfl), Kd.V_nil _ _ _ _ _, bl_⟩
          ·rw [if_neg c25] at H
           have c25b0 : (((rd_T37 l1 x23_2).f0) == ((rd_T37 l1 x23_2).f1)) = false := beq_eq_false_iff_ne.mpr c25
           have c25b1 : (((rd_T37 l1 x23_2).f0) != ((rd_T37 l1 x23_2).f1)) = true := bne_iff_ne.mpr c25
           have H' := Aside0.mk H
           clear H
           have p102 : 0 ≤ (x23_2 : Int) := od_
           have q102 : x23_2 < (l1.length : Int) := od_
           obtain ⟨ad102, e102, hx102_0, hx102_1⟩ := at_T37 (Kd.V_reads' HO_21.out).2.2 x23_2 p102 q102
           cases e102
           replace p102 := eq_true p102
           replace q102 := eq_true q102
           go_wp2_with (first | ((with_reducible refine gate_dst (N := 7) rfl ?_); (try (refine gate_guard (by rfl) ?_; dsimp only)); refine be_ #[.int .i64 0, .int .i64 0] 37 ?_; intro gb103 hg w30 hbox hb; replace HO_1 := ve_ HO_1 hg hb; replace HO_21 := ve_ HO_21 hg hb; have BK103 := Aside0.mk (hbox); have GW103 := gw_ hg; have GE103 := gw_ hg; replace HB := hb_ hb; have NB101_103 := nl_ hg BK101; have NB103_101 := sy_ NB101_103; replace BK101 := bb_ BK101 hb; clear hb hbox hg; have hnb31 := NB103_101.out; have hnc31 := NB101_103.out; have hcz32_0 := bc_ BK103 0 (.int .i64 0); have hcz32_1 := bc_ BK103 1 (.int .i64 0); have hfz32_0 := bz_ BK103 0; have hfz32_1 := bz_ BK103 1))
           go_roundg k2
           case measure => have := HJ2.out; have := HK2.out; omega
           case rel => exact ⟨(wrap64 (x23_2 + 1)), (x102000_2), rs_, H', ⟨by have := HJ2.out; have := HK2.out; omega⟩, ⟨by refine kv_ ?_; exact Kd.V_mono (Kd.V_far (p := ⟨gb103, 1, none⟩) (Kd.V_far (p := ⟨gb103, 0, none⟩) (Kd.V_mono HO_1.out (fun k_ hk => (⟨hk, hk.2⟩ : _ ∧ k_ ≠ gb103))) (fun _ hk => hk.2) (.int .i64 ((rd_T37 l1 x23_2).f0))) (fun _ hk => hk.2) (.int .i64 ((rd_T37 l1 x23_2).f1))) (fun _ hk => ⟨hk.1.1.1, hk.1.1.2⟩)⟩, ⟨by refine kv_ ?_; exact Kd.V_mono (Kd.V_far (p := ⟨gb103, 1, none⟩) (Kd.V_far (p := ⟨gb103, 0, none⟩) (Kd.V_mono HO_21.out (fun k_ hk => (⟨hk, hk.2⟩ : _ ∧ k_ ≠ gb103))) (fun _ hk => hk.2) (.int .i64 ((rd_T37 l1 x23_2).f0))) (fun _ hk => hk.2) (.int .i64 ((rd_T37 l1 x23_2).f1))) (fun _ hk => ⟨hk.1.1.1, hk.1.1.2⟩)⟩, ⟨by refine bk_ ?_; refine blk_far ?_ NB101_103.out _; refine bk_ ?_; refine blk_far ?_ NB101_103.out _; refine bk_ ?_; exact BK101.out⟩, ⟨bl_⟩⟩
       ·rw [if_neg c10] at H
        have c10b0 : decide (x23_2 < (l1.length : Int)) = false := decide_eq_false c10
        clear c10
        simp only [Option.some.injEq, Prod.mk.injEq] at H
        obtain ⟨rfl, rfl, rfl⟩ := H
        have hcz33_0 := bc_ BK101 0 (.int .i64 x102000_2)
        have hcz33_1 := bc_ BK101 1 (.slice none 0 0)
        have hfz33_0 := bz_ BK101 0
        have hfz33_1 := bz_ BK101 1
        go_wp2
        refine bodyPost_ret (results_ct rfl _ _ gb101 39 #[.int .i64 a0, .slice A1 l1.length c1] (0, 0) _ rfl (by refine bk_ ?_; refine blk_put (cs := #[.int .i64 a0, .slice none 0 0]) ?_ 1 _ rfl; refine bk_ ?_; refine blk_put (cs := #[.int .i64 x102000_2, .slice none 0 0]) ?_ 0 _ rfl; refine bk_ ?_; exact BK101.out) Try.underlying39 rfl (by kernel_rfl)) rfl ?_
        exact ⟨_, er_, by refine kv_ ?_; exact Kd.V_mono (Kd.V_far (p := ⟨gb101, 1, none⟩) (Kd.V_far (p := ⟨gb101, 0, none⟩) (Kd.V_mono HO_1.out (fun k_ hk => (⟨hk, hk.2⟩ : _ ∧ k_ ≠ gb101))) (fun _ hk => hk.2) (.int .i64 a0)) (fun _ hk => hk.2) (.slice A1 l1.length c1)) (fun _ hk => hk.1.1), bl_⟩

/-! ### oneway_quarter_both: function 10 -/
def oneway_quarter_both.l0 : Nat → Int → List (S37) → List (S37) → Int → Int → Option ((List (S37)))
  | 0, _, _, _, _, _ => none
  | k + 1, x1, x5, x9, x10, x11 => if x11 < x10 then (if 0 ≤ x11 then (if x11 < (x9.length : Int) then (if x11 = x1 then (oneway_quarter_both.l0 k x1 x5 x9 x10 (wrap64 (x11 + 1))) else ((some (([(⟨(rd_T37 x9 x11).f0, (rd_T37 x9 x11).f1⟩ : S37), (⟨(rd_T37 x9 x11).f1, (rd_T37 x9 x11).f0⟩ : S37)] : List (S37)) : List (S37))).bind fun y107 => (if x5.length + y107.length < 8796093022208 then (oneway_quarter_both.l0 k x1 (x5 ++ y107) x9 x10 (wrap64 (x11 + 1))) else (none)))) else (none)) else (none)) else (some x5)
def oneway_quarter_both.f (k : Nat) (a0_0 : Int) (l0_1 : List (S37)) (a1 : Int) : Option ((List (S37))) := oneway_quarter_both.l0 k a1 ([] : List (S37)) l0_1 (l0_1.length : Int) 0
theorem oneway_quarter_both.mono_l : ∀ k, (∀ y0 y1 y2 y3 y4, LeO (oneway_quarter_both.l0 k y0 y1 y2 y3 y4) (oneway_quarter_both.l0 (k + 1) y0 y1 y2 y3 y4))
  | 0 => fun _ _ _ _ _ r h => by simp [oneway_quarter_both.l0] at h
  | k + 1 => by
    have ih0 := oneway_quarter_both.mono_l k
    · intro y0 y1 y2 y3 y4
      unfold oneway_quarter_both.l0
      with_reducible repeat' first | exact ih0 _ _ _ _ _ | exact LeO.refl _ | exact LeO.none _ | refine LeO.ite ?_ ?_ | refine LeO.bind ?_ (fun _ => ?_)
theorem oneway_quarter_both.mono : ∀ a0 a1 a2 k, LeO (oneway_quarter_both.f k a0 a1 a2) (oneway_quarter_both.f (k + 1) a0 a1 a2) := by
  intro a0 a1 a2 k
  have ih0 := oneway_quarter_both.mono_l k
  unfold oneway_quarter_both.f
  with_reducible repeat' first | exact ih0 _ _ _ _ _ | exact LeO.refl _ | exact LeO.none _ | refine LeO.ite ?_ ?_ | refine LeO.bind ?_ (fun _ => ?_)
set_option maxHeartbeats 8000000 in
set_option maxRecDepth 100000 in
theorem oneway_quarter_both.calls (k : Nat) (a0_0 : Int) (A0_1 : Option Addr) (c0_1 : Nat) (l0_1 : List (S37)) (a1 : Int) (r : List (S37)) (w : World) (hr0_1 : Kd.C k37 w A0_1 l0_1.length l0_1) (hc0_1 : l0_1.length ≤ c0_1) (h : oneway_quarter_both.f k a0_0 l0_1 a1 = some r) :
    Calls Try.prog 10 #[.agg #[.int .i64 a0_0, .slice A0_1 l0_1.length c0_1], .int .i64 a1] w fun e w' => ∃ v0_ : Value, e = .returned (v0_) ∧ Kd.R k37 37 w' w.heap.size (fun _ => True) v0_ r ∧ Below w.heap.size w w' := by
 have hu39 := Try.underlying39
 have hu37 := Try.underlying37
 have HR0_1 := Aside0.mk hr0_1
 have HC0_1 := Aside0.mk hc0_1
 clear hr0_1 hc0_1
 have HB := Aside0.mk (Below.refl w.heap.size w)
 have H : (oneway_quarter_both.l0 k a1 ([] : List (S37)) l0_1 (l0_1.length : Int) 0) = some r := h
 clear h
 have H' := Aside0.mk H
 clear H
 go_enter Try.func10, Try.ntmps10
 go_wp2_with (first | ((with_reducible refine gate_dst (N := 2) rfl ?_); refine be_ #[.int .i64 a0_0, .slice A0_1 l0_1.length c0_1] 39 ?_; intro gb104 hg w3 hbox hb; have BK104 := Aside0.mk (hbox); have GW104 := gw_ hg; have GE104 := gw_ hg; replace HB := hb_ hb; clear hb hbox hg; have hcz4_0 := bc_ BK104 0 (.int .i64 a0_0); have hcz4_1 := bc_ BK104 1 (.slice A0_1 l0_1.length c0_1); have hfz4_0 := bz_ BK104 0; have hfz4_1 := bz_ BK104 1))
 go_loopg [5, 11] k (fun kq v5 v11 w' => ∃ (x5_1 : List (S37)) (x11_1 : Int), v11 = .int .i64 x11_1 ∧ Aside0 (oneway_quarter_both.l0 kq a1 x5_1 l0_1 (l0_1.length : Int) x11_1 = some r) ∧ Aside0 (kq ≤ k) ∧ Aside0 (Kd.R k37 37 w' w.heap.size (fun _ => True) v5 x5_1) ∧ Aside0 (w'.heap[gb104]? = some (.cells #[.int .i64 a0_0, (.slice A0_1 l0_1.length c0_1)] 39 (0, 0))) ∧ Aside0 (Below w.heap.size w w'))
 case atStart => exact ⟨(([] : List (S37))), (0), rs_, H', ⟨Nat.le_refl _⟩, ⟨by first | exact Kd.R_nil _ _ _ _ _ | exact Kd.N_nil _ _ _ _ _ | exact Kd.V_nil _ _ _ _ _ | exact Kd.Q_nil _ _ _ _ _ | exact Kd.S_nil _ _ _ _ _⟩, ⟨bk_ BK104.out⟩, ⟨bl_⟩⟩
 case round =>
  clear H'
  try clear c1
  try clear p2
  try clear hcz4_0
  try clear hcz4_1
  try clear hfz4_0
  try clear hfz4_1
  obtain ⟨x5_1, x11_1, rfl, HA, HK1, HO_5, BK104, HB⟩ := hrel
  cases gk with
  | zero => exact absurd HA.out (by simp [oneway_quarter_both.l0])
  | succ k1 =>
   have H := HA.out
   clear HA
   simp only [oneway_quarter_both.l0] at H
   by_cases c5 : x11_1 < (l0_1.length : Int)
   ·rw [if_pos c5] at H
    have c5b0 : decide (x11_1 < (l0_1.length : Int)) = true := decide_eq_true c5
    clear c5
    obtain ⟨c6b0, H⟩ := fp_ H
    obtain ⟨c7b0, H⟩ := fp_ H
    by_cases c8 : x11_1 = a1
    ·rw [if_pos c8] at H
     have c8b0 : (x11_1 == a1) = true := beq_iff_eq.mpr c8
     have c8b1 : (x11_1 != a1) = false := bne_eq_false_iff_eq.mpr c8
     clear c8
     have H' := Aside0.mk H
     clear H
     have p105 : 0 ≤ (x11_1 : Int) := od_
     have q105 : x11_1 < (l0_1.length : Int) := od_
     obtain ⟨ad105, e105, hx105_0, hx105_1⟩ := at_T37 HR0_1.out x11_1 p105 q105
     cases e105
     replace hx105_0 := hc_ HB hx105_0
     replace hx105_1 := hc_ HB hx105_1
     replace p105 := eq_true p105
     replace q105 := eq_true q105
     go_wp2_with (first | ((with_reducible refine gate_dst (N := 7) rfl ?_); refine be_ #[.int .i64 0, .int .i64 0] 37 ?_; intro gb106 hg w9 hbox hb; replace HO_5 := Aside0.mk (Kd.R_below (Kd.R_elderB (kr_ HO_5.out) gb106 (Nat.le_of_eq hg.symm)) hb); have BK106 := Aside0.mk (hbox); have GW106 := gw_ hg; have GE106 := gw_ hg; replace HB := hb_ hb; have NB104_106 := nl_ hg BK104; have NB106_104 := sy_ NB104_106; replace BK104 := bb_ BK104 hb; clear hb hbox hg; have hnb10 := NB106_104.out; have hnc10 := NB104_106.out; have hcz11_0 := bc_ BK106 0 (.int .i64 0); have hcz11_1 := bc_ BK106 1 (.int .i64 0); have hfz11_0 := bz_ BK106 0; have hfz11_1 := bz_ BK106 1))
     go_roundg k1
     case measure => have := HK1.out; omega
     case rel => exact ⟨(x5_1), (wrap64 (x11_1 + 1)), rs_, H', ⟨by have := HK1.out; omega⟩, ⟨by refine kr_ ?_; exact Kd.R_mono (Kd.R_far (p := ⟨gb106, 1, none⟩) (Kd.R_far (p := ⟨gb106, 0, none⟩) (Kd.R_mono HO_5.out (fun k_ hk => (⟨hk, hk.2⟩ : _ ∧ k_ ≠ gb106))) (fun _ hk => hk.2) (.int .i64 ((rd_T37 l0_1 x11_1).f0))) (fun _ hk => hk.2) (.int .i64 ((rd_T37 l0_1 x11_1).f1))) (fun _ hk => trivial)⟩, ⟨by refine bk_ ?_; refine blk_far ?_ NB104_106.out _; refine bk_ ?_; refine blk_far ?_ NB104_106.out _; refine bk_ ?_; exact BK104.out⟩, ⟨bl_⟩⟩
    ·rw [if_neg c8] at H
     have c8b0 : (x11_1 == a1) = false := beq_eq_false_iff_ne.mpr c8
     have c8b1 : (x11_1 != a1) = true := bne_iff_ne.mpr c8
     obtain ⟨y107, hy107⟩ : ∃ y_ : List (S37), y_ = (([(⟨(rd_T37 l0_1 x11_1).f0, (rd_T37 l0_1 x11_1).f1⟩ : S37), (⟨(rd_T37 l0_1 x11_1).f1, (rd_T37 l0_1 x11_1).f0⟩ : S37)] : List (S37))) := ⟨_, rfl⟩
     replace H : (if x5_1.length + y107.length < 8796093022208 then (oneway_quarter_both.l0 k1 a1 (x5_1 ++ y107) l0_1 (l0_1.length : Int) (wrap64 (x11_1 + 1))) else (none)) = some r := by first | (rw [hy107]; with_reducible exact H) | (have H2_ := (Option.bind_some _ _).symm.trans H; rw [hy107]; with_reducible exact H2_) | (have H2_ := (Option.bind_some _ _).symm.trans H; with_reducible exact H2_) | with_reducible exact H | (rw [hy107]; exact H) | exact H
     have Ny107 := Aside0.mk hy107
     clear hy107
     have c12 : x5_1.length + y107.length < 8796093022208 := fl_ fun c12 => by rw [if_neg c12] at H; exact absurd H (by simp)
     rw [if_pos c12] at H
     have LMc12 := Aside0.mk c12
     clear c12
     obtain ⟨y110, hy110⟩ : ∃ y_ : List (S37), y_ = (x5_1 ++ y107) := ⟨_, rfl⟩
     replace H : (oneway_quarter_both.l0 k1 a1 y110 l0_1 (l0_1.length : Int) (wrap64 (x11_1 + 1))) = some r := by first | (rw [hy110]; with_reducible exact H) | (have H2_ := (Option.bind_some _ _).symm.trans H; rw [hy110]; with_reducible exact H2_) | (have H2_ := (Option.bind_some _ _).symm.trans H; with_reducible exact H2_) | with_reducible exact H | (rw [hy110]; exact H) | exact H
     have Ny110 := Aside0.mk hy110
     clear hy110
     have H' := Aside0.mk H
     clear H
     have p105 : 0 ≤ (x11_1 : Int) := od_
     have q105 : x11_1 < (l0_1.length : Int) := od_
     obtain ⟨ad105, e105, hx105_0, hx105_1⟩ := at_T37 HR0_1.out x11_1 p105 q105
     cases e105
     replace hx105_0 := hc_ HB hx105_0
     replace hx105_1 := hc_ HB hx105_1
     replace p105 := eq_true p105
     replace q105 := eq_true q105
     go_wp2_with (first | ((with_reducible refine gate_dst (N := 7) rfl ?_); refine be_ #[.int .i64 0, .int .i64 0] 37 ?_; intro gb106 hg w13 hbox hb; replace HO_5 := Aside0.mk (Kd.R_below (Kd.R_elderB (kr_ HO_5.out) gb106 (Nat.le_of_eq hg.symm)) hb); have BK106 := Aside0.mk (hbox); have GW106 := gw_ hg; have GE106 := gw_ hg; replace HB := hb_ hb; have NB104_106 := nl_ hg BK104; have NB106_104 := sy_ NB104_106; replace BK104 := bb_ BK104 hb; clear hb hbox hg; have hnb14 := NB106_104.out; have hnc14 := NB104_106.out; have hcz15_0 := bc_ BK106 0 (.int .i64 0); have hcz15_1 := bc_ BK106 1 (.int .i64 0); have hfz15_0 := bz_ BK106 0; have hfz15_1 := bz_ BK106 1) | ((with_reducible refine gate_dst (N := 26) rfl ?_); refine Kd.R_lit k37 _ 37 ?hg (N := 26) ?hd (xs := ([(⟨(rd_T37 l0_1 x11_1).f0, (rd_T37 l0_1 x11_1).f1⟩ : S37), (⟨(rd_T37 l0_1 x11_1).f1, (rd_T37 l0_1 x11_1).f0⟩ : S37)] : List (S37))) (inner := [.int .i64 ((rd_T37 l0_1 x11_1).f0), .int .i64 ((rd_T37 l0_1 x11_1).f1), .int .i64 ((rd_T37 l0_1 x11_1).f1), .int .i64 ((rd_T37 l0_1 x11_1).f0)]) (ok := fun _ => True) (okp := fun _ => True) ?hr ?hp (fun _ hk => hk) trivial (Below.refl _ _) (Nat.le_refl _) (by simp) ?_; (case hd => rfl); (case hg => rfl); (case hr => first | (go_simp; done) | (go_simp; rfl)); (case hp => exact (Reps.c2 (show Kd.M k37 _ _ _ (⟨(rd_T37 l0_1 x11_1).f0, (rd_T37 l0_1 x11_1).f1⟩ : S37) [.int .i64 ((rd_T37 l0_1 x11_1).f0), .int .i64 ((rd_T37 l0_1 x11_1).f1)] from (k37_mkM _ _ _ (⟨(rd_T37 l0_1 x11_1).f0, (rd_T37 l0_1 x11_1).f1⟩ : S37) )) (Reps.c2 (show Kd.M k37 _ _ _ (⟨(rd_T37 l0_1 x11_1).f1, (rd_T37 l0_1 x11_1).f0⟩ : S37) [.int .i64 ((rd_T37 l0_1 x11_1).f1), .int .i64 ((rd_T37 l0_1 x11_1).f0)] from (k37_mkM _ _ _ (⟨(rd_T37 l0_1 x11_1).f1, (rd_T37 l0_1 x11_1).f0⟩ : S37) )) (Reps.none _ _)))); intro v108 w16 ho17 hb hg_ hnew_; clear hg_ hnew_; (first | rw [← Ny107.out] at ho17 | (simp only [Int.reduceToNat] at ho17; rw [← Ny107.out] at ho17)); have HO109 := Aside0.mk (Kd.R_lower (Kd.R_newB (Kd.R_new' ho17 (Kd.R_lt (by refine kr_ ?_; exact (Kd.R_mono (Kd.R_far (p := ⟨gb106, 1, none⟩) (Kd.R_far (p := ⟨gb106, 0, none⟩) (Kd.R_mono HO_5.out (fun k_ hk => (⟨hk, hk.2⟩ : _ ∧ k_ ≠ gb106))) (fun _ hk => hk.2) (.int .i64 ((rd_T37 l0_1 x11_1).f0))) (fun _ hk => hk.2) (.int .i64 ((rd_T37 l0_1 x11_1).f1))) (fun _ h_ => h_.1))))) (g := gb106) (o := .cells #[.int .i64 ((rd_T37 l0_1 x11_1).f0), .int .i64 ((rd_T37 l0_1 x11_1).f1)] 37 (0, 0)) (by refine bk_ ?_; refine blk_put (cs := #[.int .i64 ((rd_T37 l0_1 x11_1).f0), .int .i64 0]) ?_ 1 _ rfl; refine bk_ ?_; refine blk_put (cs := #[.int .i64 0, .int .i64 0]) ?_ 0 _ rfl; refine bk_ ?_; exact BK106.out)) (below_size (bl_))); replace HO_5 := Aside0.mk (Kd.R_elder' (by refine kr_ ?_; exact (Kd.R_mono (Kd.R_far (p := ⟨gb106, 1, none⟩) (Kd.R_far (p := ⟨gb106, 0, none⟩) (Kd.R_mono HO_5.out (fun k_ hk => (⟨hk, hk.2⟩ : _ ∧ k_ ≠ gb106))) (fun _ hk => hk.2) (.int .i64 ((rd_T37 l0_1 x11_1).f0))) (fun _ hk => hk.2) (.int .i64 ((rd_T37 l0_1 x11_1).f1))) (fun _ h_ => h_.1))) (Kd.R_base ho17) hb); replace BK104 := Aside0.mk (blk_below (g := gb104) (o := .cells #[.int .i64 a0_0, .slice (some ad105) l0_1.length c0_1] 39 (0, 0)) (by refine bk_ ?_; refine blk_far ?_ NB104_106.out _; refine bk_ ?_; refine blk_far ?_ NB104_106.out _; refine bk_ ?_; exact BK104.out) hb); replace BK106 := Aside0.mk (blk_below (g := gb106) (o := .cells #[.int .i64 ((rd_T37 l0_1 x11_1).f0), .int .i64 ((rd_T37 l0_1 x11_1).f1)] 37 (0, 0)) (by refine bk_ ?_; refine blk_put (cs := #[.int .i64 ((rd_T37 l0_1 x11_1).f0), .int .i64 0]) ?_ 1 _ rfl; refine bk_ ?_; refine blk_put (cs := #[.int .i64 0, .int .i64 0]) ?_ 0 _ rfl; refine bk_ ?_; exact BK106.out) hb); replace HB := hb_ hb; clear hb ho17; obtain ⟨Ao19, co19, eo19⟩ := Kd.R_slice HO109.out; subst eo19) | ((with_reducible refine gate_builtin (b := .append) (xs := #[.tmp 19, .tmp 26]) rfl ?_); at_builtin; refine Kd.R_append_rows k37 (w0 := w) w.heap.size rfl (.tmp 19) (.tmp 26) 42 37 (.agg #[(.int .i64 0), (.int .i64 0)]) 16 rfl Try.underlying42 info37 rfl (by decide) (by omega) u5 x5_1 y107 _ _ _ (fun k_ => some k_ ≠ (.slice Ao19 y107.length co19 : Value).ownBlock ∧ k_ ≠ gb106) (fun _ => False) rfl rfl ?aO ?aR (fun _ _ h => h) (fun _ h => h.elim) ?aF ?aB ?aS ?aL ?_; (case aR => repeat (first | exact (Kd.R_reads' HO109.out).2.2 | (with_reducible refine Kd.C_alloc ?_ _) | (with_reducible refine Kd.C_drewN ?_ _) | (with_reducible refine Kd.C_drew ?_))); (case aB => exact (bl_)); (case aF => exact (fun k_ hk => ⟨Kd.fresh' (Kd.R_lt (kr_ HO109.out)) k_ hk, Kd.freshB (g := gb106) (o := .cells #[.int .i64 ((rd_T37 l0_1 x11_1).f0), .int .i64 ((rd_T37 l0_1 x11_1).f1)] 37 (0, 0)) (bk_ BK106.out) k_ hk⟩)); (case aO => exact (by refine kr_ ?_; exact Kd.R_mono HO_5.out (fun _ hk => ⟨hk.2, hk.1.2⟩))); (case aS => exact (below_size (bl_))); (case aL => have := LMc12.out; omega); intro v111 w18 ho hb hg hat; rw [← Ny110.out] at ho; replace BK104 := Aside0.mk (blk_grown (g := gb104) (o := .cells #[.int .i64 a0_0, .slice (some ad105) l0_1.length c0_1] 39 (0, 0)) (bk_ BK104.out) hg (Kd.R_ne HO_5.out BK104.out (by decide))); replace BK106 := Aside0.mk (blk_grown (g := gb106) (o := .cells #[.int .i64 ((rd_T37 l0_1 x11_1).f0), .int .i64 ((rd_T37 l0_1 x11_1).f1)] 37 (0, 0)) (bk_ BK106.out) hg (Kd.R_away HO_5.out (fun _ hk => hk.1.2))); replace HO109 := Aside0.mk (Kd.R_after (ok := (fun k_ => k_ ≠ gb106)) (by refine kr_ ?_; exact Kd.R_mono HO109.out (fun _ hk => ⟨hk.2, hk.1.2⟩)) hg hat); replace HB := Aside0.mk (hb); have HO112 := Aside0.mk (ho); clear HO_5; clear ho hb hg hat))
     go_roundg k1
     case measure => have := HK1.out; omega
     case rel => exact ⟨(y110), (wrap64 (x11_1 + 1)), rs_, H', ⟨by have := HK1.out; omega⟩, ⟨by refine kr_ ?_; exact Kd.R_mono HO112.out (fun _ hk => trivial)⟩, ⟨bk_ BK104.out⟩, ⟨bl_⟩⟩
   ·rw [if_neg c5] at H
    have c5b0 : decide (x11_1 < (l0_1.length : Int)) = false := decide_eq_false c5
    clear c5
    obtain rfl := Option.some.inj H
    go_wp2
    go_ret
    exact ⟨_, er_, by refine kr_ ?_; exact HO_5.out, bl_⟩

/-! ### oneway_arcs_far: function 11 -/
mutual
def oneway_arcs_far.l0 : Nat → List (S37) → Int → Int → List Int → Int → Int → Option (List Int)
  | 0, _, _, _, _, _, _ => none
  | k + 1, x0, x1, x2, x7, x15, x16 => if x16 < x15 then (if 0 ≤ x16 then (if x16 < (x7.length : Int) then (oneway_arcs_far.l0 k x0 x1 x2 (x7.set (x16 : Int).toNat (-1)) x15 (wrap64 (x16 + 1))) else (none)) else (none)) else (if 0 ≤ x2 then (if x2 < (x7.length : Int) then (oneway_arcs_far.l1 k x0 (x7.set (x2 : Int).toNat 0) x1 0) else (none)) else (none))
def oneway_arcs_far.l1 : Nat → List (S37) → List Int → Int → Int → Option (List Int)
  | 0, _, _, _, _ => none
  | k + 1, x0, x7, x26, x27 => if x27 < x26 then (oneway_arcs_far.l2 k x0 x7 x27 x26 x27 x0 (x0.length : Int) 0) else (some x7)
def oneway_arcs_far.l2 : Nat → List (S37) → List Int → Int → Int → Int → List (S37) → Int → Int → Option (List Int)
  | 0, _, _, _, _, _, _, _, _ => none
  | k + 1, x0, x7, x9, x26, x27, x30, x31, x32 => if x32 < x31 then (if 0 ≤ x32 then (if x32 < (x30.length : Int) then (if 0 ≤ ((rd_T37 x30 x32).f0) then (if ((rd_T37 x30 x32).f0) < (x7.length : Int) then (if (rd x7 ((rd_T37 x30 x32).f0)) = x9 then (if 0 ≤ ((rd_T37 x30 x32).f1) then (if ((rd_T37 x30 x32).f1) < (x7.length : Int) then (if (rd x7 ((rd_T37 x30 x32).f1)) < 0 then (oneway_arcs_far.l2 k x0 (x7.set (((rd_T37 x30 x32).f1) : Int).toNat (wrap64 (x9 + 1))) x9 x26 x27 x30 x31 (wrap64 (x32 + 1))) else (oneway_arcs_far.l2 k x0 x7 x9 x26 x27 x30 x31 (wrap64 (x32 + 1)))) else (none)) else (none)) else (oneway_arcs_far.l2 k x0 x7 x9 x26 x27 x30 x31 (wrap64 (x32 + 1)))) else (none)) else (none)) else (none)) else (none)) else (oneway_arcs_far.l1 k x0 x7 x26 (wrap64 (x27 + 1)))
end
def oneway_arcs_far.f (k : Nat) (l0 : List (S37)) (a1 : Int) (a2 : Int) : Option (List Int) := if 0 ≤ a1 then (if (a1 : Int).toNat ≤ 35184372088832 then ((some (List.replicate (a1 : Int).toNat 0 : List Int)).bind fun y113 => (oneway_arcs_far.l0 k l0 a1 a2 y113 (y113.length : Int) 0)) else (none)) else (none)
theorem oneway_arcs_far.mono_l : ∀ k, (∀ y0 y1 y2 y3 y4 y5, LeO (oneway_arcs_far.l0 k y0 y1 y2 y3 y4 y5) (oneway_arcs_far.l0 (k + 1) y0 y1 y2 y3 y4 y5)) ∧ (∀ y0 y1 y2 y3, LeO (oneway_arcs_far.l1 k y0 y1 y2 y3) (oneway_arcs_far.l1 (k + 1) y0 y1 y2 y3)) ∧ (∀ y0 y1 y2 y3 y4 y5 y6 y7, LeO (oneway_arcs_far.l2 k y0 y1 y2 y3 y4 y5 y6 y7) (oneway_arcs_far.l2 (k + 1) y0 y1 y2 y3 y4 y5 y6 y7))
  | 0 => ⟨fun _ _ _ _ _ _ r h => by simp [oneway_arcs_far.l0] at h, fun _ _ _ _ r h => by simp [oneway_arcs_far.l1] at h, fun _ _ _ _ _ _ _ _ r h => by simp [oneway_arcs_far.l2] at h⟩
  | k + 1 => by
    obtain ⟨ih0, ih1, ih2⟩ := oneway_arcs_far.mono_l k
    refine ⟨?_, ?_, ?_⟩
    · intro y0 y1 y2 y3 y4 y5
      unfold oneway_arcs_far.l0
      with_reducible repeat' first | exact ih0 _ _ _ _ _ _ | exact ih1 _ _ _ _ | exact ih2 _ _ _ _ _ _ _ _ | exact LeO.refl _ | exact LeO.none _ | refine LeO.ite ?_ ?_ | refine LeO.bind ?_ (fun _ => ?_)
    · intro y0 y1 y2 y3
      unfold oneway_arcs_far.l1
      with_reducible repeat' first | exact ih0 _ _ _ _ _ _ | exact ih1 _ _ _ _ | exact ih2 _ _ _ _ _ _ _ _ | exact LeO.refl _ | exact LeO.none _ | refine LeO.ite ?_ ?_ | refine LeO.bind ?_ (fun _ => ?_)
    · intro y0 y1 y2 y3 y4 y5 y6 y7
      unfold oneway_arcs_far.l2
      with_reducible repeat' first | exact ih0 _ _ _ _ _ _ | exact ih1 _ _ _ _ | exact ih2 _ _ _ _ _ _ _ _ | exact LeO.refl _ | exact LeO.none _ | refine LeO.ite ?_ ?_ | refine LeO.bind ?_ (fun _ => ?_)
theorem oneway_arcs_far.mono : ∀ a0 a1 a2 k, LeO (oneway_arcs_far.f k a0 a1 a2) (oneway_arcs_far.f (k + 1) a0 a1 a2) := by
  intro a0 a1 a2 k
  obtain ⟨ih0, ih1, ih2⟩ := oneway_arcs_far.mono_l k
  unfold oneway_arcs_far.f
  with_reducible repeat' first | exact ih0 _ _ _ _ _ _ | exact ih1 _ _ _ _ | exact ih2 _ _ _ _ _ _ _ _ | exact LeO.refl _ | exact LeO.none _ | refine LeO.ite ?_ ?_ | refine LeO.bind ?_ (fun _ => ?_)
set_option maxHeartbeats 8000000 in
set_option maxRecDepth 100000 in
theorem oneway_arcs_far.calls (k : Nat) (A0 : Option Addr) (c0 : Nat) (l0 : List (S37)) (a1 : Int) (a2 : Int) (r : List Int) (w : World) (hr0 : Kd.C k37 w A0 l0.length l0) (hc0 : l0.length ≤ c0) (h : oneway_arcs_far.f k l0 a1 a2 = some r) :
    Calls Try.prog 11 #[.slice A0 l0.length c0, .int .i64 a1, .int .i64 a2] w fun e w' => ∃ v0_ : Value, e = .returned (v0_) ∧ Kd.R (Kd.int .i64) 3 w' w.heap.size (fun _ => True) v0_ r ∧ Below w.heap.size w w' := by
 have hu37 := Try.underlying37
 have HR0 := Aside0.mk hr0
 have HC0 := Aside0.mk hc0
 clear hr0 hc0
 have HB := Aside0.mk (Below.refl w.heap.size w)
 have H : (if 0 ≤ a1 then (if (a1 : Int).toNat ≤ 35184372088832 then ((some (List.replicate (a1 : Int).toNat 0 : List Int)).bind fun y113 => (oneway_arcs_far.l0 k l0 a1 a2 y113 (y113.length : Int) 0)) else (none)) else (none)) = some r := h
 clear h
 have c4 : 0 ≤ a1 := fl_ fun c4 => by rw [if_neg c4] at H; exact absurd H (by simp)
 rw [if_pos c4] at H
 have c4b0 := eq_true c4
 have c4b1 : decide (0 ≤ a1) = true := decide_eq_true c4
 clear c4
 have c5 : (a1 : Int).toNat ≤ 35184372088832 := fl_ fun c5 => by rw [if_neg c5] at H; exact absurd H (by simp)
 rw [if_pos c5] at H
 have c5b0 := eq_true c5
 have c5b1 : decide ((a1 : Int).toNat ≤ 35184372088832) = true := decide_eq_true c5
 clear c5
 obtain ⟨y113, hy113⟩ : ∃ y_ : List Int, y_ = (List.replicate (a1 : Int).toNat 0) := ⟨_, rfl⟩
 replace H : (oneway_arcs_far.l0 k l0 a1 a2 y113 (y113.length : Int) 0) = some r := by first | (rw [hy113]; with_reducible exact H) | (have H2_ := (Option.bind_some _ _).symm.trans H; rw [hy113]; with_reducible exact H2_) | (have H2_ := (Option.bind_some _ _).symm.trans H; with_reducible exact H2_) | with_reducible exact H | (rw [hy113]; exact H) | exact H
 have Ny113 := Aside0.mk hy113
 clear hy113
 have H' := Aside0.mk H
 clear H
 go_enter Try.func11, Try.ntmps11
 go_wp2_with (first | ((with_reducible refine gate_dst (N := 13) rfl ?_); refine Kd.R_make (Kd.int .i64) _ 3 rfl (N := 13) rfl 24 _ _ rfl a1 rfl rfl Try.underlying24 (.int .i64 0) 8 info3 rfl (by decide) (by omega) 0 (ok := fun _ => True) (okp := fun _ => True) rfl (fun _ hk => hk) trivial (od_) (Nat.le_trans (Nat.mul_le_mul_right _ (od_ : a1.toNat ≤ 35184372088832)) (by omega)) (Below.refl _ _) (Nat.le_refl _) ?_; intro v114 w6 ho7 hb hg_ hnew_; clear hg_ hnew_; (first | rw [← Ny113.out] at ho7 | (simp only [Int.reduceToNat] at ho7; rw [← Ny113.out] at ho7)); have HO115 := rl_ ho7; replace HB := hb_ hb; clear hb ho7; obtain ⟨Ao8, co8, eo8⟩ := Kd.R_slice HO115.out; subst eo8))
 go_loopg [16] k (fun kq v16 w' => ∃ (x7_1 : List Int) (x16_1 : Int), v16 = .int .i64 x16_1 ∧ Aside0 (oneway_arcs_far.l0 kq l0 a1 a2 x7_1 (y113.length : Int) x16_1 = some r) ∧ Aside0 (kq ≤ k) ∧ Aside0 (Kd.R (Kd.int .i64) 3 w' w.heap.size (fun _ => True) (.slice Ao8 y113.length co8) x7_1) ∧ Aside0 (Below w.heap.size w w'))
 case atStart => exact ⟨(y113), (0), rs_, H', ⟨Nat.le_refl _⟩, ⟨kr_ HO115.out⟩, ⟨bl_⟩⟩
 case round =>
  clear H'
  try clear c1
  try clear p2
  try clear c4
  try clear c4b0
  try clear c4b1
  try clear c5
  try clear c5b0
  try clear c5b1
  obtain ⟨x7_1, x16_1, rfl, HA, HK1, HO_7, HB⟩ := hrel
  have hl7_1 := (Kd.R_reads' HO_7.out).1
  rw [hl7_1] at HO_7
  (try simp only [hl7_1])
  cases gk with
  | zero => exact absurd HA.out (by simp [oneway_arcs_far.l0])
  | succ k1 =>
   have H := HA.out
   clear HA
   simp only [oneway_arcs_far.l0] at H
   by_cases c9 : x16_1 < (y113.length : Int)
   ·rw [if_pos c9] at H
    have c9b0 : decide (x16_1 < (y113.length : Int)) = true := decide_eq_true c9
    clear c9
    obtain ⟨c10b0, H⟩ := fp_ H
    obtain ⟨c11b0, H⟩ := fp_ H
    obtain ⟨y116, hy116⟩ : ∃ y_ : List Int, y_ = (x7_1.set (x16_1 : Int).toNat (-1)) := ⟨_, rfl⟩
    replace H : (oneway_arcs_far.l0 k1 l0 a1 a2 y116 (y113.length : Int) (wrap64 (x16_1 + 1))) = some r := by first | (rw [hy116]; with_reducible exact H) | (have H2_ := (Option.bind_some _ _).symm.trans H; rw [hy116]; with_reducible exact H2_) | (have H2_ := (Option.bind_some _ _).symm.trans H; with_reducible exact H2_) | with_reducible exact H | (rw [hy116]; exact H) | exact H
    have Ny116 := Aside0.mk hy116
    clear hy116
    have H' := Aside0.mk H
    clear H
    have p12 : 0 ≤ (x16_1 : Int) := od_
    have q12 : (x16_1 : Int) < ((x7_1.length : Int) : Int) := od_
    obtain ⟨go12, co12, eo12, gb12, gl12, cl12, HG12⟩ := Kd.R_form HO_7.out (by omega)
    (first | cases eo12 | (injection eo12 with ea_ en_ ec_; (first | subst ea_ | (injection ea_ with ea_; subst ea_)); subst ec_; clear en_))
    have GB12 := Aside0.mk gb12
    have GG12 := Aside0.mk HG12
    clear gb12 gl12 HG12
    obtain ⟨hx12_0, hf12_0⟩ := Kd.R_celln 0 HO_7.out (x16_1 : Int) p12 q12
    replace p12 := eq_true p12
    replace q12 := eq_true q12
    have HP13 := Kd.R_putg HO_7.out (x16_1 : Int) (-1)
    go_wp2_with (first | ((with_reducible refine gate_store (t := 3) (p := 21) rfl ?_); refine store_event (t := 3) (p := 21) (v := ?vo_w14) (w1 := (wr.setCell ⟨go12, (x16_1 : Int).toNat, none⟩ (.int .i64 (-1)))) ?hg ?ho ?hn ?hr ?_; (case ho => rfl); (case hg => rfl); (case hn => rfl); (case hr => first | (go_simp; done) | (go_simp; rfl)); intro w14 hw; have hg : wr.grownBy w14 (some go12) := (by rw [hw]; exact HP13.2); have hp_ : Kd.R (Kd.int .i64) 3 w14 w.heap.size (fun _ => True) (.slice (some ⟨go12, 0, none⟩) x7_1.length co8) y116 := (by rw [hw, Ny116.out]; exact HP13.1); clear HP13; replace HO_7 := Aside0.mk (hp_); replace HB := Aside0.mk ((by rw [hw]; exact below_set (HB.out) GB12.out : Below w.heap.size w w14)); clear hg hw hp_))
    (try simp only [← hl7_1])
    go_roundg k1
    case measure => have := HK1.out; omega
    case rel => exact ⟨(y116), (wrap64 (x16_1 + 1)), rs_, H', ⟨by have := HK1.out; omega⟩, ⟨by (try simp only [hl7_1]); refine kr_ ?_; exact HO_7.out⟩, ⟨bl_⟩⟩
   ·rw [if_neg c9] at H
    have c9b0 : decide (x16_1 < (y113.length : Int)) = false := decide_eq_false c9
    rw [hl7_1] at c9b0
    clear c9
    obtain ⟨c15b0, H⟩ := fp_ H
    obtain ⟨c16b0, H⟩ := fp_ H
    obtain ⟨y117, hy117⟩ : ∃ y_ : List Int, y_ = (x7_1.set (a2 : Int).toNat 0) := ⟨_, rfl⟩
    replace H : (oneway_arcs_far.l1 k1 l0 y117 a1 0) = some r := by first | (rw [hy117]; with_reducible exact H) | (have H2_ := (Option.bind_some _ _).symm.trans H; rw [hy117]; with_reducible exact H2_) | (have H2_ := (Option.bind_some _ _).symm.trans H; with_reducible exact H2_) | with_reducible exact H | (rw [hy117]; exact H) | exact H
    have Ny117 := Aside0.mk hy117
    clear hy117
    have H' := Aside0.mk H
    clear H
    have p17 : 0 ≤ (a2 : Int) := od_
    have q17 : (a2 : Int) < ((x7_1.length : Int) : Int) := od_
    obtain ⟨go17, co17, eo17, gb17, gl17, cl17, HG17⟩ := Kd.R_form HO_7.out (by omega)
    (first | cases eo17 | (injection eo17 with ea_ en_ ec_; (first | subst ea_ | (injection ea_ with ea_; subst ea_)); subst ec_; clear en_))
    have GB17 := Aside0.mk gb17
    have GG17 := Aside0.mk HG17
    clear gb17 gl17 HG17
    obtain ⟨hx17_0, hf17_0⟩ := Kd.R_celln 0 HO_7.out (a2 : Int) p17 q17
    replace p17 := eq_true p17
    replace q17 := eq_true q17
    have HP18 := Kd.R_putg HO_7.out (a2 : Int) 0
    go_wp2_with (first | ((with_reducible refine gate_store (t := 3) (p := 25) rfl ?_); refine store_event (t := 3) (p := 25) (v := ?vo_w19) (w1 := (wr.setCell ⟨go17, (a2 : Int).toNat, none⟩ (.int .i64 0))) ?hg ?ho ?hn ?hr ?_; (case ho => rfl); (case hg => rfl); (case hn => rfl); (case hr => first | (go_simp; done) | (go_simp; rfl)); intro w19 hw; have hg : wr.grownBy w19 (some go17) := (by rw [hw]; exact HP18.2); have hp_ : Kd.R (Kd.int .i64) 3 w19 w.heap.size (fun _ => True) (.slice (some ⟨go17, 0, none⟩) x7_1.length co8) y117 := (by rw [hw, Ny117.out]; exact HP18.1); clear HP18; replace HO_7 := Aside0.mk (hp_); replace HB := Aside0.mk ((by rw [hw]; exact below_set (HB.out) GB17.out : Below w.heap.size w w19)); clear hg hw hp_))
    go_loopg [27] k1 (fun kq v27 w' => ∃ (x7_2 : List Int) (x27_2 : Int), v27 = .int .i64 x27_2 ∧ Aside0 (oneway_arcs_far.l1 kq l0 x7_2 a1 x27_2 = some r) ∧ Aside0 (kq ≤ k1) ∧ Aside0 (Kd.R (Kd.int .i64) 3 w' w.heap.size (fun _ => True) (.slice (some ⟨go17, 0, none⟩) x7_1.length co8) x7_2) ∧ Aside0 (Below w.heap.size w w'))
    case atStart => exact ⟨(y117), (0), rs_, H', ⟨Nat.le_refl _⟩, ⟨by (try simp only [hl7_1]); refine kr_ ?_; exact HO_7.out⟩, ⟨bl_⟩⟩
    case round =>
     clear H'
     try clear c1
     try clear p1
     try clear q1
     try clear hx1
     try clear p2
     try clear c4
     try clear c4b0
     try clear c4b1
     try clear c5
     try clear c5b0
     try clear c5b1
     try clear p6
     try clear c9
     try clear c9b0
     try clear c10
     try clear c10b0
     try clear c11
     try clear c11b0
     try clear p12
     try clear q12
     try clear hx12
     try clear hf12
     try clear c15
     try clear c15b0
     try clear c16
     try clear c16b0
     try clear p17
     try clear q17
     try clear hx17
     try clear hf17
     try clear hx12_0
     try clear hx17_0
     try clear p12
     try clear p17
     try clear p2
     try clear q12
     try clear q17
     obtain ⟨x7_2, x27_2, rfl, HA, HK2, HO_7, HB⟩ := hrel
     have hl7_2 := (Kd.R_reads' HO_7.out).1
     rw [hl7_2] at HO_7
     (try simp only [hl7_2])
     cases gk with
     | zero => exact absurd HA.out (by simp [oneway_arcs_far.l1])
     | succ k2 =>
      have H := HA.out
      clear HA
      simp only [oneway_arcs_far.l1] at H
      by_cases c20 : x27_2 < a1
      ·rw [if_pos c20] at H
       have c20b0 : decide (x27_2 < a1) = true := decide_eq_true c20
       clear c20
       have H' := Aside0.mk H
       clear H
       go_wp2
       go_loopg [32] k2 (fun kq v32 w' => ∃ (x7_3 : List Int) (x32_3 : Int), v32 = .int .i64 x32_3 ∧ Aside0 (oneway_arcs_far.l2 kq l0 x7_3 x27_2 a1 x27_2 l0 (l0.length : Int) x32_3 = some r) ∧ Aside0 (kq ≤ k2) ∧ Aside0 (Kd.R (Kd.int .i64) 3 w' w.heap.size (fun _ => True) (.slice (some ⟨go17, 0, none⟩) x7_2.length co8) x7_3) ∧ Aside0 (Below w.heap.size w w'))
       case atStart => exact ⟨(x7_2), (0), rs_, H', ⟨Nat.le_refl _⟩, ⟨by (try simp only [hl7_1]); (try simp only [hl7_2]); refine kr_ ?_; exact HO_7.out⟩, ⟨bl_⟩⟩
       case round =>
        clear H'
        try clear c1
        try clear p1
        try clear q1
        try clear hx1
        try clear c2
        try clear p2
        try clear c4
        try clear c4b0
        try clear c4b1
        try clear c5
        try clear c5b0
        try clear c5b1
        try clear p6
        try clear c9
        try clear c9b0
        try clear c10
        try clear c10b0
        try clear c11
        try clear c11b0
        try clear p12
        try clear q12
        try clear hx12
        try clear hf12
        try clear c15
        try clear c15b0
        try clear c16
        try clear c16b0
        try clear p17
        try clear q17
        try clear hx17
        try clear hf17
        try clear c20
        try clear c20b0
        try clear hx12_0
        try clear hx17_0
        try clear p1
        try clear p12
        try clear p17
        try clear p2
        try clear p6
        try clear q1
        try clear q12
        try clear q17
        obtain ⟨x7_3, x32_3, rfl, HA, HK3, HO_7, HB⟩ := hrel
        have hl7_3 := (Kd.R_reads' HO_7.out).1
        rw [hl7_3] at HO_7
        (try simp only [hl7_3])
        cases gk with
        | zero => exact absurd HA.out (by simp [oneway_arcs_far.l2])
        | succ k3 =>
         have H := HA.out
         clear HA
         simp only [oneway_arcs_far.l2] at H
         by_cases c21 : x32_3 < (l0.length : Int)
         ·rw [if_pos c21] at H
          have c21b0 : decide (x32_3 < (l0.length : Int)) = true := decide_eq_true c21
          clear c21
          obtain ⟨c22b0, H⟩ := fp_ H
          obtain ⟨c23b0, H⟩ := fp_ H
          obtain ⟨c24b0, H⟩ := fp_ H
          obtain ⟨c25b0, H⟩ := fp_ H
          by_cases c26 : (rd x7_3 ((rd_T37 l0 x32_3).f0)) = x27_2
          ·rw [if_pos c26] at H
           have c26b0 : ((rd x7_3 ((rd_T37 l0 x32_3).f0)) == x27_2) = true := beq_iff_eq.mpr c26
           have c26b1 : ((rd x7_3 ((rd_T37 l0 x32_3).f0)) != x27_2) = false := bne_eq_false_iff_eq.mpr c26
           clear c26
           obtain ⟨c27b0, H⟩ := fp_ H
           obtain ⟨c28b0, H⟩ := fp_ H
           by_cases c29 : (rd x7_3 ((rd_T37 l0 x32_3).f1)) < 0
           ·rw [if_pos c29] at H
            have c29b0 : decide ((rd x7_3 ((rd_T37 l0 x32_3).f1)) < 0) = true := decide_eq_true c29
            clear c29
            obtain ⟨y122, hy122⟩ : ∃ y_ : List Int, y_ = (x7_3.set (((rd_T37 l0 x32_3).f1) : Int).toNat (wrap64 (x27_2 + 1))) := ⟨_, rfl⟩
            replace H : (oneway_arcs_far.l2 k3 l0 y122 x27_2 a1 x27_2 l0 (l0.length : Int) (wrap64 (x32_3 + 1))) = some r := by first | (rw [hy122]; with_reducible exact H) | (have H2_ := (Option.bind_some _ _).symm.trans H; rw [hy122]; with_reducible exact H2_) | (have H2_ := (Option.bind_some _ _).symm.trans H; with_reducible exact H2_) | with_reducible exact H | (rw [hy122]; exact H) | exact H
            have Ny122 := Aside0.mk hy122
            clear hy122
            have H' := Aside0.mk H
            clear H
            have p118 : 0 ≤ (x32_3 : Int) := od_
            have q118 : x32_3 < (l0.length : Int) := od_
            obtain ⟨ad118, e118, hx118_0, hx118_1⟩ := at_T37 HR0.out x32_3 p118 q118
            cases e118
            replace hx118_0 := hc_ HB hx118_0
            replace hx118_1 := hc_ HB hx118_1
            replace p118 := eq_true p118
            replace q118 := eq_true q118
            go_wp2_with (first | ((with_reducible refine gate_dst (N := 11) rfl ?_); refine be_ #[.int .i64 0, .int .i64 0] 37 ?_; intro gb119 hg w31 hbox hb; replace HO_7 := rb_ HO_7 hb; have BK119 := Aside0.mk (hbox); have GW119 := gw_ hg; have GE119 := gw_ hg; replace HB := hb_ hb; clear hb hbox hg; have hcz32_0 := bc_ BK119 0 (.int .i64 0); have hcz32_1 := bc_ BK119 1 (.int .i64 0); have hfz32_0 := bz_ BK119 0; have hfz32_1 := bz_ BK119 1) | ((with_reducible refine gate_store (t := 37) (p := 11) rfl ?_); refine store_event (t := 37) (p := 11) (v := ?vo_w33) (w1 := ((w31.setCell ⟨gb119, 0, none⟩ (.int .i64 ((rd_T37 l0 x32_3).f0))).setCell ⟨gb119, 1, none⟩ (.int .i64 ((rd_T37 l0 x32_3).f1)))) ?hg ?ho ?hn ?hr ?_; (case ho => rfl); (case hg => rfl); (case hn => rfl); (case hr => first | (go_simp; done) | (go_simp; rfl)); intro w33 hw; replace HO_7 : Aside0 (Kd.R (Kd.int .i64) 3 w33 w.heap.size (fun _ => True) (.slice (some ⟨go17, 0, none⟩) x7_3.length co8) x7_3) := ⟨(by rw [hw]; exact (by refine kr_ ?_; exact Kd.R_mono (Kd.R_far (p := ⟨gb119, 1, none⟩) (Kd.R_far (p := ⟨gb119, 0, none⟩) (Kd.R_types HO_7.out BK119.out (by decide)) (fun _ hk => hk.2) (.int .i64 ((rd_T37 l0 x32_3).f0))) (fun _ hk => hk.2) (.int .i64 ((rd_T37 l0 x32_3).f1))) (fun _ hk => trivial)))⟩; replace BK119 : Aside0 (w33.heap[gb119]? = some (.cells #[.int .i64 ((rd_T37 l0 x32_3).f0), .int .i64 ((rd_T37 l0 x32_3).f1)] 37 (0, 0))) := ⟨(by rw [hw]; exact (by refine bk_ ?_; refine blk_put (cs := #[.int .i64 ((rd_T37 l0 x32_3).f0), .int .i64 0]) ?_ 1 _ rfl; refine bk_ ?_; refine blk_put (cs := #[.int .i64 0, .int .i64 0]) ?_ 0 _ rfl; refine bk_ ?_; exact BK119.out))⟩; replace HB : Aside0 (Below w.heap.size w w33) := ⟨(by rw [hw]; exact (bl_))⟩; clear hw; have hcz34_0 := bc_ BK119 0 (.int .i64 ((rd_T37 l0 x32_3).f0)); have hcz34_1 := bc_ BK119 1 (.int .i64 ((rd_T37 l0 x32_3).f1)); have hfz34_0 := bz_ BK119 0; have hfz34_1 := bz_ BK119 1; have p120 : 0 ≤ (((rd_T37 l0 x32_3).f0) : Int) := od_; have q120 : ((rd_T37 l0 x32_3).f0) < (x7_3.length : Int) := od_; obtain ⟨ad120, e120, hx120_0⟩ := Kd.at_int (Kd.R_reads' HO_7.out).2.2 ((rd_T37 l0 x32_3).f0) p120 q120; obtain rfl : (⟨go17, 0, none⟩ : Addr) = ad120 := (by injection e120); (first | simp only [add_plain] at hx120_0 | simp only [add_at] at hx120_0 | simp only [Addr.add, Nat.zero_add] at hx120_0 | skip); replace p120 := eq_true p120; replace q120 := eq_true q120; have p121 : 0 ≤ (((rd_T37 l0 x32_3).f1) : Int) := od_; have q121 : ((rd_T37 l0 x32_3).f1) < (x7_3.length : Int) := od_; obtain ⟨ad121, e121, hx121_0⟩ := Kd.at_int (Kd.R_reads' HO_7.out).2.2 ((rd_T37 l0 x32_3).f1) p121 q121; obtain rfl : (⟨go17, 0, none⟩ : Addr) = ad121 := (by injection e121); (first | simp only [add_plain] at hx121_0 | simp only [add_at] at hx121_0 | simp only [Addr.add, Nat.zero_add] at hx121_0 | skip); replace p121 := eq_true p121; replace q121 := eq_true q121; have p30 : 0 ≤ (((rd_T37 l0 x32_3).f1) : Int) := od_; have q30 : (((rd_T37 l0 x32_3).f1) : Int) < ((x7_3.length : Int) : Int) := od_; obtain ⟨hx30_0, hf30_0⟩ := Kd.R_celln 0 HO_7.out (((rd_T37 l0 x32_3).f1) : Int) p30 q30; replace p30 := eq_true p30; replace q30 := eq_true q30; obtain ⟨hy35_, hz35_⟩ := Kd.R_celln 0 HO_7.out (((rd_T37 l0 x32_3).f1) : Int) (od_) (od_); have HP35 := Kd.R_putg HO_7.out (((rd_T37 l0 x32_3).f1) : Int) (wrap64 (x27_2 + 1))) | ((with_reducible refine gate_store (t := 3) (p := 56) rfl ?_); refine store_event (t := 3) (p := 56) (v := ?vo_w36) (w1 := (w33.setCell ⟨go17, (((rd_T37 l0 x32_3).f1) : Int).toNat, none⟩ (.int .i64 (wrap64 (x27_2 + 1))))) ?hg ?ho ?hn ?hr ?_; (case ho => rfl); (case hg => rfl); (case hn => rfl); (case hr => first | (go_simp; done) | (go_simp; rfl)); intro w36 hw; have hg : w33.grownBy w36 (some go17) := (by rw [hw]; exact HP35.2); have hp_ : Kd.R (Kd.int .i64) 3 w36 w.heap.size (fun _ => True) (.slice (some ⟨go17, 0, none⟩) x7_3.length co8) y122 := (by rw [hw, Ny122.out]; exact HP35.1); clear HP35; replace BK119 := Aside0.mk (blk_grown (g := gb119) (o := .cells #[.int .i64 ((rd_T37 l0 x32_3).f0), .int .i64 ((rd_T37 l0 x32_3).f1)] 37 (0, 0)) (bk_ BK119.out) hg (Kd.R_ne HO_7.out BK119.out (by decide))); replace HO_7 := Aside0.mk (hp_); replace HB := Aside0.mk ((by rw [hw]; exact below_set (HB.out) GB17.out : Below w.heap.size w w36)); clear hg hw hp_))
            (try simp only [← hl7_3])
            go_roundg k3
            case measure => have := HK1.out; have := HK2.out; have := HK3.out; omega
            case rel => exact ⟨(y122), (wrap64 (x32_3 + 1)), rs_, H', ⟨by have := HK1.out; have := HK2.out; have := HK3.out; omega⟩, ⟨by (try simp only [hl7_1]); (try simp only [hl7_2]); (try simp only [hl7_3]); refine kr_ ?_; exact HO_7.out⟩, ⟨bl_⟩⟩
           ·rw [if_neg c29] at H
            have c29b0 : decide ((rd x7_3 ((rd_T37 l0 x32_3).f1)) < 0) = false := decide_eq_false c29
            clear c29
            have H' := Aside0.mk H
            clear H
            have p118 : 0 ≤ (x32_3 : Int) := od_
            have q118 : x32_3 < (l0.length : Int) := od_
            obtain ⟨ad118, e118, hx118_0, hx118_1⟩ := at_T37 HR0.out x32_3 p118 q118
            cases e118
            replace hx118_0 := hc_ HB hx118_0
            replace hx118_1 := hc_ HB hx118_1
            replace p118 := eq_true p118
            replace q118 := eq_true q118
            go_wp2_with (first | ((with_reducible refine gate_dst (N := 11) rfl ?_); refine be_ #[.int .i64 0, .int .i64 0] 37 ?_; intro gb119 hg w37 hbox hb; replace HO_7 := rb_ HO_7 hb; have BK119 := Aside0.mk (hbox); have GW119 := gw_ hg; have GE119 := gw_ hg; replace HB := hb_ hb; clear hb hbox hg; have hcz38_0 := bc_ BK119 0 (.int .i64 0); have hcz38_1 := bc_ BK119 1 (.int .i64 0); have hfz38_0 := bz_ BK119 0; have hfz38_1 := bz_ BK119 1; have p120 : 0 ≤ (((rd_T37 l0 x32_3).f0) : Int) := od_; have q120 : ((rd_T37 l0 x32_3).f0) < (x7_3.length : Int) := od_; obtain ⟨ad120, e120, hx120_0⟩ := Kd.at_int (Kd.R_reads' HO_7.out).2.2 ((rd_T37 l0 x32_3).f0) p120 q120; obtain rfl : (⟨go17, 0, none⟩ : Addr) = ad120 := (by injection e120); (first | simp only [add_plain] at hx120_0 | simp only [add_at] at hx120_0 | simp only [Addr.add, Nat.zero_add] at hx120_0 | skip); have hn120_0 : (⟨go17, 0, none⟩ : Addr).block ≠ gb119 := Kd.own_blk (Kd.R_ne HO_7.out BK119.out (by decide)); have hn120_1 : (⟨go17, 0, none⟩ : Addr).block ≠ gb119 := Kd.own_blk (Kd.R_ne HO_7.out BK119.out (by decide)); replace hx120_0 := (cell_far (p := ⟨gb119, 0, none⟩) (by first | (rw [add_block]; exact hn120_0) | (show (Addr.add _ _).block ≠ _; rw [add_block]; exact hn120_0) | exact hn120_0) (.int .i64 ((rd_T37 l0 x32_3).f0))).trans hx120_0; replace hx120_0 := (cell_far (p := ⟨gb119, 1, none⟩) (by first | (rw [add_block]; exact hn120_1) | (show (Addr.add _ _).block ≠ _; rw [add_block]; exact hn120_1) | exact hn120_1) (.int .i64 ((rd_T37 l0 x32_3).f1))).trans hx120_0; clear hn120_0; clear hn120_1; replace p120 := eq_true p120; replace q120 := eq_true q120; have p121 : 0 ≤ (((rd_T37 l0 x32_3).f1) : Int) := od_; have q121 : ((rd_T37 l0 x32_3).f1) < (x7_3.length : Int) := od_; obtain ⟨ad121, e121, hx121_0⟩ := Kd.at_int (Kd.R_reads' HO_7.out).2.2 ((rd_T37 l0 x32_3).f1) p121 q121; obtain rfl : (⟨go17, 0, none⟩ : Addr) = ad121 := (by injection e121); (first | simp only [add_plain] at hx121_0 | simp only [add_at] at hx121_0 | simp only [Addr.add, Nat.zero_add] at hx121_0 | skip); have hn121_0 : (⟨go17, 0, none⟩ : Addr).block ≠ gb119 := Kd.own_blk (Kd.R_ne HO_7.out BK119.out (by decide)); have hn121_1 : (⟨go17, 0, none⟩ : Addr).block ≠ gb119 := Kd.own_blk (Kd.R_ne HO_7.out BK119.out (by decide)); replace hx121_0 := (cell_far (p := ⟨gb119, 0, none⟩) (by first | (rw [add_block]; exact hn121_0) | (show (Addr.add _ _).block ≠ _; rw [add_block]; exact hn121_0) | exact hn121_0) (.int .i64 ((rd_T37 l0 x32_3).f0))).trans hx121_0; replace hx121_0 := (cell_far (p := ⟨gb119, 1, none⟩) (by first | (rw [add_block]; exact hn121_1) | (show (Addr.add _ _).block ≠ _; rw [add_block]; exact hn121_1) | exact hn121_1) (.int .i64 ((rd_T37 l0 x32_3).f1))).trans hx121_0; clear hn121_0; clear hn121_1; replace p121 := eq_true p121; replace q121 := eq_true q121))
            (try simp only [← hl7_3])
            go_roundg k3
            case measure => have := HK1.out; have := HK2.out; have := HK3.out; omega
            case rel => exact ⟨(x7_3), (wrap64 (x32_3 + 1)), rs_, H', ⟨by have := HK1.out; have := HK2.out; have := HK3.out; omega⟩, ⟨by (try simp only [hl7_1]); (try simp only [hl7_2]); (try simp only [hl7_3]); refine kr_ ?_; exact Kd.R_mono (Kd.R_far (p := ⟨gb119, 1, none⟩) (Kd.R_far (p := ⟨gb119, 0, none⟩) (Kd.R_types HO_7.out BK119.out (by decide)) (fun _ hk => hk.2) (.int .i64 ((rd_T37 l0 x32_3).f0))) (fun _ hk => hk.2) (.int .i64 ((rd_T37 l0 x32_3).f1))) (fun _ hk => trivial)⟩, ⟨bl_⟩⟩
          ·rw [if_neg c26] at H
           have c26b0 : ((rd x7_3 ((rd_T37 l0 x32_3).f0)) == x27_2) = false := beq_eq_false_iff_ne.mpr c26
           have c26b1 : ((rd x7_3 ((rd_T37 l0 x32_3).f0)) != x27_2) = true := bne_iff_ne.mpr c26
           have H' := Aside0.mk H
           clear H
           have p118 : 0 ≤ (x32_3 : Int) := od_
           have q118 : x32_3 < (l0.length : Int) := od_
           obtain ⟨ad118, e118, hx118_0, hx118_1⟩ := at_T37 HR0.out x32_3 p118 q118
           cases e118
           replace hx118_0 := hc_ HB hx118_0
           replace hx118_1 := hc_ HB hx118_1
           replace p118 := eq_true p118
           replace q118 := eq_true q118
           go_wp2_with (first | ((with_reducible refine gate_dst (N := 11) rfl ?_); refine be_ #[.int .i64 0, .int .i64 0] 37 ?_; intro gb119 hg w39 hbox hb; replace HO_7 := rb_ HO_7 hb; have BK119 := Aside0.mk (hbox); have GW119 := gw_ hg; have GE119 := gw_ hg; replace HB := hb_ hb; clear hb hbox hg; have hcz40_0 := bc_ BK119 0 (.int .i64 0); have hcz40_1 := bc_ BK119 1 (.int .i64 0); have hfz40_0 := bz_ BK119 0; have hfz40_1 := bz_ BK119 1; have p120 : 0 ≤ (((rd_T37 l0 x32_3).f0) : Int) := od_; have q120 : ((rd_T37 l0 x32_3).f0) < (x7_3.length : Int) := od_; obtain ⟨ad120, e120, hx120_0⟩ := Kd.at_int (Kd.R_reads' HO_7.out).2.2 ((rd_T37 l0 x32_3).f0) p120 q120; obtain rfl : (⟨go17, 0, none⟩ : Addr) = ad120 := (by injection e120); (first | simp only [add_plain] at hx120_0 | simp only [add_at] at hx120_0 | simp only [Addr.add, Nat.zero_add] at hx120_0 | skip); have hn120_0 : (⟨go17, 0, none⟩ : Addr).block ≠ gb119 := Kd.own_blk (Kd.R_ne HO_7.out BK119.out (by decide)); have hn120_1 : (⟨go17, 0, none⟩ : Addr).block ≠ gb119 := Kd.own_blk (Kd.R_ne HO_7.out BK119.out (by decide)); replace hx120_0 := (cell_far (p := ⟨gb119, 0, none⟩) (by first | (rw [add_block]; exact hn120_0) | (show (Addr.add _ _).block ≠ _; rw [add_block]; exact hn120_0) | exact hn120_0) (.int .i64 ((rd_T37 l0 x32_3).f0))).trans hx120_0; replace hx120_0 := (cell_far (p := ⟨gb119, 1, none⟩) (by first | (rw [add_block]; exact hn120_1) | (show (Addr.add _ _).block ≠ _; rw [add_block]; exact hn120_1) | exact hn120_1) (.int .i64 ((rd_T37 l0 x32_3).f1))).trans hx120_0; clear hn120_0; clear hn120_1; replace p120 := eq_true p120; replace q120 := eq_true q120))
           (try simp only [← hl7_3])
           go_roundg k3
           case measure => have := HK1.out; have := HK2.out; have := HK3.out; omega
           case rel => exact ⟨(x7_3), (wrap64 (x32_3 + 1)), rs_, H', ⟨by have := HK1.out; have := HK2.out; have := HK3.out; omega⟩, ⟨by (try simp only [hl7_1]); (try simp only [hl7_2]); (try simp only [hl7_3]); refine kr_ ?_; exact Kd.R_mono (Kd.R_far (p := ⟨gb119, 1, none⟩) (Kd.R_far (p := ⟨gb119, 0, none⟩) (Kd.R_types HO_7.out BK119.out (by decide)) (fun _ hk => hk.2) (.int .i64 ((rd_T37 l0 x32_3).f0))) (fun _ hk => hk.2) (.int .i64 ((rd_T37 l0 x32_3).f1))) (fun _ hk => trivial)⟩, ⟨bl_⟩⟩
         ·rw [if_neg c21] at H
          have c21b0 : decide (x32_3 < (l0.length : Int)) = false := decide_eq_false c21
          clear c21
          have H' := Aside0.mk H
          clear H
          go_wp2
          (try simp only [← hl7_2, ← hl7_3])
          go_roundg k3
          case measure => have := HK1.out; have := HK2.out; have := HK3.out; omega
          case rel => exact ⟨(x7_3), (wrap64 (x27_2 + 1)), rs_, H', ⟨by have := HK1.out; have := HK2.out; have := HK3.out; omega⟩, ⟨by (try simp only [hl7_1]); (try simp only [hl7_2]); (try simp only [hl7_3]); refine kr_ ?_; exact HO_7.out⟩, ⟨bl_⟩⟩
      ·rw [if_neg c20] at H
       have c20b0 : decide (x27_2 < a1) = false := decide_eq_false c20
       clear c20
       obtain rfl := Option.some.inj H
       go_wp2
       go_ret
       exact ⟨_, er_, by refine kr_ ?_; exact HO_7.out, bl_⟩

end Go.Proofs.Ytlcgoacmlbeliaa.P
