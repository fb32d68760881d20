-- Written by wip/tools/myprint.py of this session's repo, over the kit's printer and hand texts.
import Derived.Test.YtlcgoacmlbeliaaDoorPx0
import Derived.Test.YtlcgoacmlbeliaaDoorPre
namespace Go.Proofs.YtlcgoacmlbeliaaDoor.P
open Go.RowKit Go.Proofs.YtlcgoacmlbeliaaDoorW.PrintWords Go.Proofs.YtlcgoacmlbeliaaDoorW.PrintLast Go.Proofs.YtlcgoacmlbeliaaDoorW.PrintMore
attribute [local go_sem] max2_int min2_int max_two min_two max_three min_three max_four min_four   -- for this text's walks alone
set_option linter.unusedVariables false
set_option linter.unusedSimpArgs false

/-! ### oneway_read: function 18 -/
mutual
def oneway_read.j0 : Nat → Int → List (S39) → Bool → Option (Int × (List (S39)) × Int)
  | 0, _, _, _ => none
  | k + 1, x0, x1, x8 => if x8 = true then (some (0, ([] : List (S39)), 2)) else (if (x1.length : Int) > 14 then (some (0, ([] : List (S39)), 3)) else (oneway_read.l0 k x0 x1 x1 (x1.length : Int) 0))
def oneway_read.l0 : Nat → Int → List (S39) → List (S39) → Int → Int → Option (Int × (List (S39)) × Int)
  | 0, _, _, _, _, _ => none
  | k + 1, x0, x1, x21, x22, x23 => if x23 < x22 then (if 0 ≤ x23 then (if x23 < (x21.length : Int) then (if (mn ((rd_T39 x21 x23).f0) ((rd_T39 x21 x23).f1)) < 0 then (some (0, ([] : List (S39)), 2)) else (if (mx ((rd_T39 x21 x23).f0) ((rd_T39 x21 x23).f1)) ≥ x0 then (some (0, ([] : List (S39)), 2)) else (if ((rd_T39 x21 x23).f0) = ((rd_T39 x21 x23).f1) then (some (0, ([] : List (S39)), 2)) else (oneway_read.l0 k x0 x1 x21 x22 (wrap64 (x23 + 1)))))) else (none)) else (none)) else (some (x0, x1, 0))
end
def oneway_read.f (k : Nat) (a0 : Int) (l1 : List (S39)) : Option (Int × (List (S39)) × Int) := if a0 < 1 then (oneway_read.j0 k a0 l1 true) else (oneway_read.j0 k a0 l1 (decide (a0 > 7)))
theorem oneway_read.mono_l : ∀ k, (∀ y0 y1 y2, LeO (oneway_read.j0 k y0 y1 y2) (oneway_read.j0 (k + 1) y0 y1 y2)) ∧ (∀ y0 y1 y2 y3 y4, LeO (oneway_read.l0 k y0 y1 y2 y3 y4) (oneway_read.l0 (k + 1) y0 y1 y2 y3 y4))
  | 0 => ⟨fun _ _ _ r h => by simp [oneway_read.j0] at h, fun _ _ _ _ _ r h => by simp [oneway_read.l0] at h⟩
  | k + 1 => by
    obtain ⟨ih0, ih1⟩ := oneway_read.mono_l k
    refine ⟨?_, ?_⟩
    · intro y0 y1 y2
      unfold oneway_read.j0
      with_reducible repeat' first | exact ih0 _ _ _ | exact ih1 _ _ _ _ _ | exact LeO.refl _ | exact LeO.none _ | refine LeO.ite ?_ ?_ | refine LeO.bind ?_ (fun _ => ?_)
    · intro y0 y1 y2 y3 y4
      unfold oneway_read.l0
      with_reducible repeat' first | exact ih0 _ _ _ | exact ih1 _ _ _ _ _ | exact LeO.refl _ | exact LeO.none _ | refine LeO.ite ?_ ?_ | refine LeO.bind ?_ (fun _ => ?_)
theorem oneway_read.mono : ∀ a0 a1 k, LeO (oneway_read.f k a0 a1) (oneway_read.f (k + 1) a0 a1) := by
  intro a0 a1 k
  obtain ⟨ih0, ih1⟩ := oneway_read.mono_l k
  unfold oneway_read.f
  with_reducible repeat' first | exact ih0 _ _ _ | exact ih1 _ _ _ _ _ | exact LeO.refl _ | exact LeO.none _ | refine LeO.ite ?_ ?_ | refine LeO.bind ?_ (fun _ => ?_)
set_option maxHeartbeats 8000000 in
set_option maxRecDepth 100000 in
theorem oneway_read.calls (k : Nat) (a0 : Int) (P1_ : Nat → Prop) (A1 : Option Addr) (c1 : Nat) (l1 : List (S39)) (r1 : Int) (r2 : List (S39)) (r3 : Int) (w : World) (hs1 : Kd.V k39 39 w w.heap.size (fun k_ => P1_ k_) (.slice A1 l1.length c1) l1) (h : oneway_read.f k a0 l1 = some (r1, r2, r3)) :
    Calls Tryd.prog 18 #[.int .i64 a0, .slice A1 l1.length c1] w fun e w' => ∃ v1_ : Value, e = .returned (.tuple #[.agg #[.int .i64 r1, v1_], .int .i64 r3]) ∧ Kd.V k39 39 w' w.heap.size (fun k_ => (P1_ k_ ∨ w.heap.size ≤ k_)) v1_ r2 ∧ Below w.heap.size w w' := by
 have hu41 := Tryd.underlying41
 have hu39 := Tryd.underlying39
 have HO1 := Aside0.mk (show Kd.V k39 39 w w.heap.size (fun k_ => (P1_ k_ ∨ w.heap.size ≤ k_)) (.slice A1 l1.length c1) l1 from Kd.V_mono hs1 (fun k_ hk => .inl hk))
 have HB := Aside0.mk (Below.refl w.heap.size w)
 have H : (if a0 < 1 then (oneway_read.j0 k a0 l1 true) else (oneway_read.j0 k a0 l1 (decide (a0 > 7)))) = some (r1, r2, r3) := h
 clear h
 have HC3 := Aside0.mk H
 clear H
 go_enter Tryd.func18, Tryd.ntmps18
 go_upto_region 1 with (first | ((with_reducible refine gate_dst (N := 4) rfl ?_); (try (refine gate_guard (by rfl) ?_; dsimp only)); refine be_ #[.int .i64 0, .slice none 0 0] 41 ?_; intro gb177 hg w4 hbox hb; replace HO1 := ve_ HO1 hg hb; have BK177 := Aside0.mk (hbox); have GW177 := gw_ hg; have GE177 := gw_ hg; replace HB := hb_ hb; clear hb hbox hg))
 (try simp only [Act.put, List.setIfInBounds_toArray, List.set_cons_zero, List.set_cons_succ])
 go_cut [8] (fun v8 wc => ∃ (kq : Nat) (x8_2 : Bool), v8 = .bool x8_2 ∧ Aside0 (oneway_read.j0 kq a0 l1 x8_2 = some (r1, r2, r3)) ∧ Aside0 (kq ≤ k) ∧ Aside0 (Kd.V k39 39 wc w.heap.size (fun k_ => (P1_ k_ ∨ w.heap.size ≤ k_) ∧ k_ ≠ gb177) (.slice A1 l1.length c1) l1) ∧ Aside0 (wc.heap[gb177]? = some (.cells #[.int .i64 0, (.slice none 0 0)] 41 (0, 0))) ∧ Aside0 (Below w.heap.size w wc))
 case first =>
  have H := HC3.out
  clear HC3
  by_cases c5 : a0 < 1
  ·rw [if_pos c5] at H
   have c5b0 : decide (a0 < 1) = true := decide_eq_true c5
   clear c5
   (first | rw [c5b0] | (simp only [i64_w, i32_w]; rw [c5b0]) | skip)
   have H' := Aside0.mk H
   clear H
   go_wp2
   go_meet
   case rel => exact ⟨_, (true), rs_, H', ⟨by first | omega | exact Nat.le_refl _⟩, ⟨kv_ HO1.out⟩, ⟨bk_ BK177.out⟩, ⟨bl_⟩⟩
  ·rw [if_neg c5] at H
   have c5b0 : decide (a0 < 1) = false := decide_eq_false c5
   clear c5
   (first | rw [c5b0] | (simp only [i64_w, i32_w]; rw [c5b0]) | skip)
   have H' := Aside0.mk H
   clear H
   go_wp2
   go_meet
   case rel => exact ⟨_, (decide (a0 > 7)), rs_, H', ⟨by first | omega | exact Nat.le_refl _⟩, ⟨kv_ HO1.out⟩, ⟨bk_ BK177.out⟩, ⟨bl_⟩⟩
 case rest =>
  clear HC3
  try clear c1
  try clear p2
  try clear c5
  try clear c5b0
  obtain ⟨kq, x8_2, rfl, HA, HJ2, HO_1, BK177, HB⟩ := hcut
  cases kq with
  | zero => exact absurd HA.out (by simp [oneway_read.j0])
  | succ kj2 =>
   have H := HA.out
   clear HA
   simp only [oneway_read.j0] at H
   by_cases c6 : x8_2 = true
   ·subst c6
    have H1 : (some (0, ([] : List (S39)), 2)) = some (r1, r2, r3) := by rw [if_pos rfl] at H; exact H
    clear H
    have H := H1
    clear H1
    simp only [Option.some.injEq, Prod.mk.injEq] at H
    obtain ⟨rfl, rfl, rfl⟩ := H
    have hcz7_0 := bc_ BK177 0 (.int .i64 0)
    have hcz7_1 := bc_ BK177 1 (.slice none 0 0)
    have hfz7_0 := bz_ BK177 0
    have hfz7_1 := bz_ BK177 1
    go_wp2
    refine bodyPost_ret (results_ct rfl _ _ gb177 41 #[.int .i64 0, .slice none 0 0] (0, 0) _ rfl (by refine bk_ ?_; refine blk_put (cs := #[.int .i64 0, .slice none 0 0]) ?_ 1 _ rfl; refine bk_ ?_; refine blk_put (cs := #[.int .i64 0, .slice none 0 0]) ?_ 0 _ rfl; refine bk_ ?_; exact BK177.out) Tryd.underlying41 rfl (by kernel_rfl)) rfl ?_
    exact ⟨_, er_, Kd.V_nil _ _ _ _ _, bl_⟩
   ·replace c6 := Bool.eq_false_iff.mpr c6
    subst c6
    have H1 : (if (l1.length : Int) > 14 then (some (0, ([] : List (S39)), 3)) else (oneway_read.l0 kj2 a0 l1 l1 (l1.length : Int) 0)) = some (r1, r2, r3) := by rw [if_neg (show ¬ (false = true) by decide)] at H; exact H
    clear H
    have H := H1
    clear H1
    by_cases c8 : (l1.length : Int) > 14
    ·rw [if_pos c8] at H
     have c8b0 : decide (14 < (l1.length : Int)) = true := decide_eq_true c8
     have c8b1 : decide (14 < l1.length) = true := decide_eq_true (by omega)
     clear c8
     simp only [Option.some.injEq, Prod.mk.injEq] at H
     obtain ⟨rfl, rfl, rfl⟩ := H
     have hcz9_0 := bc_ BK177 0 (.int .i64 0)
     have hcz9_1 := bc_ BK177 1 (.slice none 0 0)
     have hfz9_0 := bz_ BK177 0
     have hfz9_1 := bz_ BK177 1
     go_wp2
     refine bodyPost_ret (results_ct rfl _ _ gb177 41 #[.int .i64 0, .slice none 0 0] (0, 0) _ rfl (by refine bk_ ?_; refine blk_put (cs := #[.int .i64 0, .slice none 0 0]) ?_ 1 _ rfl; refine bk_ ?_; refine blk_put (cs := #[.int .i64 0, .slice none 0 0]) ?_ 0 _ rfl; refine bk_ ?_; exact BK177.out) Tryd.underlying41 rfl (by kernel_rfl)) rfl ?_
     exact ⟨_, er_, Kd.V_nil _ _ _ _ _, bl_⟩
    ·rw [if_neg c8] at H
     have c8b0 : decide (14 < (l1.length : Int)) = false := decide_eq_false c8
     have c8b1 : decide (14 < l1.length) = false := decide_eq_false (by omega)
     clear c8
     have H' := Aside0.mk H
     clear H
     go_wp2
     go_loopg [23] kj2 (fun kq v23 w' => ∃ (x23_2 : Int) (x178000_2 : Int), v23 = .int .i64 x23_2 ∧ Aside0 (oneway_read.l0 kq a0 l1 l1 (l1.length : Int) x23_2 = some (r1, r2, r3)) ∧ Aside0 (kq ≤ kj2) ∧ Aside0 (Kd.V k39 39 w' w.heap.size (fun k_ => (P1_ k_ ∨ w.heap.size ≤ k_) ∧ k_ ≠ gb177) (.slice A1 l1.length c1) l1) ∧ Aside0 (Kd.V k39 39 w' w.heap.size (fun k_ => (P1_ k_ ∨ w.heap.size ≤ k_) ∧ k_ ≠ gb177) (.slice A1 l1.length c1) l1) ∧ Aside0 (w'.heap[gb177]? = some (.cells #[.int .i64 x178000_2, (.slice none 0 0)] 41 (0, 0))) ∧ Aside0 (Below w.heap.size w w'))
     case atStart => exact ⟨(0), (0), rs_, H', ⟨Nat.le_refl _⟩, ⟨kv_ HO_1.out⟩, ⟨kv_ HO_1.out⟩, ⟨bk_ BK177.out⟩, ⟨bl_⟩⟩
     case round =>
      clear H'
      try clear c1
      try clear p2
      try clear c5
      try clear c5b0
      try clear c6
      try clear c8
      try clear c8b0
      try clear c8b1
      try clear hcz7_0
      try clear hcz7_1
      try clear hcz9_0
      try clear hcz9_1
      try clear hfz7_0
      try clear hfz7_1
      try clear hfz9_0
      try clear hfz9_1
      try clear p2
      obtain ⟨x23_2, x178000_2, rfl, HA, HK2, HO_1, HO_21, BK177, HB⟩ := hrel
      cases gk with
      | zero => exact absurd HA.out (by simp [oneway_read.l0])
      | succ k2 =>
       have H := HA.out
       clear HA
       simp only [oneway_read.l0] at H
       by_cases c10 : x23_2 < (l1.length : Int)
       ·rw [if_pos c10] at H
        have c10b0 : decide (x23_2 < (l1.length : Int)) = true := decide_eq_true c10
        clear c10
        obtain ⟨c11b0, H⟩ := fp_ H
        obtain ⟨c12b0, H⟩ := fp_ H
        obtain ⟨ji13, hji13⟩ : ∃ j_ : Int, (mn ((rd_T39 l1 x23_2).f0) ((rd_T39 l1 x23_2).f1)) = j_ := ⟨_, rfl⟩
        replace H : (if (ji13) < 0 then (some (0, ([] : List (S39)), 2)) else (if (mx ((rd_T39 l1 x23_2).f0) ((rd_T39 l1 x23_2).f1)) ≥ a0 then (some (0, ([] : List (S39)), 2)) else (if ((rd_T39 l1 x23_2).f0) = ((rd_T39 l1 x23_2).f1) then (some (0, ([] : List (S39)), 2)) else (oneway_read.l0 k2 a0 l1 l1 (l1.length : Int) (wrap64 (x23_2 + 1)))))) = some (r1, r2, r3) := by first | (rw [hji13] at H; exact H) | (simp only [hji13] at H ⊢; exact H)
        have hji13_ : (if ((rd_T39 l1 x23_2).f1) < ((rd_T39 l1 x23_2).f0) then ((rd_T39 l1 x23_2).f1) else ((rd_T39 l1 x23_2).f0)) = ji13 := hji13
        by_cases c14 : (ji13) < 0
        ·rw [if_pos c14] at H
         have c14b0 : decide ((ji13) < 0) = true := decide_eq_true c14
         clear c14
         simp only [Option.some.injEq, Prod.mk.injEq] at H
         obtain ⟨rfl, rfl, rfl⟩ := H
         have p178 : 0 ≤ (x23_2 : Int) := od_
         have q178 : x23_2 < (l1.length : Int) := od_
         obtain ⟨ad178, e178, hx178_0, hx178_1⟩ := at_T39 (Kd.V_reads' HO_21.out).2.2 x23_2 p178 q178
         cases e178
         replace p178 := eq_true p178
         replace q178 := eq_true q178
         go_wp2_with (first | ((with_reducible refine gate_dst (N := 7) rfl ?_); (try (refine gate_guard (by rfl) ?_; dsimp only)); refine be_ #[.int .i64 0, .int .i64 0] 39 ?_; intro gb179 hg w15 hbox hb; replace HO_1 := ve_ HO_1 hg hb; replace HO_21 := ve_ HO_21 hg hb; have BK179 := Aside0.mk (hbox); have GW179 := gw_ hg; have GE179 := gw_ hg; replace HB := hb_ hb; have NB177_179 := nl_ hg BK177; have NB179_177 := sy_ NB177_179; replace BK177 := bb_ BK177 hb; clear hb hbox hg; have hnb16 := NB179_177.out; have hnc16 := NB177_179.out; have hcz17_0 := bc_ BK179 0 (.int .i64 0); have hcz17_1 := bc_ BK179 1 (.int .i64 0); have hfz17_0 := bz_ BK179 0; have hfz17_1 := bz_ BK179 1; have hcz18_0 := bc_ BK177 0 (.int .i64 x178000_2); have hcz18_1 := bc_ BK177 1 (.slice none 0 0); have hfz18_0 := bz_ BK177 0; have hfz18_1 := bz_ BK177 1))
         refine bodyPost_ret (results_ct rfl _ _ gb177 41 #[.int .i64 0, .slice none 0 0] (0, 0) _ rfl (by refine bk_ ?_; refine blk_put (cs := #[.int .i64 0, .slice none 0 0]) ?_ 1 _ rfl; refine bk_ ?_; refine blk_put (cs := #[.int .i64 x178000_2, .slice none 0 0]) ?_ 0 _ rfl; refine bk_ ?_; refine blk_far ?_ NB177_179.out _; refine bk_ ?_; refine blk_far ?_ NB177_179.out _; refine bk_ ?_; exact BK177.out) Tryd.underlying41 rfl (by kernel_rfl)) rfl ?_
         exact ⟨_, by first | rfl | (simp [errW_none, errW_some] <;> rfl) | (simp only [← hji13]; first | rfl | (simp [errW_none, errW_some] <;> rfl)) | (simp [*, errW_none, errW_some] <;> rfl), Kd.V_nil _ _ _ _ _, bl_⟩
        ·rw [if_neg c14] at H
         have c14b0 : decide ((ji13) < 0) = false := decide_eq_false c14
         clear c14
         obtain ⟨ji19, hji19⟩ : ∃ j_ : Int, (mx ((rd_T39 l1 x23_2).f0) ((rd_T39 l1 x23_2).f1)) = j_ := ⟨_, rfl⟩
         replace H : (if (ji19) ≥ a0 then (some (0, ([] : List (S39)), 2)) else (if ((rd_T39 l1 x23_2).f0) = ((rd_T39 l1 x23_2).f1) then (some (0, ([] : List (S39)), 2)) else (oneway_read.l0 k2 a0 l1 l1 (l1.length : Int) (wrap64 (x23_2 + 1))))) = some (r1, r2, r3) := by first | (rw [hji19] at H; exact H) | (simp only [hji19] at H ⊢; exact H)
         have hji19_ : (if ((rd_T39 l1 x23_2).f0) < ((rd_T39 l1 x23_2).f1) then ((rd_T39 l1 x23_2).f1) else ((rd_T39 l1 x23_2).f0)) = ji19 := hji19
         by_cases c20 : (ji19) ≥ a0
         ·rw [if_pos c20] at H
          have c20b0 : decide (a0 ≤ (ji19)) = true := decide_eq_true c20
          clear c20
          simp only [Option.some.injEq, Prod.mk.injEq] at H
          obtain ⟨rfl, rfl, rfl⟩ := H
          have p178 : 0 ≤ (x23_2 : Int) := od_
          have q178 : x23_2 < (l1.length : Int) := od_
          obtain ⟨ad178, e178, hx178_0, hx178_1⟩ := at_T39 (Kd.V_reads' HO_21.out).2.2 x23_2 p178 q178
          cases e178
          replace p178 := eq_true p178
          replace q178 := eq_true q178
          go_wp2_with (first | ((with_reducible refine gate_dst (N := 7) rfl ?_); (try (refine gate_guard (by rfl) ?_; dsimp only)); refine be_ #[.int .i64 0, .int .i64 0] 39 ?_; intro gb179 hg w21 hbox hb; replace HO_1 := ve_ HO_1 hg hb; replace HO_21 := ve_ HO_21 hg hb; have BK179 := Aside0.mk (hbox); have GW179 := gw_ hg; have GE179 := gw_ hg; replace HB := hb_ hb; have NB177_179 := nl_ hg BK177; have NB179_177 := sy_ NB177_179; replace BK177 := bb_ BK177 hb; clear hb hbox hg; have hnb22 := NB179_177.out; have hnc22 := NB177_179.out; have hcz23_0 := bc_ BK179 0 (.int .i64 0); have hcz23_1 := bc_ BK179 1 (.int .i64 0); have hfz23_0 := bz_ BK179 0; have hfz23_1 := bz_ BK179 1; have hcz24_0 := bc_ BK177 0 (.int .i64 x178000_2); have hcz24_1 := bc_ BK177 1 (.slice none 0 0); have hfz24_0 := bz_ BK177 0; have hfz24_1 := bz_ BK177 1))
          refine bodyPost_ret (results_ct rfl _ _ gb177 41 #[.int .i64 0, .slice none 0 0] (0, 0) _ rfl (by refine bk_ ?_; refine blk_put (cs := #[.int .i64 0, .slice none 0 0]) ?_ 1 _ rfl; refine bk_ ?_; refine blk_put (cs := #[.int .i64 x178000_2, .slice none 0 0]) ?_ 0 _ rfl; refine bk_ ?_; refine blk_far ?_ NB177_179.out _; refine bk_ ?_; refine blk_far ?_ NB177_179.out _; refine bk_ ?_; exact BK177.out) Tryd.underlying41 rfl (by kernel_rfl)) rfl ?_
          exact ⟨_, by first | rfl | (simp [errW_none, errW_some] <;> rfl) | (simp only [← hji13, ← hji19]; first | rfl | (simp [errW_none, errW_some] <;> rfl)) | (simp [*, errW_none, errW_some] <;> rfl), Kd.V_nil _ _ _ _ _, bl_⟩
         ·rw [if_neg c20] at H
          have c20b0 : decide (a0 ≤ (ji19)) = false := decide_eq_false c20
          clear c20
          by_cases c25 : ((rd_T39 l1 x23_2).f0) = ((rd_T39 l1 x23_2).f1)
          ·rw [if_pos c25] at H
           have c25b0 : (((rd_T39 l1 x23_2).f0) == ((rd_T39 l1 x23_2).f1)) = true := beq_iff_eq.mpr c25
           have c25b1 : (((rd_T39 l1 x23_2).f0) != ((rd_T39 l1 x23_2).f1)) = false := bne_eq_false_iff_eq.mpr c25
           clear c25
           simp only [Option.some.injEq, Prod.mk.injEq] at H
           obtain ⟨rfl, rfl, rfl⟩ := H
           have p178 : 0 ≤ (x23_2 : Int) := od_
           have q178 : x23_2 < (l1.length : Int) := od_
           obtain ⟨ad178, e178, hx178_0, hx178_1⟩ := at_T39 (Kd.V_reads' HO_21.out).2.2 x23_2 p178 q178
           cases e178
           replace p178 := eq_true p178
           replace q178 := eq_true q178
           go_wp2_with (first | ((with_reducible refine gate_dst (N := 7) rfl ?_); (try (refine gate_guard (by rfl) ?_; dsimp only)); refine be_ #[.int .i64 0, .int .i64 0] 39 ?_; intro gb179 hg w26 hbox hb; replace HO_1 := ve_ HO_1 hg hb; replace HO_21 := ve_ HO_21 hg hb; have BK179 := Aside0.mk (hbox); have GW179 := gw_ hg; have GE179 := gw_ hg; replace HB := hb_ hb; have NB177_179 := nl_ hg BK177; have NB179_177 := sy_ NB177_179; replace BK177 := bb_ BK177 hb; clear hb hbox hg; have hnb27 := NB179_177.out; have hnc27 := NB177_179.out; have hcz28_0 := bc_ BK179 0 (.int .i64 0); have hcz28_1 := bc_ BK179 1 (.int .i64 0); have hfz28_0 := bz_ BK179 0; have hfz28_1 := bz_ BK179 1; have hcz29_0 := bc_ BK177 0 (.int .i64 x178000_2); have hcz29_1 := bc_ BK177 1 (.slice none 0 0); have hfz29_0 := bz_ BK177 0; have hfz29_1 := bz_ BK177 1))
           refine bodyPost_ret (results_ct rfl _ _ gb177 41 #[.int .i64 0, .slice none 0 0] (0, 0) _ rfl (by refine bk_ ?_; refine blk_put (cs := #[.int .i64 0, .slice none 0 0]) ?_ 1 _ rfl; refine bk_ ?_; refine blk_put (cs := #[.int .i64 x178000_2, .slice none 0 0]) ?_ 0 _ rfl; refine bk_ ?_; refine blk_far ?_ NB177_179.out _; refine bk_ ?_; refine blk_far ?_ NB177_179.out _; refine bk_ ?_; exact BK177.out) Tryd.underlying41 rfl (by kernel_rfl)) rfl ?_
           exact ⟨_, by first | rfl | (simp [errW_none, errW_some] <;> rfl) | (simp only [← hji13, ← hji19]; first | rfl | (simp [errW_none, errW_some] <;> rfl)) | (simp [*, errW_none, errW_some] <;> rfl), Kd.V_nil _ _ _ _ _, bl_⟩
          ·rw [if_neg c25] at H
           have c25b0 : (((rd_T39 l1 x23_2).f0) == ((rd_T39 l1 x23_2).f1)) = false := beq_eq_false_iff_ne.mpr c25
           have c25b1 : (((rd_T39 l1 x23_2).f0) != ((rd_T39 l1 x23_2).f1)) = true := bne_iff_ne.mpr c25
           have H' := Aside0.mk H
           clear H
           have p178 : 0 ≤ (x23_2 : Int) := od_
           have q178 : x23_2 < (l1.length : Int) := od_
           obtain ⟨ad178, e178, hx178_0, hx178_1⟩ := at_T39 (Kd.V_reads' HO_21.out).2.2 x23_2 p178 q178
           cases e178
           replace p178 := eq_true p178
           replace q178 := eq_true q178
           go_wp2_with (first | ((with_reducible refine gate_dst (N := 7) rfl ?_); (try (refine gate_guard (by rfl) ?_; dsimp only)); refine be_ #[.int .i64 0, .int .i64 0] 39 ?_; intro gb179 hg w30 hbox hb; replace HO_1 := ve_ HO_1 hg hb; replace HO_21 := ve_ HO_21 hg hb; have BK179 := Aside0.mk (hbox); have GW179 := gw_ hg; have GE179 := gw_ hg; replace HB := hb_ hb; have NB177_179 := nl_ hg BK177; have NB179_177 := sy_ NB177_179; replace BK177 := bb_ BK177 hb; clear hb hbox hg; have hnb31 := NB179_177.out; have hnc31 := NB177_179.out; have hcz32_0 := bc_ BK179 0 (.int .i64 0); have hcz32_1 := bc_ BK179 1 (.int .i64 0); have hfz32_0 := bz_ BK179 0; have hfz32_1 := bz_ BK179 1))
           go_roundg k2
           case measure => have := HJ2.out; have := HK2.out; omega
           case rel => exact ⟨(wrap64 (x23_2 + 1)), (x178000_2), rs_, H', ⟨by have := HJ2.out; have := HK2.out; omega⟩, ⟨by refine kv_ ?_; exact Kd.V_mono (Kd.V_far (p := ⟨gb179, 1, none⟩) (Kd.V_far (p := ⟨gb179, 0, none⟩) (Kd.V_mono HO_1.out (fun k_ hk => (⟨hk, hk.2⟩ : _ ∧ k_ ≠ gb179))) (fun _ hk => hk.2) (.int .i64 ((rd_T39 l1 x23_2).f0))) (fun _ hk => hk.2) (.int .i64 ((rd_T39 l1 x23_2).f1))) (fun _ hk => ⟨hk.1.1.1, hk.1.1.2⟩)⟩, ⟨by refine kv_ ?_; exact Kd.V_mono (Kd.V_far (p := ⟨gb179, 1, none⟩) (Kd.V_far (p := ⟨gb179, 0, none⟩) (Kd.V_mono HO_21.out (fun k_ hk => (⟨hk, hk.2⟩ : _ ∧ k_ ≠ gb179))) (fun _ hk => hk.2) (.int .i64 ((rd_T39 l1 x23_2).f0))) (fun _ hk => hk.2) (.int .i64 ((rd_T39 l1 x23_2).f1))) (fun _ hk => ⟨hk.1.1.1, hk.1.1.2⟩)⟩, ⟨by refine bk_ ?_; refine blk_far ?_ NB177_179.out _; refine bk_ ?_; refine blk_far ?_ NB177_179.out _; refine bk_ ?_; exact BK177.out⟩, ⟨bl_⟩⟩
       ·rw [if_neg c10] at H
        have c10b0 : decide (x23_2 < (l1.length : Int)) = false := decide_eq_false c10
        clear c10
        simp only [Option.some.injEq, Prod.mk.injEq] at H
        obtain ⟨rfl, rfl, rfl⟩ := H
        have hcz33_0 := bc_ BK177 0 (.int .i64 x178000_2)
        have hcz33_1 := bc_ BK177 1 (.slice none 0 0)
        have hfz33_0 := bz_ BK177 0
        have hfz33_1 := bz_ BK177 1
        go_wp2
        refine bodyPost_ret (results_ct rfl _ _ gb177 41 #[.int .i64 a0, .slice A1 l1.length c1] (0, 0) _ rfl (by refine bk_ ?_; refine blk_put (cs := #[.int .i64 a0, .slice none 0 0]) ?_ 1 _ rfl; refine bk_ ?_; refine blk_put (cs := #[.int .i64 x178000_2, .slice none 0 0]) ?_ 0 _ rfl; refine bk_ ?_; exact BK177.out) Tryd.underlying41 rfl (by kernel_rfl)) rfl ?_
        exact ⟨_, er_, by refine kv_ ?_; exact Kd.V_mono (Kd.V_far (p := ⟨gb177, 1, none⟩) (Kd.V_far (p := ⟨gb177, 0, none⟩) (Kd.V_mono HO_1.out (fun k_ hk => (⟨hk, hk.2⟩ : _ ∧ k_ ≠ gb177))) (fun _ hk => hk.2) (.int .i64 a0)) (fun _ hk => hk.2) (.slice A1 l1.length c1)) (fun _ hk => hk.1.1), bl_⟩

/-! ### oneway_quarter_both: function 19 -/
def oneway_quarter_both.l0 : Nat → Int → List (S39) → List (S39) → Int → Int → Option ((List (S39)))
  | 0, _, _, _, _, _ => none
  | k + 1, x1, x5, x9, x10, x11 => if x11 < x10 then (if 0 ≤ x11 then (if x11 < (x9.length : Int) then (if x11 = x1 then (oneway_quarter_both.l0 k x1 x5 x9 x10 (wrap64 (x11 + 1))) else ((some (([(⟨(rd_T39 x9 x11).f0, (rd_T39 x9 x11).f1⟩ : S39), (⟨(rd_T39 x9 x11).f1, (rd_T39 x9 x11).f0⟩ : S39)] : List (S39)) : List (S39))).bind fun y183 => (if x5.length + y183.length < 8796093022208 then (oneway_quarter_both.l0 k x1 (x5 ++ y183) x9 x10 (wrap64 (x11 + 1))) else (none)))) else (none)) else (none)) else (some x5)
def oneway_quarter_both.f (k : Nat) (a0_0 : Int) (l0_1 : List (S39)) (a1 : Int) : Option ((List (S39))) := oneway_quarter_both.l0 k a1 ([] : List (S39)) l0_1 (l0_1.length : Int) 0
theorem oneway_quarter_both.mono_l : ∀ k, (∀ y0 y1 y2 y3 y4, LeO (oneway_quarter_both.l0 k y0 y1 y2 y3 y4) (oneway_quarter_both.l0 (k + 1) y0 y1 y2 y3 y4))
  | 0 => fun _ _ _ _ _ r h => by simp [oneway_quarter_both.l0] at h
  | k + 1 => by
    have ih0 := oneway_quarter_both.mono_l k
    · intro y0 y1 y2 y3 y4
      unfold oneway_quarter_both.l0
      with_reducible repeat' first | exact ih0 _ _ _ _ _ | exact LeO.refl _ | exact LeO.none _ | refine LeO.ite ?_ ?_ | refine LeO.bind ?_ (fun _ => ?_)
theorem oneway_quarter_both.mono : ∀ a0 a1 a2 k, LeO (oneway_quarter_both.f k a0 a1 a2) (oneway_quarter_both.f (k + 1) a0 a1 a2) := by
  intro a0 a1 a2 k
  have ih0 := oneway_quarter_both.mono_l k
  unfold oneway_quarter_both.f
  with_reducible repeat' first | exact ih0 _ _ _ _ _ | exact LeO.refl _ | exact LeO.none _ | refine LeO.ite ?_ ?_ | refine LeO.bind ?_ (fun _ => ?_)
set_option maxHeartbeats 8000000 in
set_option maxRecDepth 100000 in
theorem oneway_quarter_both.calls (k : Nat) (a0_0 : Int) (A0_1 : Option Addr) (c0_1 : Nat) (l0_1 : List (S39)) (a1 : Int) (r : List (S39)) (w : World) (hr0_1 : Kd.C k39 w A0_1 l0_1.length l0_1) (hc0_1 : l0_1.length ≤ c0_1) (h : oneway_quarter_both.f k a0_0 l0_1 a1 = some r) :
    Calls Tryd.prog 19 #[.agg #[.int .i64 a0_0, .slice A0_1 l0_1.length c0_1], .int .i64 a1] w fun e w' => ∃ v0_ : Value, e = .returned (v0_) ∧ Kd.R k39 39 w' w.heap.size (fun _ => True) v0_ r ∧ Below w.heap.size w w' := by
 have hu41 := Tryd.underlying41
 have hu39 := Tryd.underlying39
 have HR0_1 := Aside0.mk hr0_1
 have HC0_1 := Aside0.mk hc0_1
 clear hr0_1 hc0_1
 have HB := Aside0.mk (Below.refl w.heap.size w)
 have H : (oneway_quarter_both.l0 k a1 ([] : List (S39)) l0_1 (l0_1.length : Int) 0) = some r := h
 clear h
 have H' := Aside0.mk H
 clear H
 go_enter Tryd.func19, Tryd.ntmps19
 go_wp2_with (first | ((with_reducible refine gate_dst (N := 2) rfl ?_); refine be_ #[.int .i64 a0_0, .slice A0_1 l0_1.length c0_1] 41 ?_; intro gb180 hg w3 hbox hb; have BK180 := Aside0.mk (hbox); have GW180 := gw_ hg; have GE180 := gw_ hg; replace HB := hb_ hb; clear hb hbox hg; have hcz4_0 := bc_ BK180 0 (.int .i64 a0_0); have hcz4_1 := bc_ BK180 1 (.slice A0_1 l0_1.length c0_1); have hfz4_0 := bz_ BK180 0; have hfz4_1 := bz_ BK180 1))
 go_loopg [5, 11] k (fun kq v5 v11 w' => ∃ (x5_1 : List (S39)) (x11_1 : Int), v11 = .int .i64 x11_1 ∧ Aside0 (oneway_quarter_both.l0 kq a1 x5_1 l0_1 (l0_1.length : Int) x11_1 = some r) ∧ Aside0 (kq ≤ k) ∧ Aside0 (Kd.R k39 39 w' w.heap.size (fun _ => True) v5 x5_1) ∧ Aside0 (w'.heap[gb180]? = some (.cells #[.int .i64 a0_0, (.slice A0_1 l0_1.length c0_1)] 41 (0, 0))) ∧ Aside0 (Below w.heap.size w w'))
 case atStart => exact ⟨(([] : List (S39))), (0), rs_, H', ⟨Nat.le_refl _⟩, ⟨by first | exact Kd.R_nil _ _ _ _ _ | exact Kd.N_nil _ _ _ _ _ | exact Kd.V_nil _ _ _ _ _ | exact Kd.Q_nil _ _ _ _ _ | exact Kd.S_nil _ _ _ _ _⟩, ⟨bk_ BK180.out⟩, ⟨bl_⟩⟩
 case round =>
  clear H'
  try clear c1
  try clear p2
  try clear hcz4_0
  try clear hcz4_1
  try clear hfz4_0
  try clear hfz4_1
  obtain ⟨x5_1, x11_1, rfl, HA, HK1, HO_5, BK180, HB⟩ := hrel
  cases gk with
  | zero => exact absurd HA.out (by simp [oneway_quarter_both.l0])
  | succ k1 =>
   have H := HA.out
   clear HA
   simp only [oneway_quarter_both.l0] at H
   by_cases c5 : x11_1 < (l0_1.length : Int)
   ·rw [if_pos c5] at H
    have c5b0 : decide (x11_1 < (l0_1.length : Int)) = true := decide_eq_true c5
    clear c5
    obtain ⟨c6b0, H⟩ := fp_ H
    obtain ⟨c7b0, H⟩ := fp_ H
    by_cases c8 : x11_1 = a1
    ·rw [if_pos c8] at H
     have c8b0 : (x11_1 == a1) = true := beq_iff_eq.mpr c8
     have c8b1 : (x11_1 != a1) = false := bne_eq_false_iff_eq.mpr c8
     clear c8
     have H' := Aside0.mk H
     clear H
     have p181 : 0 ≤ (x11_1 : Int) := od_
     have q181 : x11_1 < (l0_1.length : Int) := od_
     obtain ⟨ad181, e181, hx181_0, hx181_1⟩ := at_T39 HR0_1.out x11_1 p181 q181
     cases e181
     replace hx181_0 := hc_ HB hx181_0
     replace hx181_1 := hc_ HB hx181_1
     replace p181 := eq_true p181
     replace q181 := eq_true q181
     go_wp2_with (first | ((with_reducible refine gate_dst (N := 7) rfl ?_); refine be_ #[.int .i64 0, .int .i64 0] 39 ?_; intro gb182 hg w9 hbox hb; replace HO_5 := Aside0.mk (Kd.R_below (Kd.R_elderB (kr_ HO_5.out) gb182 (Nat.le_of_eq hg.symm)) hb); have BK182 := Aside0.mk (hbox); have GW182 := gw_ hg; have GE182 := gw_ hg; replace HB := hb_ hb; have NB180_182 := nl_ hg BK180; have NB182_180 := sy_ NB180_182; replace BK180 := bb_ BK180 hb; clear hb hbox hg; have hnb10 := NB182_180.out; have hnc10 := NB180_182.out; have hcz11_0 := bc_ BK182 0 (.int .i64 0); have hcz11_1 := bc_ BK182 1 (.int .i64 0); have hfz11_0 := bz_ BK182 0; have hfz11_1 := bz_ BK182 1))
     go_roundg k1
     case measure => have := HK1.out; omega
     case rel => exact ⟨(x5_1), (wrap64 (x11_1 + 1)), rs_, H', ⟨by have := HK1.out; omega⟩, ⟨by refine kr_ ?_; exact Kd.R_mono (Kd.R_far (p := ⟨gb182, 1, none⟩) (Kd.R_far (p := ⟨gb182, 0, none⟩) (Kd.R_mono HO_5.out (fun k_ hk => (⟨hk, hk.2⟩ : _ ∧ k_ ≠ gb182))) (fun _ hk => hk.2) (.int .i64 ((rd_T39 l0_1 x11_1).f0))) (fun _ hk => hk.2) (.int .i64 ((rd_T39 l0_1 x11_1).f1))) (fun _ hk => trivial)⟩, ⟨by refine bk_ ?_; refine blk_far ?_ NB180_182.out _; refine bk_ ?_; refine blk_far ?_ NB180_182.out _; refine bk_ ?_; exact BK180.out⟩, ⟨bl_⟩⟩
    ·rw [if_neg c8] at H
     have c8b0 : (x11_1 == a1) = false := beq_eq_false_iff_ne.mpr c8
     have c8b1 : (x11_1 != a1) = true := bne_iff_ne.mpr c8
     obtain ⟨y183, hy183⟩ : ∃ y_ : List (S39), y_ = (([(⟨(rd_T39 l0_1 x11_1).f0, (rd_T39 l0_1 x11_1).f1⟩ : S39), (⟨(rd_T39 l0_1 x11_1).f1, (rd_T39 l0_1 x11_1).f0⟩ : S39)] : List (S39))) := ⟨_, rfl⟩
     replace H : (if x5_1.length + y183.length < 8796093022208 then (oneway_quarter_both.l0 k1 a1 (x5_1 ++ y183) l0_1 (l0_1.length : Int) (wrap64 (x11_1 + 1))) else (none)) = some r := by first | (rw [hy183]; with_reducible exact H) | (have H2_ := (Option.bind_some _ _).symm.trans H; rw [hy183]; with_reducible exact H2_) | (have H2_ := (Option.bind_some _ _).symm.trans H; with_reducible exact H2_) | with_reducible exact H | (rw [hy183]; exact H) | exact H
     have Ny183 := Aside0.mk hy183
     clear hy183
     have c12 : x5_1.length + y183.length < 8796093022208 := fl_ fun c12 => by rw [if_neg c12] at H; exact absurd H (by simp)
     rw [if_pos c12] at H
     have LMc12 := Aside0.mk c12
     clear c12
     obtain ⟨y186, hy186⟩ : ∃ y_ : List (S39), y_ = (x5_1 ++ y183) := ⟨_, rfl⟩
     replace H : (oneway_quarter_both.l0 k1 a1 y186 l0_1 (l0_1.length : Int) (wrap64 (x11_1 + 1))) = some r := by first | (rw [hy186]; with_reducible exact H) | (have H2_ := (Option.bind_some _ _).symm.trans H; rw [hy186]; with_reducible exact H2_) | (have H2_ := (Option.bind_some _ _).symm.trans H; with_reducible exact H2_) | with_reducible exact H | (rw [hy186]; exact H) | exact H
     have Ny186 := Aside0.mk hy186
     clear hy186
     have H' := Aside0.mk H
     clear H
     have p181 : 0 ≤ (x11_1 : Int) := od_
     have q181 : x11_1 < (l0_1.length : Int) := od_
     obtain ⟨ad181, e181, hx181_0, hx181_1⟩ := at_T39 HR0_1.out x11_1 p181 q181
     cases e181
     replace hx181_0 := hc_ HB hx181_0
     replace hx181_1 := hc_ HB hx181_1
     replace p181 := eq_true p181
     replace q181 := eq_true q181
     go_wp2_with (first | ((with_reducible refine gate_dst (N := 7) rfl ?_); refine be_ #[.int .i64 0, .int .i64 0] 39 ?_; intro gb182 hg w13 hbox hb; replace HO_5 := Aside0.mk (Kd.R_below (Kd.R_elderB (kr_ HO_5.out) gb182 (Nat.le_of_eq hg.symm)) hb); have BK182 := Aside0.mk (hbox); have GW182 := gw_ hg; have GE182 := gw_ hg; replace HB := hb_ hb; have NB180_182 := nl_ hg BK180; have NB182_180 := sy_ NB180_182; replace BK180 := bb_ BK180 hb; clear hb hbox hg; have hnb14 := NB182_180.out; have hnc14 := NB180_182.out; have hcz15_0 := bc_ BK182 0 (.int .i64 0); have hcz15_1 := bc_ BK182 1 (.int .i64 0); have hfz15_0 := bz_ BK182 0; have hfz15_1 := bz_ BK182 1) | ((with_reducible refine gate_dst (N := 26) rfl ?_); refine Kd.R_lit k39 _ 39 ?hg (N := 26) ?hd (xs := ([(⟨(rd_T39 l0_1 x11_1).f0, (rd_T39 l0_1 x11_1).f1⟩ : S39), (⟨(rd_T39 l0_1 x11_1).f1, (rd_T39 l0_1 x11_1).f0⟩ : S39)] : List (S39))) (inner := [.int .i64 ((rd_T39 l0_1 x11_1).f0), .int .i64 ((rd_T39 l0_1 x11_1).f1), .int .i64 ((rd_T39 l0_1 x11_1).f1), .int .i64 ((rd_T39 l0_1 x11_1).f0)]) (ok := fun _ => True) (okp := fun _ => True) ?hr ?hp (fun _ hk => hk) trivial (Below.refl _ _) (Nat.le_refl _) (by simp) ?_; (case hd => rfl); (case hg => rfl); (case hr => first | (go_simp; done) | (go_simp; rfl)); (case hp => exact (Reps.c2 (show Kd.M k39 _ _ _ (⟨(rd_T39 l0_1 x11_1).f0, (rd_T39 l0_1 x11_1).f1⟩ : S39) [.int .i64 ((rd_T39 l0_1 x11_1).f0), .int .i64 ((rd_T39 l0_1 x11_1).f1)] from (k39_mkM _ _ _ (⟨(rd_T39 l0_1 x11_1).f0, (rd_T39 l0_1 x11_1).f1⟩ : S39) )) (Reps.c2 (show Kd.M k39 _ _ _ (⟨(rd_T39 l0_1 x11_1).f1, (rd_T39 l0_1 x11_1).f0⟩ : S39) [.int .i64 ((rd_T39 l0_1 x11_1).f1), .int .i64 ((rd_T39 l0_1 x11_1).f0)] from (k39_mkM _ _ _ (⟨(rd_T39 l0_1 x11_1).f1, (rd_T39 l0_1 x11_1).f0⟩ : S39) )) (Reps.none _ _)))); intro v184 w16 ho17 hb hg_ hnew_; clear hg_ hnew_; (first | rw [← Ny183.out] at ho17 | (simp only [Int.reduceToNat] at ho17; rw [← Ny183.out] at ho17)); have HO185 := Aside0.mk (Kd.R_lower (Kd.R_newB (Kd.R_new' ho17 (Kd.R_lt (by refine kr_ ?_; exact (Kd.R_mono (Kd.R_far (p := ⟨gb182, 1, none⟩) (Kd.R_far (p := ⟨gb182, 0, none⟩) (Kd.R_mono HO_5.out (fun k_ hk => (⟨hk, hk.2⟩ : _ ∧ k_ ≠ gb182))) (fun _ hk => hk.2) (.int .i64 ((rd_T39 l0_1 x11_1).f0))) (fun _ hk => hk.2) (.int .i64 ((rd_T39 l0_1 x11_1).f1))) (fun _ h_ => h_.1))))) (g := gb182) (o := .cells #[.int .i64 ((rd_T39 l0_1 x11_1).f0), .int .i64 ((rd_T39 l0_1 x11_1).f1)] 39 (0, 0)) (by refine bk_ ?_; refine blk_put (cs := #[.int .i64 ((rd_T39 l0_1 x11_1).f0), .int .i64 0]) ?_ 1 _ rfl; refine bk_ ?_; refine blk_put (cs := #[.int .i64 0, .int .i64 0]) ?_ 0 _ rfl; refine bk_ ?_; exact BK182.out)) (below_size (bl_))); replace HO_5 := Aside0.mk (Kd.R_elder' (by refine kr_ ?_; exact (Kd.R_mono (Kd.R_far (p := ⟨gb182, 1, none⟩) (Kd.R_far (p := ⟨gb182, 0, none⟩) (Kd.R_mono HO_5.out (fun k_ hk => (⟨hk, hk.2⟩ : _ ∧ k_ ≠ gb182))) (fun _ hk => hk.2) (.int .i64 ((rd_T39 l0_1 x11_1).f0))) (fun _ hk => hk.2) (.int .i64 ((rd_T39 l0_1 x11_1).f1))) (fun _ h_ => h_.1))) (Kd.R_base ho17) hb); replace BK180 := Aside0.mk (blk_below (g := gb180) (o := .cells #[.int .i64 a0_0, .slice (some ad181) l0_1.length c0_1] 41 (0, 0)) (by refine bk_ ?_; refine blk_far ?_ NB180_182.out _; refine bk_ ?_; refine blk_far ?_ NB180_182.out _; refine bk_ ?_; exact BK180.out) hb); replace BK182 := Aside0.mk (blk_below (g := gb182) (o := .cells #[.int .i64 ((rd_T39 l0_1 x11_1).f0), .int .i64 ((rd_T39 l0_1 x11_1).f1)] 39 (0, 0)) (by refine bk_ ?_; refine blk_put (cs := #[.int .i64 ((rd_T39 l0_1 x11_1).f0), .int .i64 0]) ?_ 1 _ rfl; refine bk_ ?_; refine blk_put (cs := #[.int .i64 0, .int .i64 0]) ?_ 0 _ rfl; refine bk_ ?_; exact BK182.out) hb); replace HB := hb_ hb; clear hb ho17; obtain ⟨Ao19, co19, eo19⟩ := Kd.R_slice HO185.out; subst eo19) | ((with_reducible refine gate_builtin (b := .append) (xs := #[.tmp 19, .tmp 26]) rfl ?_); at_builtin; refine Kd.R_append_rows k39 (w0 := w) w.heap.size rfl (.tmp 19) (.tmp 26) 45 39 (.agg #[(.int .i64 0), (.int .i64 0)]) 16 rfl Tryd.underlying45 info39 rfl (by decide) (by omega) u5 x5_1 y183 _ _ _ (fun k_ => some k_ ≠ (.slice Ao19 y183.length co19 : Value).ownBlock ∧ k_ ≠ gb182) (fun _ => False) rfl rfl ?aO ?aR (fun _ _ h => h) (fun _ h => h.elim) ?aF ?aB ?aS ?aL ?_; (case aR => repeat (first | exact (Kd.R_reads' HO185.out).2.2 | (with_reducible refine Kd.C_alloc ?_ _) | (with_reducible refine Kd.C_drewN ?_ _) | (with_reducible refine Kd.C_drew ?_))); (case aB => exact (bl_)); (case aF => exact (fun k_ hk => ⟨Kd.fresh' (Kd.R_lt (kr_ HO185.out)) k_ hk, Kd.freshB (g := gb182) (o := .cells #[.int .i64 ((rd_T39 l0_1 x11_1).f0), .int .i64 ((rd_T39 l0_1 x11_1).f1)] 39 (0, 0)) (bk_ BK182.out) k_ hk⟩)); (case aO => exact (by refine kr_ ?_; exact Kd.R_mono HO_5.out (fun _ hk => ⟨hk.2, hk.1.2⟩))); (case aS => exact (below_size (bl_))); (case aL => have := LMc12.out; omega); intro v187 w18 ho hb hg hat; rw [← Ny186.out] at ho; replace BK180 := Aside0.mk (blk_grown (g := gb180) (o := .cells #[.int .i64 a0_0, .slice (some ad181) l0_1.length c0_1] 41 (0, 0)) (bk_ BK180.out) hg (Kd.R_ne HO_5.out BK180.out (by decide))); replace BK182 := Aside0.mk (blk_grown (g := gb182) (o := .cells #[.int .i64 ((rd_T39 l0_1 x11_1).f0), .int .i64 ((rd_T39 l0_1 x11_1).f1)] 39 (0, 0)) (bk_ BK182.out) hg (Kd.R_away HO_5.out (fun _ hk => hk.1.2))); replace HO185 := Aside0.mk (Kd.R_after (ok := (fun k_ => k_ ≠ gb182)) (by refine kr_ ?_; exact Kd.R_mono HO185.out (fun _ hk => ⟨hk.2, hk.1.2⟩)) hg hat); replace HB := Aside0.mk (hb); have HO188 := Aside0.mk (ho); clear HO_5; clear ho hb hg hat))
     go_roundg k1
     case measure => have := HK1.out; omega
     case rel => exact ⟨(y186), (wrap64 (x11_1 + 1)), rs_, H', ⟨by have := HK1.out; omega⟩, ⟨by refine kr_ ?_; exact Kd.R_mono HO188.out (fun _ hk => trivial)⟩, ⟨bk_ BK180.out⟩, ⟨bl_⟩⟩
   ·rw [if_neg c5] at H
    have c5b0 : decide (x11_1 < (l0_1.length : Int)) = false := decide_eq_false c5
    clear c5
    obtain rfl := Option.some.inj H
    go_wp2
    go_ret
    exact ⟨_, er_, by refine kr_ ?_; exact HO_5.out, bl_⟩

/-! ### oneway_arcs_far: function 20 -/
mutual
def oneway_arcs_far.l0 : Nat → List (S39) → Int → Int → List Int → Int → Int → Option (List Int)
  | 0, _, _, _, _, _, _ => none
  | k + 1, x0, x1, x2, x7, x15, x16 => if x16 < x15 then (if 0 ≤ x16 then (if x16 < (x7.length : Int) then (oneway_arcs_far.l0 k x0 x1 x2 (x7.set (x16 : Int).toNat (-1)) x15 (wrap64 (x16 + 1))) else (none)) else (none)) else (if 0 ≤ x2 then (if x2 < (x7.length : Int) then (oneway_arcs_far.l1 k x0 (x7.set (x2 : Int).toNat 0) x1 0) else (none)) else (none))
def oneway_arcs_far.l1 : Nat → List (S39) → List Int → Int → Int → Option (List Int)
  | 0, _, _, _, _ => none
  | k + 1, x0, x7, x26, x27 => if x27 < x26 then (oneway_arcs_far.l2 k x0 x7 x27 x26 x27 x0 (x0.length : Int) 0) else (some x7)
def oneway_arcs_far.l2 : Nat → List (S39) → List Int → Int → Int → Int → List (S39) → Int → Int → Option (List Int)
  | 0, _, _, _, _, _, _, _, _ => none
  | k + 1, x0, x7, x9, x26, x27, x30, x31, x32 => if x32 < x31 then (if 0 ≤ x32 then (if x32 < (x30.length : Int) then (if 0 ≤ ((rd_T39 x30 x32).f0) then (if ((rd_T39 x30 x32).f0) < (x7.length : Int) then (if (rd x7 ((rd_T39 x30 x32).f0)) = x9 then (if 0 ≤ ((rd_T39 x30 x32).f1) then (if ((rd_T39 x30 x32).f1) < (x7.length : Int) then (if (rd x7 ((rd_T39 x30 x32).f1)) < 0 then (oneway_arcs_far.l2 k x0 (x7.set (((rd_T39 x30 x32).f1) : Int).toNat (wrap64 (x9 + 1))) x9 x26 x27 x30 x31 (wrap64 (x32 + 1))) else (oneway_arcs_far.l2 k x0 x7 x9 x26 x27 x30 x31 (wrap64 (x32 + 1)))) else (none)) else (none)) else (oneway_arcs_far.l2 k x0 x7 x9 x26 x27 x30 x31 (wrap64 (x32 + 1)))) else (none)) else (none)) else (none)) else (none)) else (oneway_arcs_far.l1 k x0 x7 x26 (wrap64 (x27 + 1)))
end
def oneway_arcs_far.f (k : Nat) (l0 : List (S39)) (a1 : Int) (a2 : Int) : Option (List Int) := if 0 ≤ a1 then (if (a1 : Int).toNat ≤ 35184372088832 then ((some (List.replicate (a1 : Int).toNat 0 : List Int)).bind fun y189 => (oneway_arcs_far.l0 k l0 a1 a2 y189 (y189.length : Int) 0)) else (none)) else (none)
theorem oneway_arcs_far.mono_l : ∀ k, (∀ y0 y1 y2 y3 y4 y5, LeO (oneway_arcs_far.l0 k y0 y1 y2 y3 y4 y5) (oneway_arcs_far.l0 (k + 1) y0 y1 y2 y3 y4 y5)) ∧ (∀ y0 y1 y2 y3, LeO (oneway_arcs_far.l1 k y0 y1 y2 y3) (oneway_arcs_far.l1 (k + 1) y0 y1 y2 y3)) ∧ (∀ y0 y1 y2 y3 y4 y5 y6 y7, LeO (oneway_arcs_far.l2 k y0 y1 y2 y3 y4 y5 y6 y7) (oneway_arcs_far.l2 (k + 1) y0 y1 y2 y3 y4 y5 y6 y7))
  | 0 => ⟨fun _ _ _ _ _ _ r h => by simp [oneway_arcs_far.l0] at h, fun _ _ _ _ r h => by simp [oneway_arcs_far.l1] at h, fun _ _ _ _ _ _ _ _ r h => by simp [oneway_arcs_far.l2] at h⟩
  | k + 1 => by
    obtain ⟨ih0, ih1, ih2⟩ := oneway_arcs_far.mono_l k
    refine ⟨?_, ?_, ?_⟩
    · intro y0 y1 y2 y3 y4 y5
      unfold oneway_arcs_far.l0
      with_reducible repeat' first | exact ih0 _ _ _ _ _ _ | exact ih1 _ _ _ _ | exact ih2 _ _ _ _ _ _ _ _ | exact LeO.refl _ | exact LeO.none _ | refine LeO.ite ?_ ?_ | refine LeO.bind ?_ (fun _ => ?_)
    · intro y0 y1 y2 y3
      unfold oneway_arcs_far.l1
      with_reducible repeat' first | exact ih0 _ _ _ _ _ _ | exact ih1 _ _ _ _ | exact ih2 _ _ _ _ _ _ _ _ | exact LeO.refl _ | exact LeO.none _ | refine LeO.ite ?_ ?_ | refine LeO.bind ?_ (fun _ => ?_)
    · intro y0 y1 y2 y3 y4 y5 y6 y7
      unfold oneway_arcs_far.l2
      with_reducible repeat' first | exact ih0 _ _ _ _ _ _ | exact ih1 _ _ _ _ | exact ih2 _ _ _ _ _ _ _ _ | exact LeO.refl _ | exact LeO.none _ | refine LeO.ite ?_ ?_ | refine LeO.bind ?_ (fun _ => ?_)
theorem oneway_arcs_far.mono : ∀ a0 a1 a2 k, LeO (oneway_arcs_far.f k a0 a1 a2) (oneway_arcs_far.f (k + 1) a0 a1 a2) := by
  intro a0 a1 a2 k
  obtain ⟨ih0, ih1, ih2⟩ := oneway_arcs_far.mono_l k
  unfold oneway_arcs_far.f
  with_reducible repeat' first | exact ih0 _ _ _ _ _ _ | exact ih1 _ _ _ _ | exact ih2 _ _ _ _ _ _ _ _ | exact LeO.refl _ | exact LeO.none _ | refine LeO.ite ?_ ?_ | refine LeO.bind ?_ (fun _ => ?_)
set_option maxHeartbeats 8000000 in
set_option maxRecDepth 100000 in
theorem oneway_arcs_far.calls (k : Nat) (A0 : Option Addr) (c0 : Nat) (l0 : List (S39)) (a1 : Int) (a2 : Int) (r : List Int) (w : World) (hr0 : Kd.C k39 w A0 l0.length l0) (hc0 : l0.length ≤ c0) (h : oneway_arcs_far.f k l0 a1 a2 = some r) :
    Calls Tryd.prog 20 #[.slice A0 l0.length c0, .int .i64 a1, .int .i64 a2] w fun e w' => ∃ v0_ : Value, e = .returned (v0_) ∧ Kd.R (Kd.int .i64) 3 w' w.heap.size (fun _ => True) v0_ r ∧ Below w.heap.size w w' := by
 have hu39 := Tryd.underlying39
 have HR0 := Aside0.mk hr0
 have HC0 := Aside0.mk hc0
 clear hr0 hc0
 have HB := Aside0.mk (Below.refl w.heap.size w)
 have H : (if 0 ≤ a1 then (if (a1 : Int).toNat ≤ 35184372088832 then ((some (List.replicate (a1 : Int).toNat 0 : List Int)).bind fun y189 => (oneway_arcs_far.l0 k l0 a1 a2 y189 (y189.length : Int) 0)) else (none)) else (none)) = some r := h
 clear h
 have c4 : 0 ≤ a1 := fl_ fun c4 => by rw [if_neg c4] at H; exact absurd H (by simp)
 rw [if_pos c4] at H
 have c4b0 := eq_true c4
 have c4b1 : decide (0 ≤ a1) = true := decide_eq_true c4
 clear c4
 have c5 : (a1 : Int).toNat ≤ 35184372088832 := fl_ fun c5 => by rw [if_neg c5] at H; exact absurd H (by simp)
 rw [if_pos c5] at H
 have c5b0 := eq_true c5
 have c5b1 : decide ((a1 : Int).toNat ≤ 35184372088832) = true := decide_eq_true c5
 clear c5
 obtain ⟨y189, hy189⟩ : ∃ y_ : List Int, y_ = (List.replicate (a1 : Int).toNat 0) := ⟨_, rfl⟩
 replace H : (oneway_arcs_far.l0 k l0 a1 a2 y189 (y189.length : Int) 0) = some r := by first | (rw [hy189]; with_reducible exact H) | (have H2_ := (Option.bind_some _ _).symm.trans H; rw [hy189]; with_reducible exact H2_) | (have H2_ := (Option.bind_some _ _).symm.trans H; with_reducible exact H2_) | with_reducible exact H | (rw [hy189]; exact H) | exact H
 have Ny189 := Aside0.mk hy189
 clear hy189
 have H' := Aside0.mk H
 clear H
 go_enter Tryd.func20, Tryd.ntmps20
 go_wp2_with (first | ((with_reducible refine gate_dst (N := 13) rfl ?_); refine Kd.R_make (Kd.int .i64) _ 3 rfl (N := 13) rfl 29 _ _ rfl a1 rfl rfl Tryd.underlying29 (.int .i64 0) 8 info3 rfl (by decide) (by omega) 0 (ok := fun _ => True) (okp := fun _ => True) rfl (fun _ hk => hk) trivial (od_) (Nat.le_trans (Nat.mul_le_mul_right _ (od_ : a1.toNat ≤ 35184372088832)) (by omega)) (Below.refl _ _) (Nat.le_refl _) ?_; intro v190 w6 ho7 hb hg_ hnew_; clear hg_ hnew_; (first | rw [← Ny189.out] at ho7 | (simp only [Int.reduceToNat] at ho7; rw [← Ny189.out] at ho7)); have HO191 := rl_ ho7; replace HB := hb_ hb; clear hb ho7; obtain ⟨Ao8, co8, eo8⟩ := Kd.R_slice HO191.out; subst eo8))
 go_loopg [16] k (fun kq v16 w' => ∃ (x7_1 : List Int) (x16_1 : Int), v16 = .int .i64 x16_1 ∧ Aside0 (oneway_arcs_far.l0 kq l0 a1 a2 x7_1 (y189.length : Int) x16_1 = some r) ∧ Aside0 (kq ≤ k) ∧ Aside0 (Kd.R (Kd.int .i64) 3 w' w.heap.size (fun _ => True) (.slice Ao8 y189.length co8) x7_1) ∧ Aside0 (Below w.heap.size w w'))
 case atStart => exact ⟨(y189), (0), rs_, H', ⟨Nat.le_refl _⟩, ⟨kr_ HO191.out⟩, ⟨bl_⟩⟩
 case round =>
  clear H'
  try clear c2
  try clear p2
  try clear c4
  try clear c4b0
  try clear c4b1
  try clear c5
  try clear c5b0
  try clear c5b1
  obtain ⟨x7_1, x16_1, rfl, HA, HK1, HO_7, HB⟩ := hrel
  have hl7_1 := (Kd.R_reads' HO_7.out).1
  rw [hl7_1] at HO_7
  (try simp only [hl7_1])
  cases gk with
  | zero => exact absurd HA.out (by simp [oneway_arcs_far.l0])
  | succ k1 =>
   have H := HA.out
   clear HA
   simp only [oneway_arcs_far.l0] at H
   by_cases c9 : x16_1 < (y189.length : Int)
   ·rw [if_pos c9] at H
    have c9b0 : decide (x16_1 < (y189.length : Int)) = true := decide_eq_true c9
    clear c9
    obtain ⟨c10b0, H⟩ := fp_ H
    obtain ⟨c11b0, H⟩ := fp_ H
    obtain ⟨y192, hy192⟩ : ∃ y_ : List Int, y_ = (x7_1.set (x16_1 : Int).toNat (-1)) := ⟨_, rfl⟩
    replace H : (oneway_arcs_far.l0 k1 l0 a1 a2 y192 (y189.length : Int) (wrap64 (x16_1 + 1))) = some r := by first | (rw [hy192]; with_reducible exact H) | (have H2_ := (Option.bind_some _ _).symm.trans H; rw [hy192]; with_reducible exact H2_) | (have H2_ := (Option.bind_some _ _).symm.trans H; with_reducible exact H2_) | with_reducible exact H | (rw [hy192]; exact H) | exact H
    have Ny192 := Aside0.mk hy192
    clear hy192
    have H' := Aside0.mk H
    clear H
    have p12 : 0 ≤ (x16_1 : Int) := od_
    have q12 : (x16_1 : Int) < ((x7_1.length : Int) : Int) := od_
    obtain ⟨go12, co12, eo12, gb12, gl12, cl12, HG12⟩ := Kd.R_form HO_7.out (by omega)
    (first | cases eo12 | (injection eo12 with ea_ en_ ec_; (first | subst ea_ | (injection ea_ with ea_; subst ea_)); subst ec_; clear en_))
    have GB12 := Aside0.mk gb12
    have GG12 := Aside0.mk HG12
    clear gb12 gl12 HG12
    obtain ⟨hx12_0, hf12_0⟩ := Kd.R_celln 0 HO_7.out (x16_1 : Int) p12 q12
    replace p12 := eq_true p12
    replace q12 := eq_true q12
    have HP13 := Kd.R_putg HO_7.out (x16_1 : Int) (-1)
    go_wp2_with (first | ((with_reducible refine gate_store (t := 3) (p := 21) rfl ?_); refine store_event (t := 3) (p := 21) (v := ?vo_w14) (w1 := (wr.setCell ⟨go12, (x16_1 : Int).toNat, none⟩ (.int .i64 (-1)))) ?hg ?ho ?hn ?hr ?_; (case ho => rfl); (case hg => rfl); (case hn => rfl); (case hr => first | (go_simp; done) | (go_simp; rfl)); intro w14 hw; have hg : wr.grownBy w14 (some go12) := (by rw [hw]; exact HP13.2); have hp_ : Kd.R (Kd.int .i64) 3 w14 w.heap.size (fun _ => True) (.slice (some ⟨go12, 0, none⟩) x7_1.length co8) y192 := (by rw [hw, Ny192.out]; exact HP13.1); clear HP13; replace HO_7 := Aside0.mk (hp_); replace HB := Aside0.mk ((by rw [hw]; exact below_set (HB.out) GB12.out : Below w.heap.size w w14)); clear hg hw hp_))
    (try simp only [← hl7_1])
    go_roundg k1
    case measure => have := HK1.out; omega
    case rel => exact ⟨(y192), (wrap64 (x16_1 + 1)), rs_, H', ⟨by have := HK1.out; omega⟩, ⟨by (try simp only [hl7_1]); refine kr_ ?_; exact HO_7.out⟩, ⟨bl_⟩⟩
   ·rw [if_neg c9] at H
    have c9b0 : decide (x16_1 < (y189.length : Int)) = false := decide_eq_false c9
    rw [hl7_1] at c9b0
    clear c9
    obtain ⟨c15b0, H⟩ := fp_ H
    obtain ⟨c16b0, H⟩ := fp_ H
    obtain ⟨y193, hy193⟩ : ∃ y_ : List Int, y_ = (x7_1.set (a2 : Int).toNat 0) := ⟨_, rfl⟩
    replace H : (oneway_arcs_far.l1 k1 l0 y193 a1 0) = some r := by first | (rw [hy193]; with_reducible exact H) | (have H2_ := (Option.bind_some _ _).symm.trans H; rw [hy193]; with_reducible exact H2_) | (have H2_ := (Option.bind_some _ _).symm.trans H; with_reducible exact H2_) | with_reducible exact H | (rw [hy193]; exact H) | exact H
    have Ny193 := Aside0.mk hy193
    clear hy193
    have H' := Aside0.mk H
    clear H
    have p17 : 0 ≤ (a2 : Int) := od_
    have q17 : (a2 : Int) < ((x7_1.length : Int) : Int) := od_
    obtain ⟨go17, co17, eo17, gb17, gl17, cl17, HG17⟩ := Kd.R_form HO_7.out (by omega)
    (first | cases eo17 | (injection eo17 with ea_ en_ ec_; (first | subst ea_ | (injection ea_ with ea_; subst ea_)); subst ec_; clear en_))
    have GB17 := Aside0.mk gb17
    have GG17 := Aside0.mk HG17
    clear gb17 gl17 HG17
    obtain ⟨hx17_0, hf17_0⟩ := Kd.R_celln 0 HO_7.out (a2 : Int) p17 q17
    replace p17 := eq_true p17
    replace q17 := eq_true q17
    have HP18 := Kd.R_putg HO_7.out (a2 : Int) 0
    go_wp2_with (first | ((with_reducible refine gate_store (t := 3) (p := 25) rfl ?_); refine store_event (t := 3) (p := 25) (v := ?vo_w19) (w1 := (wr.setCell ⟨go17, (a2 : Int).toNat, none⟩ (.int .i64 0))) ?hg ?ho ?hn ?hr ?_; (case ho => rfl); (case hg => rfl); (case hn => rfl); (case hr => first | (go_simp; done) | (go_simp; rfl)); intro w19 hw; have hg : wr.grownBy w19 (some go17) := (by rw [hw]; exact HP18.2); have hp_ : Kd.R (Kd.int .i64) 3 w19 w.heap.size (fun _ => True) (.slice (some ⟨go17, 0, none⟩) x7_1.length co8) y193 := (by rw [hw, Ny193.out]; exact HP18.1); clear HP18; replace HO_7 := Aside0.mk (hp_); replace HB := Aside0.mk ((by rw [hw]; exact below_set (HB.out) GB17.out : Below w.heap.size w w19)); clear hg hw hp_))
    go_loopg [27] k1 (fun kq v27 w' => ∃ (x7_2 : List Int) (x27_2 : Int), v27 = .int .i64 x27_2 ∧ Aside0 (oneway_arcs_far.l1 kq l0 x7_2 a1 x27_2 = some r) ∧ Aside0 (kq ≤ k1) ∧ Aside0 (Kd.R (Kd.int .i64) 3 w' w.heap.size (fun _ => True) (.slice (some ⟨go17, 0, none⟩) x7_1.length co8) x7_2) ∧ Aside0 (Below w.heap.size w w'))
    case atStart => exact ⟨(y193), (0), rs_, H', ⟨Nat.le_refl _⟩, ⟨by (try simp only [hl7_1]); refine kr_ ?_; exact HO_7.out⟩, ⟨bl_⟩⟩
    case round =>
     clear H'
     try clear c1
     try clear p1
     try clear q1
     try clear hx1
     try clear c2
     try clear p2
     try clear c4
     try clear c4b0
     try clear c4b1
     try clear c5
     try clear c5b0
     try clear c5b1
     try clear p6
     try clear c9
     try clear c9b0
     try clear c10
     try clear c10b0
     try clear c11
     try clear c11b0
     try clear p12
     try clear q12
     try clear hx12
     try clear hf12
     try clear c15
     try clear c15b0
     try clear c16
     try clear c16b0
     try clear p17
     try clear q17
     try clear hx17
     try clear hf17
     try clear hx12_0
     try clear hx17_0
     try clear p12
     try clear p17
     try clear p2
     try clear q12
     try clear q17
     obtain ⟨x7_2, x27_2, rfl, HA, HK2, HO_7, HB⟩ := hrel
     have hl7_2 := (Kd.R_reads' HO_7.out).1
     rw [hl7_2] at HO_7
     (try simp only [hl7_2])
     cases gk with
     | zero => exact absurd HA.out (by simp [oneway_arcs_far.l1])
     | succ k2 =>
      have H := HA.out
      clear HA
      simp only [oneway_arcs_far.l1] at H
      by_cases c20 : x27_2 < a1
      ·rw [if_pos c20] at H
       have c20b0 : decide (x27_2 < a1) = true := decide_eq_true c20
       clear c20
       have H' := Aside0.mk H
       clear H
       go_wp2
       go_loopg [32] k2 (fun kq v32 w' => ∃ (x7_3 : List Int) (x32_3 : Int), v32 = .int .i64 x32_3 ∧ Aside0 (oneway_arcs_far.l2 kq l0 x7_3 x27_2 a1 x27_2 l0 (l0.length : Int) x32_3 = some r) ∧ Aside0 (kq ≤ k2) ∧ Aside0 (Kd.R (Kd.int .i64) 3 w' w.heap.size (fun _ => True) (.slice (some ⟨go17, 0, none⟩) x7_2.length co8) x7_3) ∧ Aside0 (Below w.heap.size w w'))
       case atStart => exact ⟨(x7_2), (0), rs_, H', ⟨Nat.le_refl _⟩, ⟨by (try simp only [hl7_1]); (try simp only [hl7_2]); refine kr_ ?_; exact HO_7.out⟩, ⟨bl_⟩⟩
       case round =>
        clear H'
        try clear c1
        try clear p1
        try clear q1
        try clear hx1
        try clear c2
        try clear p2
        try clear c4
        try clear c4b0
        try clear c4b1
        try clear c5
        try clear c5b0
        try clear c5b1
        try clear p6
        try clear c9
        try clear c9b0
        try clear c10
        try clear c10b0
        try clear c11
        try clear c11b0
        try clear p12
        try clear q12
        try clear hx12
        try clear hf12
        try clear c15
        try clear c15b0
        try clear c16
        try clear c16b0
        try clear p17
        try clear q17
        try clear hx17
        try clear hf17
        try clear c20
        try clear c20b0
        try clear hx12_0
        try clear hx17_0
        try clear p1
        try clear p12
        try clear p17
        try clear p2
        try clear p6
        try clear q1
        try clear q12
        try clear q17
        obtain ⟨x7_3, x32_3, rfl, HA, HK3, HO_7, HB⟩ := hrel
        have hl7_3 := (Kd.R_reads' HO_7.out).1
        rw [hl7_3] at HO_7
        (try simp only [hl7_3])
        cases gk with
        | zero => exact absurd HA.out (by simp [oneway_arcs_far.l2])
        | succ k3 =>
         have H := HA.out
         clear HA
         simp only [oneway_arcs_far.l2] at H
         by_cases c21 : x32_3 < (l0.length : Int)
         ·rw [if_pos c21] at H
          have c21b0 : decide (x32_3 < (l0.length : Int)) = true := decide_eq_true c21
          clear c21
          obtain ⟨c22b0, H⟩ := fp_ H
          obtain ⟨c23b0, H⟩ := fp_ H
          obtain ⟨c24b0, H⟩ := fp_ H
          obtain ⟨c25b0, H⟩ := fp_ H
          by_cases c26 : (rd x7_3 ((rd_T39 l0 x32_3).f0)) = x27_2
          ·rw [if_pos c26] at H
           have c26b0 : ((rd x7_3 ((rd_T39 l0 x32_3).f0)) == x27_2) = true := beq_iff_eq.mpr c26
           have c26b1 : ((rd x7_3 ((rd_T39 l0 x32_3).f0)) != x27_2) = false := bne_eq_false_iff_eq.mpr c26
           clear c26
           obtain ⟨c27b0, H⟩ := fp_ H
           obtain ⟨c28b0, H⟩ := fp_ H
           by_cases c29 : (rd x7_3 ((rd_T39 l0 x32_3).f1)) < 0
           ·rw [if_pos c29] at H
            have c29b0 : decide ((rd x7_3 ((rd_T39 l0 x32_3).f1)) < 0) = true := decide_eq_true c29
            clear c29
            obtain ⟨y198, hy198⟩ : ∃ y_ : List Int, y_ = (x7_3.set (((rd_T39 l0 x32_3).f1) : Int).toNat (wrap64 (x27_2 + 1))) := ⟨_, rfl⟩
            replace H : (oneway_arcs_far.l2 k3 l0 y198 x27_2 a1 x27_2 l0 (l0.length : Int) (wrap64 (x32_3 + 1))) = some r := by first | (rw [hy198]; with_reducible exact H) | (have H2_ := (Option.bind_some _ _).symm.trans H; rw [hy198]; with_reducible exact H2_) | (have H2_ := (Option.bind_some _ _).symm.trans H; with_reducible exact H2_) | with_reducible exact H | (rw [hy198]; exact H) | exact H
            have Ny198 := Aside0.mk hy198
            clear hy198
            have H' := Aside0.mk H
            clear H
            have p194 : 0 ≤ (x32_3 : Int) := od_
            have q194 : x32_3 < (l0.length : Int) := od_
            obtain ⟨ad194, e194, hx194_0, hx194_1⟩ := at_T39 HR0.out x32_3 p194 q194
            cases e194
            replace hx194_0 := hc_ HB hx194_0
            replace hx194_1 := hc_ HB hx194_1
            replace p194 := eq_true p194
            replace q194 := eq_true q194
            go_wp2_with (first | ((with_reducible refine gate_dst (N := 11) rfl ?_); refine be_ #[.int .i64 0, .int .i64 0] 39 ?_; intro gb195 hg w31 hbox hb; replace HO_7 := rb_ HO_7 hb; have BK195 := Aside0.mk (hbox); have GW195 := gw_ hg; have GE195 := gw_ hg; replace HB := hb_ hb; clear hb hbox hg; have hcz32_0 := bc_ BK195 0 (.int .i64 0); have hcz32_1 := bc_ BK195 1 (.int .i64 0); have hfz32_0 := bz_ BK195 0; have hfz32_1 := bz_ BK195 1) | ((with_reducible refine gate_store (t := 39) (p := 11) rfl ?_); refine store_event (t := 39) (p := 11) (v := ?vo_w33) (w1 := ((w31.setCell ⟨gb195, 0, none⟩ (.int .i64 ((rd_T39 l0 x32_3).f0))).setCell ⟨gb195, 1, none⟩ (.int .i64 ((rd_T39 l0 x32_3).f1)))) ?hg ?ho ?hn ?hr ?_; (case ho => rfl); (case hg => rfl); (case hn => rfl); (case hr => first | (go_simp; done) | (go_simp; rfl)); intro w33 hw; replace HO_7 : Aside0 (Kd.R (Kd.int .i64) 3 w33 w.heap.size (fun _ => True) (.slice (some ⟨go17, 0, none⟩) x7_3.length co8) x7_3) := ⟨(by rw [hw]; exact (by refine kr_ ?_; exact Kd.R_mono (Kd.R_far (p := ⟨gb195, 1, none⟩) (Kd.R_far (p := ⟨gb195, 0, none⟩) (Kd.R_types HO_7.out BK195.out (by decide)) (fun _ hk => hk.2) (.int .i64 ((rd_T39 l0 x32_3).f0))) (fun _ hk => hk.2) (.int .i64 ((rd_T39 l0 x32_3).f1))) (fun _ hk => trivial)))⟩; replace BK195 : Aside0 (w33.heap[gb195]? = some (.cells #[.int .i64 ((rd_T39 l0 x32_3).f0), .int .i64 ((rd_T39 l0 x32_3).f1)] 39 (0, 0))) := ⟨(by rw [hw]; exact (by refine bk_ ?_; refine blk_put (cs := #[.int .i64 ((rd_T39 l0 x32_3).f0), .int .i64 0]) ?_ 1 _ rfl; refine bk_ ?_; refine blk_put (cs := #[.int .i64 0, .int .i64 0]) ?_ 0 _ rfl; refine bk_ ?_; exact BK195.out))⟩; replace HB : Aside0 (Below w.heap.size w w33) := ⟨(by rw [hw]; exact (bl_))⟩; clear hw; have hcz34_0 := bc_ BK195 0 (.int .i64 ((rd_T39 l0 x32_3).f0)); have hcz34_1 := bc_ BK195 1 (.int .i64 ((rd_T39 l0 x32_3).f1)); have hfz34_0 := bz_ BK195 0; have hfz34_1 := bz_ BK195 1; have p196 : 0 ≤ (((rd_T39 l0 x32_3).f0) : Int) := od_; have q196 : ((rd_T39 l0 x32_3).f0) < (x7_3.length : Int) := od_; obtain ⟨ad196, e196, hx196_0⟩ := Kd.at_int (Kd.R_reads' HO_7.out).2.2 ((rd_T39 l0 x32_3).f0) p196 q196; obtain rfl : (⟨go17, 0, none⟩ : Addr) = ad196 := (by injection e196); (first | simp only [add_plain] at hx196_0 | simp only [add_at] at hx196_0 | simp only [Addr.add, Nat.zero_add] at hx196_0 | skip); replace p196 := eq_true p196; replace q196 := eq_true q196; have p197 : 0 ≤ (((rd_T39 l0 x32_3).f1) : Int) := od_; have q197 : ((rd_T39 l0 x32_3).f1) < (x7_3.length : Int) := od_; obtain ⟨ad197, e197, hx197_0⟩ := Kd.at_int (Kd.R_reads' HO_7.out).2.2 ((rd_T39 l0 x32_3).f1) p197 q197; obtain rfl : (⟨go17, 0, none⟩ : Addr) = ad197 := (by injection e197); (first | simp only [add_plain] at hx197_0 | simp only [add_at] at hx197_0 | simp only [Addr.add, Nat.zero_add] at hx197_0 | skip); replace p197 := eq_true p197; replace q197 := eq_true q197; have p30 : 0 ≤ (((rd_T39 l0 x32_3).f1) : Int) := od_; have q30 : (((rd_T39 l0 x32_3).f1) : Int) < ((x7_3.length : Int) : Int) := od_; obtain ⟨hx30_0, hf30_0⟩ := Kd.R_celln 0 HO_7.out (((rd_T39 l0 x32_3).f1) : Int) p30 q30; replace p30 := eq_true p30; replace q30 := eq_true q30; obtain ⟨hy35_, hz35_⟩ := Kd.R_celln 0 HO_7.out (((rd_T39 l0 x32_3).f1) : Int) (od_) (od_); have HP35 := Kd.R_putg HO_7.out (((rd_T39 l0 x32_3).f1) : Int) (wrap64 (x27_2 + 1))) | ((with_reducible refine gate_store (t := 3) (p := 56) rfl ?_); refine store_event (t := 3) (p := 56) (v := ?vo_w36) (w1 := (w33.setCell ⟨go17, (((rd_T39 l0 x32_3).f1) : Int).toNat, none⟩ (.int .i64 (wrap64 (x27_2 + 1))))) ?hg ?ho ?hn ?hr ?_; (case ho => rfl); (case hg => rfl); (case hn => rfl); (case hr => first | (go_simp; done) | (go_simp; rfl)); intro w36 hw; have hg : w33.grownBy w36 (some go17) := (by rw [hw]; exact HP35.2); have hp_ : Kd.R (Kd.int .i64) 3 w36 w.heap.size (fun _ => True) (.slice (some ⟨go17, 0, none⟩) x7_3.length co8) y198 := (by rw [hw, Ny198.out]; exact HP35.1); clear HP35; replace BK195 := Aside0.mk (blk_grown (g := gb195) (o := .cells #[.int .i64 ((rd_T39 l0 x32_3).f0), .int .i64 ((rd_T39 l0 x32_3).f1)] 39 (0, 0)) (bk_ BK195.out) hg (Kd.R_ne HO_7.out BK195.out (by decide))); replace HO_7 := Aside0.mk (hp_); replace HB := Aside0.mk ((by rw [hw]; exact below_set (HB.out) GB17.out : Below w.heap.size w w36)); clear hg hw hp_))
            (try simp only [← hl7_3])
            go_roundg k3
            case measure => have := HK1.out; have := HK2.out; have := HK3.out; omega
            case rel => exact ⟨(y198), (wrap64 (x32_3 + 1)), rs_, H', ⟨by have := HK1.out; have := HK2.out; have := HK3.out; omega⟩, ⟨by (try simp only [hl7_1]); (try simp only [hl7_2]); (try simp only [hl7_3]); refine kr_ ?_; exact HO_7.out⟩, ⟨bl_⟩⟩
           ·rw [if_neg c29] at H
            have c29b0 : decide ((rd x7_3 ((rd_T39 l0 x32_3).f1)) < 0) = false := decide_eq_false c29
            clear c29
            have H' := Aside0.mk H
            clear H
            have p194 : 0 ≤ (x32_3 : Int) := od_
            have q194 : x32_3 < (l0.length : Int) := od_
            obtain ⟨ad194, e194, hx194_0, hx194_1⟩ := at_T39 HR0.out x32_3 p194 q194
            cases e194
            replace hx194_0 := hc_ HB hx194_0
            replace hx194_1 := hc_ HB hx194_1
            replace p194 := eq_true p194
            replace q194 := eq_true q194
            go_wp2_with (first | ((with_reducible refine gate_dst (N := 11) rfl ?_); refine be_ #[.int .i64 0, .int .i64 0] 39 ?_; intro gb195 hg w37 hbox hb; replace HO_7 := rb_ HO_7 hb; have BK195 := Aside0.mk (hbox); have GW195 := gw_ hg; have GE195 := gw_ hg; replace HB := hb_ hb; clear hb hbox hg; have hcz38_0 := bc_ BK195 0 (.int .i64 0); have hcz38_1 := bc_ BK195 1 (.int .i64 0); have hfz38_0 := bz_ BK195 0; have hfz38_1 := bz_ BK195 1; have p196 : 0 ≤ (((rd_T39 l0 x32_3).f0) : Int) := od_; have q196 : ((rd_T39 l0 x32_3).f0) < (x7_3.length : Int) := od_; obtain ⟨ad196, e196, hx196_0⟩ := Kd.at_int (Kd.R_reads' HO_7.out).2.2 ((rd_T39 l0 x32_3).f0) p196 q196; obtain rfl : (⟨go17, 0, none⟩ : Addr) = ad196 := (by injection e196); (first | simp only [add_plain] at hx196_0 | simp only [add_at] at hx196_0 | simp only [Addr.add, Nat.zero_add] at hx196_0 | skip); have hn196_0 : (⟨go17, 0, none⟩ : Addr).block ≠ gb195 := Kd.own_blk (Kd.R_ne HO_7.out BK195.out (by decide)); have hn196_1 : (⟨go17, 0, none⟩ : Addr).block ≠ gb195 := Kd.own_blk (Kd.R_ne HO_7.out BK195.out (by decide)); replace hx196_0 := (cell_far (p := ⟨gb195, 0, none⟩) (by first | (rw [add_block]; exact hn196_0) | (show (Addr.add _ _).block ≠ _; rw [add_block]; exact hn196_0) | exact hn196_0) (.int .i64 ((rd_T39 l0 x32_3).f0))).trans hx196_0; replace hx196_0 := (cell_far (p := ⟨gb195, 1, none⟩) (by first | (rw [add_block]; exact hn196_1) | (show (Addr.add _ _).block ≠ _; rw [add_block]; exact hn196_1) | exact hn196_1) (.int .i64 ((rd_T39 l0 x32_3).f1))).trans hx196_0; clear hn196_0; clear hn196_1; replace p196 := eq_true p196; replace q196 := eq_true q196; have p197 : 0 ≤ (((rd_T39 l0 x32_3).f1) : Int) := od_; have q197 : ((rd_T39 l0 x32_3).f1) < (x7_3.length : Int) := od_; obtain ⟨ad197, e197, hx197_0⟩ := Kd.at_int (Kd.R_reads' HO_7.out).2.2 ((rd_T39 l0 x32_3).f1) p197 q197; obtain rfl : (⟨go17, 0, none⟩ : Addr) = ad197 := (by injection e197); (first | simp only [add_plain] at hx197_0 | simp only [add_at] at hx197_0 | simp only [Addr.add, Nat.zero_add] at hx197_0 | skip); have hn197_0 : (⟨go17, 0, none⟩ : Addr).block ≠ gb195 := Kd.own_blk (Kd.R_ne HO_7.out BK195.out (by decide)); have hn197_1 : (⟨go17, 0, none⟩ : Addr).block ≠ gb195 := Kd.own_blk (Kd.R_ne HO_7.out BK195.out (by decide)); replace hx197_0 := (cell_far (p := ⟨gb195, 0, none⟩) (by first | (rw [add_block]; exact hn197_0) | (show (Addr.add _ _).block ≠ _; rw [add_block]; exact hn197_0) | exact hn197_0) (.int .i64 ((rd_T39 l0 x32_3).f0))).trans hx197_0; replace hx197_0 := (cell_far (p := ⟨gb195, 1, none⟩) (by first | (rw [add_block]; exact hn197_1) | (show (Addr.add _ _).block ≠ _; rw [add_block]; exact hn197_1) | exact hn197_1) (.int .i64 ((rd_T39 l0 x32_3).f1))).trans hx197_0; clear hn197_0; clear hn197_1; replace p197 := eq_true p197; replace q197 := eq_true q197))
            (try simp only [← hl7_3])
            go_roundg k3
            case measure => have := HK1.out; have := HK2.out; have := HK3.out; omega
            case rel => exact ⟨(x7_3), (wrap64 (x32_3 + 1)), rs_, H', ⟨by have := HK1.out; have := HK2.out; have := HK3.out; omega⟩, ⟨by (try simp only [hl7_1]); (try simp only [hl7_2]); (try simp only [hl7_3]); refine kr_ ?_; exact Kd.R_mono (Kd.R_far (p := ⟨gb195, 1, none⟩) (Kd.R_far (p := ⟨gb195, 0, none⟩) (Kd.R_types HO_7.out BK195.out (by decide)) (fun _ hk => hk.2) (.int .i64 ((rd_T39 l0 x32_3).f0))) (fun _ hk => hk.2) (.int .i64 ((rd_T39 l0 x32_3).f1))) (fun _ hk => trivial)⟩, ⟨bl_⟩⟩
          ·rw [if_neg c26] at H
           have c26b0 : ((rd x7_3 ((rd_T39 l0 x32_3).f0)) == x27_2) = false := beq_eq_false_iff_ne.mpr c26
           have c26b1 : ((rd x7_3 ((rd_T39 l0 x32_3).f0)) != x27_2) = true := bne_iff_ne.mpr c26
           have H' := Aside0.mk H
           clear H
           have p194 : 0 ≤ (x32_3 : Int) := od_
           have q194 : x32_3 < (l0.length : Int) := od_
           obtain ⟨ad194, e194, hx194_0, hx194_1⟩ := at_T39 HR0.out x32_3 p194 q194
           cases e194
           replace hx194_0 := hc_ HB hx194_0
           replace hx194_1 := hc_ HB hx194_1
           replace p194 := eq_true p194
           replace q194 := eq_true q194
           go_wp2_with (first | ((with_reducible refine gate_dst (N := 11) rfl ?_); refine be_ #[.int .i64 0, .int .i64 0] 39 ?_; intro gb195 hg w39 hbox hb; replace HO_7 := rb_ HO_7 hb; have BK195 := Aside0.mk (hbox); have GW195 := gw_ hg; have GE195 := gw_ hg; replace HB := hb_ hb; clear hb hbox hg; have hcz40_0 := bc_ BK195 0 (.int .i64 0); have hcz40_1 := bc_ BK195 1 (.int .i64 0); have hfz40_0 := bz_ BK195 0; have hfz40_1 := bz_ BK195 1; have p196 : 0 ≤ (((rd_T39 l0 x32_3).f0) : Int) := od_; have q196 : ((rd_T39 l0 x32_3).f0) < (x7_3.length : Int) := od_; obtain ⟨ad196, e196, hx196_0⟩ := Kd.at_int (Kd.R_reads' HO_7.out).2.2 ((rd_T39 l0 x32_3).f0) p196 q196; obtain rfl : (⟨go17, 0, none⟩ : Addr) = ad196 := (by injection e196); (first | simp only [add_plain] at hx196_0 | simp only [add_at] at hx196_0 | simp only [Addr.add, Nat.zero_add] at hx196_0 | skip); have hn196_0 : (⟨go17, 0, none⟩ : Addr).block ≠ gb195 := Kd.own_blk (Kd.R_ne HO_7.out BK195.out (by decide)); have hn196_1 : (⟨go17, 0, none⟩ : Addr).block ≠ gb195 := Kd.own_blk (Kd.R_ne HO_7.out BK195.out (by decide)); replace hx196_0 := (cell_far (p := ⟨gb195, 0, none⟩) (by first | (rw [add_block]; exact hn196_0) | (show (Addr.add _ _).block ≠ _; rw [add_block]; exact hn196_0) | exact hn196_0) (.int .i64 ((rd_T39 l0 x32_3).f0))).trans hx196_0; replace hx196_0 := (cell_far (p := ⟨gb195, 1, none⟩) (by first | (rw [add_block]; exact hn196_1) | (show (Addr.add _ _).block ≠ _; rw [add_block]; exact hn196_1) | exact hn196_1) (.int .i64 ((rd_T39 l0 x32_3).f1))).trans hx196_0; clear hn196_0; clear hn196_1; replace p196 := eq_true p196; replace q196 := eq_true q196))
           (try simp only [← hl7_3])
           go_roundg k3
           case measure => have := HK1.out; have := HK2.out; have := HK3.out; omega
           case rel => exact ⟨(x7_3), (wrap64 (x32_3 + 1)), rs_, H', ⟨by have := HK1.out; have := HK2.out; have := HK3.out; omega⟩, ⟨by (try simp only [hl7_1]); (try simp only [hl7_2]); (try simp only [hl7_3]); refine kr_ ?_; exact Kd.R_mono (Kd.R_far (p := ⟨gb195, 1, none⟩) (Kd.R_far (p := ⟨gb195, 0, none⟩) (Kd.R_types HO_7.out BK195.out (by decide)) (fun _ hk => hk.2) (.int .i64 ((rd_T39 l0 x32_3).f0))) (fun _ hk => hk.2) (.int .i64 ((rd_T39 l0 x32_3).f1))) (fun _ hk => trivial)⟩, ⟨bl_⟩⟩
         ·rw [if_neg c21] at H
          have c21b0 : decide (x32_3 < (l0.length : Int)) = false := decide_eq_false c21
          clear c21
          have H' := Aside0.mk H
          clear H
          go_wp2
          (try simp only [← hl7_2, ← hl7_3])
          go_roundg k3
          case measure => have := HK1.out; have := HK2.out; have := HK3.out; omega
          case rel => exact ⟨(x7_3), (wrap64 (x27_2 + 1)), rs_, H', ⟨by have := HK1.out; have := HK2.out; have := HK3.out; omega⟩, ⟨by (try simp only [hl7_1]); (try simp only [hl7_2]); (try simp only [hl7_3]); refine kr_ ?_; exact HO_7.out⟩, ⟨bl_⟩⟩
      ·rw [if_neg c20] at H
       have c20b0 : decide (x27_2 < a1) = false := decide_eq_false c20
       clear c20
       obtain rfl := Option.some.inj H
       go_wp2
       go_ret
       exact ⟨_, er_, by refine kr_ ?_; exact HO_7.out, bl_⟩

end Go.Proofs.YtlcgoacmlbeliaaDoor.P
