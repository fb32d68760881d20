-- Written by wip/tools/myprint.py of this session's repo, over the kit's printer and hand texts.
import Derived.Test.YtlcgoacmlbeliaaDoorPx0
import Derived.Test.YtlcgoacmlbeliaaDoorPre
namespace Go.Proofs.YtlcgoacmlbeliaaDoor.P
open Go.RowKit Go.Proofs.YtlcgoacmlbeliaaDoorW.PrintWords Go.Proofs.YtlcgoacmlbeliaaDoorW.PrintLast Go.Proofs.YtlcgoacmlbeliaaDoorW.PrintMore
attribute [local go_sem] max2_int min2_int max_two min_two max_three min_three max_four min_four   -- for this text's walks alone
set_option linter.unusedVariables false
set_option linter.unusedSimpArgs false

/-! ### fetch_quarter_everybody: function 23 -/
def fetch_quarter_everybody.f (a0_0 : Int) (l0_1 : List (S39)) : Option (Int) := if 0 ≤ a0_0 then (some (wrap64 ((shl .i64 1 a0_0) - 1))) else (none)
set_option maxHeartbeats 8000000 in
set_option maxRecDepth 100000 in
theorem fetch_quarter_everybody.calls (a0_0 : Int) (A0_1 : Option Addr) (c0_1 : Nat) (l0_1 : List (S39)) (r : Int) (w : World) (hr0_1 : Kd.C k39 w A0_1 l0_1.length l0_1) (hc0_1 : l0_1.length ≤ c0_1) (h : fetch_quarter_everybody.f a0_0 l0_1 = some r) :
    Calls Tryd.prog 23 #[.agg #[.int .i64 a0_0, .slice A0_1 l0_1.length c0_1]] w fun e w' => e = .returned (.int .i64 r) ∧ Below w.heap.size w w' := by
 have hu48 := Tryd.underlying48
 have HR0_1 := Aside0.mk hr0_1
 have HC0_1 := Aside0.mk hc0_1
 clear hr0_1 hc0_1
 have HB := Aside0.mk (Below.refl w.heap.size w)
 have H : (if 0 ≤ a0_0 then (some (wrap64 ((shl .i64 1 a0_0) - 1))) else (none)) = some r := h
 clear h
 have c2 : 0 ≤ a0_0 := fl_ fun c2 => by rw [if_neg c2] at H; exact absurd H (by simp)
 rw [if_pos c2] at H
 have c2b0 := eq_true c2
 have c2b1 : decide (0 ≤ a0_0) = true := decide_eq_true c2
 clear c2
 obtain ⟨ji3, hji3⟩ : ∃ j_ : Int, (shl .i64 1 a0_0) = j_ := ⟨_, rfl⟩
 replace H : (some (wrap64 ((ji3) - 1))) = some r := by first | (rw [hji3] at H; exact H) | (simp only [hji3] at H ⊢; exact H)
 have hji3_ : (IntKind.i64.wrap (1 * 2 ^ min a0_0.toNat 64)) = ji3 := hji3
 have hji3z : a0_0 ≤ 64 → (IntKind.i64.wrap (1 * 2 ^ a0_0.toNat)) = ji3 := shl_small hji3
 have hji3u : (IntKind.i64.wrap (2 ^ min a0_0.toNat 64)) = ji3 := by have h_ := hji3_; rw [Int.one_mul] at h_; exact h_
 have hji3v : a0_0 ≤ 64 → (IntKind.i64.wrap (2 ^ a0_0.toNat)) = ji3 := fun hle_ => by have h_ := hji3z hle_; rw [Int.one_mul] at h_; exact h_
 have hji3y : (wrap64 (1 * 2 ^ min a0_0.toNat 64)) = ji3 := (i64_w _).symm.trans hji3_
 have hji3x : a0_0 ≤ 64 → (wrap64 (1 * 2 ^ a0_0.toNat)) = ji3 := fun h_ => (i64_w _).symm.trans (hji3z h_)
 obtain rfl := Option.some.inj H
 go_enter Tryd.func23, Tryd.ntmps23
 go_wp2_with (first | ((with_reducible refine gate_dst (N := 1) rfl ?_); refine be_ #[.int .i64 a0_0, .slice A0_1 l0_1.length c0_1] 48 ?_; intro gb101 hg w4 hbox hb; have BK101 := Aside0.mk (hbox); have GW101 := gw_ hg; have GE101 := gw_ hg; replace HB := hb_ hb; clear hb hbox hg; have hcz5_0 := bc_ BK101 0 (.int .i64 a0_0); have hcz5_1 := bc_ BK101 1 (.slice A0_1 l0_1.length c0_1); have hfz5_0 := bz_ BK101 0; have hfz5_1 := bz_ BK101 1))
 go_ret
 exact ⟨by first | rfl | (simp [errW_none, errW_some] <;> rfl) | (simp only [← hji3]; first | rfl | (simp [errW_none, errW_some] <;> rfl)) | (simp [*, errW_none, errW_some] <;> rfl), bl_⟩

/-! ### fetch_read: function 13 -/
mutual
def fetch_read.j0 : Nat → Int → List (S39) → Bool → Option (Int × (List (S39)) × Int)
  | 0, _, _, _ => none
  | k + 1, x0, x1, x12 => if x12 = true then (some (0, ([] : List (S39)), 2)) else (if (x1.length : Int) > 14 then (some (0, ([] : List (S39)), 3)) else (fetch_read.l0 k x0 x1 x1 (x1.length : Int) 0 x0 x1))
def fetch_read.l0 : Nat → Int → List (S39) → List (S39) → Int → Int → Int → List (S39) → Option (Int × (List (S39)) × Int)
  | 0, _, _, _, _, _, _, _ => none
  | k + 1, x0, x1, x28, x29, x30, x104000, x104001 => if x30 < x29 then (if 0 ≤ x30 then (if x30 < (x28.length : Int) then (if (mn ((rd_T39 x28 x30).f0) ((rd_T39 x28 x30).f1)) < 0 then (some (0, ([] : List (S39)), 2)) else (if (mx ((rd_T39 x28 x30).f0) ((rd_T39 x28 x30).f1)) ≥ x0 then (some (0, ([] : List (S39)), 2)) else (if ((rd_T39 x28 x30).f0) = ((rd_T39 x28 x30).f1) then (some (0, ([] : List (S39)), 2)) else (fetch_read.l0 k x0 x1 x28 x29 (wrap64 (x30 + 1)) x104000 x104001)))) else (none)) else (none)) else (fetch_read.l1 k x1 1 x0 0 x104000 x104001)
def fetch_read.l1 : Nat → List (S39) → Int → Int → Int → Int → List (S39) → Option (Int × (List (S39)) × Int)
  | 0, _, _, _, _, _, _ => none
  | k + 1, x1, x9, x58, x59, x104000, x104001 => if x59 < x58 then (fetch_read.l2 k x1 x9 x58 x59 x1 (x1.length : Int) 0 x104000 x104001) else ((fetch_quarter_everybody.f x104000 x104001).bind fun t106 => (if x9 = t106 then (some (x104000, x104001, 0)) else (some (0, ([] : List (S39)), 9))))
def fetch_read.l2 : Nat → List (S39) → Int → Int → Int → List (S39) → Int → Int → Int → List (S39) → Option (Int × (List (S39)) × Int)
  | 0, _, _, _, _, _, _, _, _, _ => none
  | k + 1, x1, x9, x58, x59, x61, x62, x63, x104000, x104001 => if x63 < x62 then (if 0 ≤ x63 then (if x63 < (x61.length : Int) then (if 0 ≤ ((rd_T39 x61 x63).f0) then (if (Go.bits .and .i64 (shr .i64 x9 ((rd_T39 x61 x63).f0)) 1) = 1 then (if 0 ≤ ((rd_T39 x61 x63).f1) then (fetch_read.l2 k x1 (Go.bits .or .i64 x9 (Go.bits .or .i64 (shl .i64 1 ((rd_T39 x61 x63).f0)) (shl .i64 1 ((rd_T39 x61 x63).f1)))) x58 x59 x61 x62 (wrap64 (x63 + 1)) x104000 x104001) else (none)) else (if 0 ≤ ((rd_T39 x61 x63).f1) then (if (Go.bits .and .i64 (shr .i64 x9 ((rd_T39 x61 x63).f1)) 1) = 1 then (fetch_read.l2 k x1 (Go.bits .or .i64 x9 (Go.bits .or .i64 (shl .i64 1 ((rd_T39 x61 x63).f0)) (shl .i64 1 ((rd_T39 x61 x63).f1)))) x58 x59 x61 x62 (wrap64 (x63 + 1)) x104000 x104001) else (fetch_read.l2 k x1 x9 x58 x59 x61 x62 (wrap64 (x63 + 1)) x104000 x104001)) else (none))) else (none)) else (none)) else (none)) else (fetch_read.l1 k x1 x9 x58 (wrap64 (x59 + 1)) x104000 x104001)
end
def fetch_read.f (k : Nat) (a0 : Int) (l1 : List (S39)) : Option (Int × (List (S39)) × Int) := if a0 < 2 then (fetch_read.j0 k a0 l1 true) else (fetch_read.j0 k a0 l1 (decide (a0 > 7)))
theorem fetch_read.mono_l : ∀ k, (∀ y0 y1 y2, LeO (fetch_read.j0 k y0 y1 y2) (fetch_read.j0 (k + 1) y0 y1 y2)) ∧ (∀ y0 y1 y2 y3 y4 y5 y6, LeO (fetch_read.l0 k y0 y1 y2 y3 y4 y5 y6) (fetch_read.l0 (k + 1) y0 y1 y2 y3 y4 y5 y6)) ∧ (∀ y0 y1 y2 y3 y4 y5, LeO (fetch_read.l1 k y0 y1 y2 y3 y4 y5) (fetch_read.l1 (k + 1) y0 y1 y2 y3 y4 y5)) ∧ (∀ y0 y1 y2 y3 y4 y5 y6 y7 y8, LeO (fetch_read.l2 k y0 y1 y2 y3 y4 y5 y6 y7 y8) (fetch_read.l2 (k + 1) y0 y1 y2 y3 y4 y5 y6 y7 y8))
  | 0 => ⟨fun _ _ _ r h => by simp [fetch_read.j0] at h, fun _ _ _ _ _ _ _ r h => by simp [fetch_read.l0] at h, fun _ _ _ _ _ _ r h => by simp [fetch_read.l1] at h, fun _ _ _ _ _ _ _ _ _ r h => by simp [fetch_read.l2] at h⟩
  | k + 1 => by
    obtain ⟨ih0, ih1, ih2, ih3⟩ := fetch_read.mono_l k
    refine ⟨?_, ?_, ?_, ?_⟩
    · intro y0 y1 y2
      unfold fetch_read.j0
      with_reducible repeat' first | exact ih0 _ _ _ | exact ih1 _ _ _ _ _ _ _ | exact ih2 _ _ _ _ _ _ | exact ih3 _ _ _ _ _ _ _ _ _ | exact LeO.refl _ | exact LeO.none _ | refine LeO.ite ?_ ?_ | refine LeO.bind ?_ (fun _ => ?_)
    · intro y0 y1 y2 y3 y4 y5 y6
      unfold fetch_read.l0
      with_reducible repeat' first | exact ih0 _ _ _ | exact ih1 _ _ _ _ _ _ _ | exact ih2 _ _ _ _ _ _ | exact ih3 _ _ _ _ _ _ _ _ _ | exact LeO.refl _ | exact LeO.none _ | refine LeO.ite ?_ ?_ | refine LeO.bind ?_ (fun _ => ?_)
    · intro y0 y1 y2 y3 y4 y5
      unfold fetch_read.l1
      with_reducible repeat' first | exact ih0 _ _ _ | exact ih1 _ _ _ _ _ _ _ | exact ih2 _ _ _ _ _ _ | exact ih3 _ _ _ _ _ _ _ _ _ | exact LeO.refl _ | exact LeO.none _ | refine LeO.ite ?_ ?_ | refine LeO.bind ?_ (fun _ => ?_)
    · intro y0 y1 y2 y3 y4 y5 y6 y7 y8
      unfold fetch_read.l2
      with_reducible repeat' first | exact ih0 _ _ _ | exact ih1 _ _ _ _ _ _ _ | exact ih2 _ _ _ _ _ _ | exact ih3 _ _ _ _ _ _ _ _ _ | exact LeO.refl _ | exact LeO.none _ | refine LeO.ite ?_ ?_ | refine LeO.bind ?_ (fun _ => ?_)
theorem fetch_read.mono : ∀ a0 a1 k, LeO (fetch_read.f k a0 a1) (fetch_read.f (k + 1) a0 a1) := by
  intro a0 a1 k
  obtain ⟨ih0, ih1, ih2, ih3⟩ := fetch_read.mono_l k
  unfold fetch_read.f
  with_reducible repeat' first | exact ih0 _ _ _ | exact ih1 _ _ _ _ _ _ _ | exact ih2 _ _ _ _ _ _ | exact ih3 _ _ _ _ _ _ _ _ _ | exact LeO.refl _ | exact LeO.none _ | refine LeO.ite ?_ ?_ | refine LeO.bind ?_ (fun _ => ?_)
set_option maxHeartbeats 8000000 in
set_option maxRecDepth 100000 in
theorem fetch_read.calls (k : Nat) (a0 : Int) (P1_ : Nat → Prop) (A1 : Option Addr) (c1 : Nat) (l1 : List (S39)) (r1 : Int) (r2 : List (S39)) (r3 : Int) (w : World) (hs1 : Kd.V k39 39 w w.heap.size (fun k_ => P1_ k_) (.slice A1 l1.length c1) l1) (h : fetch_read.f k a0 l1 = some (r1, r2, r3)) :
    Calls Tryd.prog 13 #[.int .i64 a0, .slice A1 l1.length c1] w fun e w' => ∃ v1_ : Value, e = .returned (.tuple #[.agg #[.int .i64 r1, v1_], .int .i64 r3]) ∧ Kd.V k39 39 w' w.heap.size (fun k_ => (P1_ k_ ∨ w.heap.size ≤ k_)) v1_ r2 ∧ Below w.heap.size w w' := by
 have hu48 := Tryd.underlying48
 have hu39 := Tryd.underlying39
 have HO1 := Aside0.mk (show Kd.V k39 39 w w.heap.size (fun k_ => (P1_ k_ ∨ w.heap.size ≤ k_)) (.slice A1 l1.length c1) l1 from Kd.V_mono hs1 (fun k_ hk => .inl hk))
 have HB := Aside0.mk (Below.refl w.heap.size w)
 have H : (if a0 < 2 then (fetch_read.j0 k a0 l1 true) else (fetch_read.j0 k a0 l1 (decide (a0 > 7)))) = some (r1, r2, r3) := h
 clear h
 have HC3 := Aside0.mk H
 clear H
 go_enter Tryd.func13, Tryd.ntmps13
 go_upto_region 1 with (first | ((with_reducible refine gate_dst (N := 4) rfl ?_); (try (refine gate_guard (by rfl) ?_; dsimp only)); refine be_ #[.int .i64 0, .slice none 0 0] 48 ?_; intro gb102 hg w4 hbox hb; replace HO1 := ve_ HO1 hg hb; have BK102 := Aside0.mk (hbox); have GW102 := gw_ hg; have GE102 := gw_ hg; replace HB := hb_ hb; clear hb hbox hg))
 repeat (go_quiet (first | ((with_reducible refine gate_dst (N := 4) rfl ?_); (try (refine gate_guard (by rfl) ?_; dsimp only)); refine be_ #[.int .i64 0, .slice none 0 0] 48 ?_; intro gb102 hg w4 hbox hb; replace HO1 := ve_ HO1 hg hb; have BK102 := Aside0.mk (hbox); have GW102 := gw_ hg; have GE102 := gw_ hg; replace HB := hb_ hb; clear hb hbox hg)); go_upto_region 1 with (first | ((with_reducible refine gate_dst (N := 4) rfl ?_); (try (refine gate_guard (by rfl) ?_; dsimp only)); refine be_ #[.int .i64 0, .slice none 0 0] 48 ?_; intro gb102 hg w4 hbox hb; replace HO1 := ve_ HO1 hg hb; have BK102 := Aside0.mk (hbox); have GW102 := gw_ hg; have GE102 := gw_ hg; replace HB := hb_ hb; clear hb hbox hg)))
 (try simp only [Act.put, List.setIfInBounds_toArray, List.set_cons_zero, List.set_cons_succ])
 go_cut [12] (fun v12 wc => ∃ (kq : Nat) (x12_2 : Bool), v12 = .bool x12_2 ∧ Aside0 (fetch_read.j0 kq a0 l1 x12_2 = some (r1, r2, r3)) ∧ Aside0 (kq ≤ k) ∧ Aside0 (Kd.V k39 39 wc w.heap.size (fun k_ => (P1_ k_ ∨ w.heap.size ≤ k_) ∧ k_ ≠ gb102) (.slice A1 l1.length c1) l1) ∧ Aside0 (wc.heap[gb102]? = some (.cells #[.int .i64 0, (.slice none 0 0)] 48 (0, 0))) ∧ Aside0 (Below w.heap.size w wc))
 case first =>
  have H := HC3.out
  clear HC3
  by_cases c5 : a0 < 2
  ·rw [if_pos c5] at H
   have c5b0 : decide (a0 < 2) = true := decide_eq_true c5
   clear c5
   (first | rw [c5b0] | (simp only [i64_w, i32_w]; rw [c5b0]) | skip)
   have H' := Aside0.mk H
   clear H
   go_wp2
   repeat (go_quiet (fail); try go_wp2)
   go_meet
   case rel => exact ⟨_, (true), rs_, H', ⟨by first | omega | exact Nat.le_refl _⟩, ⟨kv_ HO1.out⟩, ⟨bk_ BK102.out⟩, ⟨bl_⟩⟩
  ·rw [if_neg c5] at H
   have c5b0 : decide (a0 < 2) = false := decide_eq_false c5
   clear c5
   (first | rw [c5b0] | (simp only [i64_w, i32_w]; rw [c5b0]) | skip)
   have H' := Aside0.mk H
   clear H
   go_wp2
   repeat (go_quiet (fail); try go_wp2)
   go_meet
   case rel => exact ⟨_, (decide (a0 > 7)), rs_, H', ⟨by first | omega | exact Nat.le_refl _⟩, ⟨kv_ HO1.out⟩, ⟨bk_ BK102.out⟩, ⟨bl_⟩⟩
 case rest =>
  clear HC3
  try clear c1
  try clear p2
  try clear c5
  try clear c5b0
  obtain ⟨kq, x12_2, rfl, HA, HJ2, HO_1, BK102, HB⟩ := hcut
  cases kq with
  | zero => exact absurd HA.out (by simp [fetch_read.j0])
  | succ kj2 =>
   have H := HA.out
   clear HA
   simp only [fetch_read.j0] at H
   by_cases c6 : x12_2 = true
   ·subst c6
    have H1 : (some (0, ([] : List (S39)), 2)) = some (r1, r2, r3) := by rw [if_pos rfl] at H; exact H
    clear H
    have H := H1
    clear H1
    simp only [Option.some.injEq, Prod.mk.injEq] at H
    obtain ⟨rfl, rfl, rfl⟩ := H
    have hcz7_0 := bc_ BK102 0 (.int .i64 0)
    have hcz7_1 := bc_ BK102 1 (.slice none 0 0)
    have hfz7_0 := bz_ BK102 0
    have hfz7_1 := bz_ BK102 1
    go_wp2
    repeat (go_quiet (fail); try go_wp2)
    refine bodyPost_ret (results_ct rfl _ _ gb102 48 #[.int .i64 0, .slice none 0 0] (0, 0) _ rfl (by refine bk_ ?_; refine blk_put (cs := #[.int .i64 0, .slice none 0 0]) ?_ 1 _ rfl; refine bk_ ?_; refine blk_put (cs := #[.int .i64 0, .slice none 0 0]) ?_ 0 _ rfl; refine bk_ ?_; exact BK102.out) Tryd.underlying48 rfl (by kernel_rfl)) rfl ?_
    exact ⟨_, er_, Kd.V_nil _ _ _ _ _, bl_⟩
   ·replace c6 := Bool.eq_false_iff.mpr c6
    subst c6
    have H1 : (if (l1.length : Int) > 14 then (some (0, ([] : List (S39)), 3)) else (fetch_read.l0 kj2 a0 l1 l1 (l1.length : Int) 0 a0 l1)) = some (r1, r2, r3) := by rw [if_neg (show ¬ (false = true) by decide)] at H; exact H
    clear H
    have H := H1
    clear H1
    by_cases c8 : (l1.length : Int) > 14
    ·rw [if_pos c8] at H
     have c8b0 : decide (14 < (l1.length : Int)) = true := decide_eq_true c8
     have c8b1 : decide (14 < l1.length) = true := decide_eq_true (by omega)
     clear c8
     simp only [Option.some.injEq, Prod.mk.injEq] at H
     obtain ⟨rfl, rfl, rfl⟩ := H
     have hcz9_0 := bc_ BK102 0 (.int .i64 0)
     have hcz9_1 := bc_ BK102 1 (.slice none 0 0)
     have hfz9_0 := bz_ BK102 0
     have hfz9_1 := bz_ BK102 1
     go_wp2
     repeat (go_quiet (fail); try go_wp2)
     refine bodyPost_ret (results_ct rfl _ _ gb102 48 #[.int .i64 0, .slice none 0 0] (0, 0) _ rfl (by refine bk_ ?_; refine blk_put (cs := #[.int .i64 0, .slice none 0 0]) ?_ 1 _ rfl; refine bk_ ?_; refine blk_put (cs := #[.int .i64 0, .slice none 0 0]) ?_ 0 _ rfl; refine bk_ ?_; exact BK102.out) Tryd.underlying48 rfl (by kernel_rfl)) rfl ?_
     exact ⟨_, er_, Kd.V_nil _ _ _ _ _, bl_⟩
    ·rw [if_neg c8] at H
     have c8b0 : decide (14 < (l1.length : Int)) = false := decide_eq_false c8
     have c8b1 : decide (14 < l1.length) = false := decide_eq_false (by omega)
     clear c8
     have H' := Aside0.mk H
     clear H
     go_wp2_with (first | ((with_reducible refine gate_dst (N := 6) rfl ?_); (try (refine gate_guard (by rfl) ?_; dsimp only)); refine be_ #[.int .i64 0, .slice none 0 0] 48 ?_; intro gb103 hg w10 hbox hb; replace HO_1 := ve_ HO_1 hg hb; have BK103 := Aside0.mk (hbox); have GW103 := gw_ hg; have GE103 := gw_ hg; replace HB := hb_ hb; have NB102_103 := nl_ hg BK102; have NB103_102 := sy_ NB102_103; replace BK102 := bb_ BK102 hb; clear hb hbox hg; have hnb11 := NB103_102.out; have hnc11 := NB102_103.out; have hcz12_0 := bc_ BK103 0 (.int .i64 0); have hcz12_1 := bc_ BK103 1 (.slice none 0 0); have hfz12_0 := bz_ BK103 0; have hfz12_1 := bz_ BK103 1))
     repeat (go_quiet (first | ((with_reducible refine gate_dst (N := 6) rfl ?_); (try (refine gate_guard (by rfl) ?_; dsimp only)); refine be_ #[.int .i64 0, .slice none 0 0] 48 ?_; intro gb103 hg w10 hbox hb; replace HO_1 := ve_ HO_1 hg hb; have BK103 := Aside0.mk (hbox); have GW103 := gw_ hg; have GE103 := gw_ hg; replace HB := hb_ hb; have NB102_103 := nl_ hg BK102; have NB103_102 := sy_ NB102_103; replace BK102 := bb_ BK102 hb; clear hb hbox hg; have hnb11 := NB103_102.out; have hnc11 := NB102_103.out; have hcz12_0 := bc_ BK103 0 (.int .i64 0); have hcz12_1 := bc_ BK103 1 (.slice none 0 0); have hfz12_0 := bz_ BK103 0; have hfz12_1 := bz_ BK103 1)); try go_wp2_with (first | ((with_reducible refine gate_dst (N := 6) rfl ?_); (try (refine gate_guard (by rfl) ?_; dsimp only)); refine be_ #[.int .i64 0, .slice none 0 0] 48 ?_; intro gb103 hg w10 hbox hb; replace HO_1 := ve_ HO_1 hg hb; have BK103 := Aside0.mk (hbox); have GW103 := gw_ hg; have GE103 := gw_ hg; replace HB := hb_ hb; have NB102_103 := nl_ hg BK102; have NB103_102 := sy_ NB102_103; replace BK102 := bb_ BK102 hb; clear hb hbox hg; have hnb11 := NB103_102.out; have hnc11 := NB102_103.out; have hcz12_0 := bc_ BK103 0 (.int .i64 0); have hcz12_1 := bc_ BK103 1 (.slice none 0 0); have hfz12_0 := bz_ BK103 0; have hfz12_1 := bz_ BK103 1)))
     go_loopg [30] kj2 (fun kq v30 w' => ∃ (x30_2 : Int) (x103000_2 : Int), v30 = .int .i64 x30_2 ∧ Aside0 (fetch_read.l0 kq a0 l1 l1 (l1.length : Int) x30_2 a0 l1 = some (r1, r2, r3)) ∧ Aside0 (kq ≤ kj2) ∧ Aside0 (Kd.V k39 39 w' w.heap.size (fun k_ => (P1_ k_ ∨ w.heap.size ≤ k_) ∧ k_ ≠ gb102 ∧ k_ ≠ gb103) (.slice A1 l1.length c1) l1) ∧ Aside0 (Kd.V k39 39 w' w.heap.size (fun k_ => (P1_ k_ ∨ w.heap.size ≤ k_) ∧ k_ ≠ gb102 ∧ k_ ≠ gb103) (.slice A1 l1.length c1) l1) ∧ Aside0 (Kd.V k39 39 w' w.heap.size (fun k_ => (P1_ k_ ∨ w.heap.size ≤ k_) ∧ k_ ≠ gb102 ∧ k_ ≠ gb103) (.slice A1 l1.length c1) l1) ∧ Aside0 (w'.heap[gb102]? = some (.cells #[.int .i64 x103000_2, (.slice none 0 0)] 48 (0, 0))) ∧ Aside0 (w'.heap[gb103]? = some (.cells #[.int .i64 a0, (.slice A1 l1.length c1)] 48 (0, 0))) ∧ Aside0 (Below w.heap.size w w'))
     case atStart => exact ⟨(0), (0), rs_, H', ⟨Nat.le_refl _⟩, ⟨by refine kv_ ?_; exact Kd.V_mono (Kd.V_far (p := ⟨gb103, 1, none⟩) (Kd.V_far (p := ⟨gb103, 0, none⟩) (Kd.V_mono HO_1.out (fun k_ hk => (⟨hk, hk.2⟩ : _ ∧ k_ ≠ gb103))) (fun _ hk => hk.2) (.int .i64 a0)) (fun _ hk => hk.2) (.slice A1 l1.length c1)) (fun _ hk => ⟨hk.1.1.1, ⟨hk.1.1.2, hk.1.2⟩⟩)⟩, ⟨by refine kv_ ?_; exact Kd.V_mono (Kd.V_far (p := ⟨gb103, 1, none⟩) (Kd.V_far (p := ⟨gb103, 0, none⟩) (Kd.V_mono HO_1.out (fun k_ hk => (⟨hk, hk.2⟩ : _ ∧ k_ ≠ gb103))) (fun _ hk => hk.2) (.int .i64 a0)) (fun _ hk => hk.2) (.slice A1 l1.length c1)) (fun _ hk => ⟨hk.1.1.1, ⟨hk.1.1.2, hk.1.2⟩⟩)⟩, ⟨by refine kv_ ?_; exact Kd.V_mono (Kd.V_far (p := ⟨gb103, 1, none⟩) (Kd.V_far (p := ⟨gb103, 0, none⟩) (Kd.V_mono HO_1.out (fun k_ hk => (⟨hk, hk.2⟩ : _ ∧ k_ ≠ gb103))) (fun _ hk => hk.2) (.int .i64 a0)) (fun _ hk => hk.2) (.slice A1 l1.length c1)) (fun _ hk => ⟨hk.1.1.1, ⟨hk.1.1.2, hk.1.2⟩⟩)⟩, ⟨by refine bk_ ?_; refine blk_far ?_ NB102_103.out _; refine bk_ ?_; refine blk_far ?_ NB102_103.out _; refine bk_ ?_; exact BK102.out⟩, ⟨by refine bk_ ?_; refine blk_put (cs := #[.int .i64 a0, .slice none 0 0]) ?_ 1 _ rfl; refine bk_ ?_; refine blk_put (cs := #[.int .i64 0, .slice none 0 0]) ?_ 0 _ rfl; refine bk_ ?_; exact BK103.out⟩, ⟨bl_⟩⟩
     case round =>
      clear H'
      try clear c1
      try clear p2
      try clear c5
      try clear c5b0
      try clear c6
      try clear c8
      try clear c8b0
      try clear c8b1
      try clear c11
      try clear hcz12_0
      try clear hcz12_1
      try clear hcz7_0
      try clear hcz7_1
      try clear hcz9_0
      try clear hcz9_1
      try clear hfz12_0
      try clear hfz12_1
      try clear hfz7_0
      try clear hfz7_1
      try clear hfz9_0
      try clear hfz9_1
      try clear p2
      obtain ⟨x30_2, x103000_2, rfl, HA, HK2, HO_1, HO_28, HO_104001, BK102, BK103, HB⟩ := hrel
      cases gk with
      | zero => exact absurd HA.out (by simp [fetch_read.l0])
      | succ k2 =>
       have H := HA.out
       clear HA
       simp only [fetch_read.l0] at H
       by_cases c13 : x30_2 < (l1.length : Int)
       ·rw [if_pos c13] at H
        have c13b0 : decide (x30_2 < (l1.length : Int)) = true := decide_eq_true c13
        clear c13
        obtain ⟨c14b0, H⟩ := fp_ H
        obtain ⟨c15b0, H⟩ := fp_ H
        obtain ⟨ji16, hji16⟩ : ∃ j_ : Int, (mn ((rd_T39 l1 x30_2).f0) ((rd_T39 l1 x30_2).f1)) = j_ := ⟨_, rfl⟩
        replace H : (if (ji16) < 0 then (some (0, ([] : List (S39)), 2)) else (if (mx ((rd_T39 l1 x30_2).f0) ((rd_T39 l1 x30_2).f1)) ≥ a0 then (some (0, ([] : List (S39)), 2)) else (if ((rd_T39 l1 x30_2).f0) = ((rd_T39 l1 x30_2).f1) then (some (0, ([] : List (S39)), 2)) else (fetch_read.l0 k2 a0 l1 l1 (l1.length : Int) (wrap64 (x30_2 + 1)) a0 l1)))) = some (r1, r2, r3) := by first | (rw [hji16] at H; exact H) | (simp only [hji16] at H ⊢; exact H)
        have hji16_ : (if ((rd_T39 l1 x30_2).f1) < ((rd_T39 l1 x30_2).f0) then ((rd_T39 l1 x30_2).f1) else ((rd_T39 l1 x30_2).f0)) = ji16 := hji16
        by_cases c17 : (ji16) < 0
        ·rw [if_pos c17] at H
         have c17b0 : decide ((ji16) < 0) = true := decide_eq_true c17
         clear c17
         simp only [Option.some.injEq, Prod.mk.injEq] at H
         obtain ⟨rfl, rfl, rfl⟩ := H
         have p104 : 0 ≤ (x30_2 : Int) := od_
         have q104 : x30_2 < (l1.length : Int) := od_
         obtain ⟨ad104, e104, hx104_0, hx104_1⟩ := at_T39 (Kd.V_reads' HO_28.out).2.2 x30_2 p104 q104
         cases e104
         replace p104 := eq_true p104
         replace q104 := eq_true q104
         go_wp2_with (first | ((with_reducible refine gate_dst (N := 8) rfl ?_); (try (refine gate_guard (by rfl) ?_; dsimp only)); refine be_ #[.int .i64 0, .int .i64 0] 39 ?_; intro gb105 hg w18 hbox hb; replace HO_1 := ve_ HO_1 hg hb; replace HO_28 := ve_ HO_28 hg hb; replace HO_104001 := ve_ HO_104001 hg hb; have BK105 := Aside0.mk (hbox); have GW105 := gw_ hg; have GE105 := gw_ hg; replace HB := hb_ hb; have NB102_105 := nl_ hg BK102; have NB105_102 := sy_ NB102_105; replace BK102 := bb_ BK102 hb; have NB103_105 := nl_ hg BK103; have NB105_103 := sy_ NB103_105; replace BK103 := bb_ BK103 hb; clear hb hbox hg; have hnb19 := NB105_102.out; have hnc19 := NB102_105.out; have hnb20 := NB105_103.out; have hnc20 := NB103_105.out; have hcz21_0 := bc_ BK105 0 (.int .i64 0); have hcz21_1 := bc_ BK105 1 (.int .i64 0); have hfz21_0 := bz_ BK105 0; have hfz21_1 := bz_ BK105 1; have hnb22 := NB102_103.out; have hnc22 := NB103_102.out; have hcz23_0 := bc_ BK102 0 (.int .i64 x103000_2); have hcz23_1 := bc_ BK102 1 (.slice none 0 0); have hfz23_0 := bz_ BK102 0; have hfz23_1 := bz_ BK102 1))
         repeat (go_quiet (first | ((with_reducible refine gate_dst (N := 8) rfl ?_); (try (refine gate_guard (by rfl) ?_; dsimp only)); refine be_ #[.int .i64 0, .int .i64 0] 39 ?_; intro gb105 hg w18 hbox hb; replace HO_1 := ve_ HO_1 hg hb; replace HO_28 := ve_ HO_28 hg hb; replace HO_104001 := ve_ HO_104001 hg hb; have BK105 := Aside0.mk (hbox); have GW105 := gw_ hg; have GE105 := gw_ hg; replace HB := hb_ hb; have NB102_105 := nl_ hg BK102; have NB105_102 := sy_ NB102_105; replace BK102 := bb_ BK102 hb; have NB103_105 := nl_ hg BK103; have NB105_103 := sy_ NB103_105; replace BK103 := bb_ BK103 hb; clear hb hbox hg; have hnb19 := NB105_102.out; have hnc19 := NB102_105.out; have hnb20 := NB105_103.out; have hnc20 := NB103_105.out; have hcz21_0 := bc_ BK105 0 (.int .i64 0); have hcz21_1 := bc_ BK105 1 (.int .i64 0); have hfz21_0 := bz_ BK105 0; have hfz21_1 := bz_ BK105 1; have hnb22 := NB102_103.out; have hnc22 := NB103_102.out; have hcz23_0 := bc_ BK102 0 (.int .i64 x103000_2); have hcz23_1 := bc_ BK102 1 (.slice none 0 0); have hfz23_0 := bz_ BK102 0; have hfz23_1 := bz_ BK102 1)); try go_wp2_with (first | ((with_reducible refine gate_dst (N := 8) rfl ?_); (try (refine gate_guard (by rfl) ?_; dsimp only)); refine be_ #[.int .i64 0, .int .i64 0] 39 ?_; intro gb105 hg w18 hbox hb; replace HO_1 := ve_ HO_1 hg hb; replace HO_28 := ve_ HO_28 hg hb; replace HO_104001 := ve_ HO_104001 hg hb; have BK105 := Aside0.mk (hbox); have GW105 := gw_ hg; have GE105 := gw_ hg; replace HB := hb_ hb; have NB102_105 := nl_ hg BK102; have NB105_102 := sy_ NB102_105; replace BK102 := bb_ BK102 hb; have NB103_105 := nl_ hg BK103; have NB105_103 := sy_ NB103_105; replace BK103 := bb_ BK103 hb; clear hb hbox hg; have hnb19 := NB105_102.out; have hnc19 := NB102_105.out; have hnb20 := NB105_103.out; have hnc20 := NB103_105.out; have hcz21_0 := bc_ BK105 0 (.int .i64 0); have hcz21_1 := bc_ BK105 1 (.int .i64 0); have hfz21_0 := bz_ BK105 0; have hfz21_1 := bz_ BK105 1; have hnb22 := NB102_103.out; have hnc22 := NB103_102.out; have hcz23_0 := bc_ BK102 0 (.int .i64 x103000_2); have hcz23_1 := bc_ BK102 1 (.slice none 0 0); have hfz23_0 := bz_ BK102 0; have hfz23_1 := bz_ BK102 1)))
         refine bodyPost_ret (results_ct rfl _ _ gb102 48 #[.int .i64 0, .slice none 0 0] (0, 0) _ rfl (by refine bk_ ?_; refine blk_put (cs := #[.int .i64 0, .slice none 0 0]) ?_ 1 _ rfl; refine bk_ ?_; refine blk_put (cs := #[.int .i64 x103000_2, .slice none 0 0]) ?_ 0 _ rfl; refine bk_ ?_; refine blk_far ?_ NB102_105.out _; refine bk_ ?_; refine blk_far ?_ NB102_105.out _; refine bk_ ?_; exact BK102.out) Tryd.underlying48 rfl (by kernel_rfl)) rfl ?_
         exact ⟨_, by first | rfl | (simp [errW_none, errW_some] <;> rfl) | (simp only [← hji16]; first | rfl | (simp [errW_none, errW_some] <;> rfl)) | (simp [*, errW_none, errW_some] <;> rfl), Kd.V_nil _ _ _ _ _, bl_⟩
        ·rw [if_neg c17] at H
         have c17b0 : decide ((ji16) < 0) = false := decide_eq_false c17
         clear c17
         obtain ⟨ji24, hji24⟩ : ∃ j_ : Int, (mx ((rd_T39 l1 x30_2).f0) ((rd_T39 l1 x30_2).f1)) = j_ := ⟨_, rfl⟩
         replace H : (if (ji24) ≥ a0 then (some (0, ([] : List (S39)), 2)) else (if ((rd_T39 l1 x30_2).f0) = ((rd_T39 l1 x30_2).f1) then (some (0, ([] : List (S39)), 2)) else (fetch_read.l0 k2 a0 l1 l1 (l1.length : Int) (wrap64 (x30_2 + 1)) a0 l1))) = some (r1, r2, r3) := by first | (rw [hji24] at H; exact H) | (simp only [hji24] at H ⊢; exact H)
         have hji24_ : (if ((rd_T39 l1 x30_2).f0) < ((rd_T39 l1 x30_2).f1) then ((rd_T39 l1 x30_2).f1) else ((rd_T39 l1 x30_2).f0)) = ji24 := hji24
         by_cases c25 : (ji24) ≥ a0
         ·rw [if_pos c25] at H
          have c25b0 : decide (a0 ≤ (ji24)) = true := decide_eq_true c25
          clear c25
          simp only [Option.some.injEq, Prod.mk.injEq] at H
          obtain ⟨rfl, rfl, rfl⟩ := H
          have p104 : 0 ≤ (x30_2 : Int) := od_
          have q104 : x30_2 < (l1.length : Int) := od_
          obtain ⟨ad104, e104, hx104_0, hx104_1⟩ := at_T39 (Kd.V_reads' HO_28.out).2.2 x30_2 p104 q104
          cases e104
          replace p104 := eq_true p104
          replace q104 := eq_true q104
          go_wp2_with (first | ((with_reducible refine gate_dst (N := 8) rfl ?_); (try (refine gate_guard (by rfl) ?_; dsimp only)); refine be_ #[.int .i64 0, .int .i64 0] 39 ?_; intro gb105 hg w26 hbox hb; replace HO_1 := ve_ HO_1 hg hb; replace HO_28 := ve_ HO_28 hg hb; replace HO_104001 := ve_ HO_104001 hg hb; have BK105 := Aside0.mk (hbox); have GW105 := gw_ hg; have GE105 := gw_ hg; replace HB := hb_ hb; have NB102_105 := nl_ hg BK102; have NB105_102 := sy_ NB102_105; replace BK102 := bb_ BK102 hb; have NB103_105 := nl_ hg BK103; have NB105_103 := sy_ NB103_105; replace BK103 := bb_ BK103 hb; clear hb hbox hg; have hnb27 := NB105_102.out; have hnc27 := NB102_105.out; have hnb28 := NB105_103.out; have hnc28 := NB103_105.out; have hcz29_0 := bc_ BK105 0 (.int .i64 0); have hcz29_1 := bc_ BK105 1 (.int .i64 0); have hfz29_0 := bz_ BK105 0; have hfz29_1 := bz_ BK105 1; have hnb30 := NB102_103.out; have hnc30 := NB103_102.out; have hcz31_0 := bc_ BK102 0 (.int .i64 x103000_2); have hcz31_1 := bc_ BK102 1 (.slice none 0 0); have hfz31_0 := bz_ BK102 0; have hfz31_1 := bz_ BK102 1))
          repeat (go_quiet (first | ((with_reducible refine gate_dst (N := 8) rfl ?_); (try (refine gate_guard (by rfl) ?_; dsimp only)); refine be_ #[.int .i64 0, .int .i64 0] 39 ?_; intro gb105 hg w26 hbox hb; replace HO_1 := ve_ HO_1 hg hb; replace HO_28 := ve_ HO_28 hg hb; replace HO_104001 := ve_ HO_104001 hg hb; have BK105 := Aside0.mk (hbox); have GW105 := gw_ hg; have GE105 := gw_ hg; replace HB := hb_ hb; have NB102_105 := nl_ hg BK102; have NB105_102 := sy_ NB102_105; replace BK102 := bb_ BK102 hb; have NB103_105 := nl_ hg BK103; have NB105_103 := sy_ NB103_105; replace BK103 := bb_ BK103 hb; clear hb hbox hg; have hnb27 := NB105_102.out; have hnc27 := NB102_105.out; have hnb28 := NB105_103.out; have hnc28 := NB103_105.out; have hcz29_0 := bc_ BK105 0 (.int .i64 0); have hcz29_1 := bc_ BK105 1 (.int .i64 0); have hfz29_0 := bz_ BK105 0; have hfz29_1 := bz_ BK105 1; have hnb30 := NB102_103.out; have hnc30 := NB103_102.out; have hcz31_0 := bc_ BK102 0 (.int .i64 x103000_2); have hcz31_1 := bc_ BK102 1 (.slice none 0 0); have hfz31_0 := bz_ BK102 0; have hfz31_1 := bz_ BK102 1)); try go_wp2_with (first | ((with_reducible refine gate_dst (N := 8) rfl ?_); (try (refine gate_guard (by rfl) ?_; dsimp only)); refine be_ #[.int .i64 0, .int .i64 0] 39 ?_; intro gb105 hg w26 hbox hb; replace HO_1 := ve_ HO_1 hg hb; replace HO_28 := ve_ HO_28 hg hb; replace HO_104001 := ve_ HO_104001 hg hb; have BK105 := Aside0.mk (hbox); have GW105 := gw_ hg; have GE105 := gw_ hg; replace HB := hb_ hb; have NB102_105 := nl_ hg BK102; have NB105_102 := sy_ NB102_105; replace BK102 := bb_ BK102 hb; have NB103_105 := nl_ hg BK103; have NB105_103 := sy_ NB103_105; replace BK103 := bb_ BK103 hb; clear hb hbox hg; have hnb27 := NB105_102.out; have hnc27 := NB102_105.out; have hnb28 := NB105_103.out; have hnc28 := NB103_105.out; have hcz29_0 := bc_ BK105 0 (.int .i64 0); have hcz29_1 := bc_ BK105 1 (.int .i64 0); have hfz29_0 := bz_ BK105 0; have hfz29_1 := bz_ BK105 1; have hnb30 := NB102_103.out; have hnc30 := NB103_102.out; have hcz31_0 := bc_ BK102 0 (.int .i64 x103000_2); have hcz31_1 := bc_ BK102 1 (.slice none 0 0); have hfz31_0 := bz_ BK102 0; have hfz31_1 := bz_ BK102 1)))
          refine bodyPost_ret (results_ct rfl _ _ gb102 48 #[.int .i64 0, .slice none 0 0] (0, 0) _ rfl (by refine bk_ ?_; refine blk_put (cs := #[.int .i64 0, .slice none 0 0]) ?_ 1 _ rfl; refine bk_ ?_; refine blk_put (cs := #[.int .i64 x103000_2, .slice none 0 0]) ?_ 0 _ rfl; refine bk_ ?_; refine blk_far ?_ NB102_105.out _; refine bk_ ?_; refine blk_far ?_ NB102_105.out _; refine bk_ ?_; exact BK102.out) Tryd.underlying48 rfl (by kernel_rfl)) rfl ?_
          exact ⟨_, by first | rfl | (simp [errW_none, errW_some] <;> rfl) | (simp only [← hji16, ← hji24]; first | rfl | (simp [errW_none, errW_some] <;> rfl)) | (simp [*, errW_none, errW_some] <;> rfl), Kd.V_nil _ _ _ _ _, bl_⟩
         ·rw [if_neg c25] at H
          have c25b0 : decide (a0 ≤ (ji24)) = false := decide_eq_false c25
          clear c25
          by_cases c32 : ((rd_T39 l1 x30_2).f0) = ((rd_T39 l1 x30_2).f1)
          ·rw [if_pos c32] at H
           have c32b0 : (((rd_T39 l1 x30_2).f0) == ((rd_T39 l1 x30_2).f1)) = true := beq_iff_eq.mpr c32
           have c32b1 : (((rd_T39 l1 x30_2).f0) != ((rd_T39 l1 x30_2).f1)) = false := bne_eq_false_iff_eq.mpr c32
           clear c32
           simp only [Option.some.injEq, Prod.mk.injEq] at H
           obtain ⟨rfl, rfl, rfl⟩ := H
           have p104 : 0 ≤ (x30_2 : Int) := od_
           have q104 : x30_2 < (l1.length : Int) := od_
           obtain ⟨ad104, e104, hx104_0, hx104_1⟩ := at_T39 (Kd.V_reads' HO_28.out).2.2 x30_2 p104 q104
           cases e104
           replace p104 := eq_true p104
           replace q104 := eq_true q104
           go_wp2_with (first | ((with_reducible refine gate_dst (N := 8) rfl ?_); (try (refine gate_guard (by rfl) ?_; dsimp only)); refine be_ #[.int .i64 0, .int .i64 0] 39 ?_; intro gb105 hg w33 hbox hb; replace HO_1 := ve_ HO_1 hg hb; replace HO_28 := ve_ HO_28 hg hb; replace HO_104001 := ve_ HO_104001 hg hb; have BK105 := Aside0.mk (hbox); have GW105 := gw_ hg; have GE105 := gw_ hg; replace HB := hb_ hb; have NB102_105 := nl_ hg BK102; have NB105_102 := sy_ NB102_105; replace BK102 := bb_ BK102 hb; have NB103_105 := nl_ hg BK103; have NB105_103 := sy_ NB103_105; replace BK103 := bb_ BK103 hb; clear hb hbox hg; have hnb34 := NB105_102.out; have hnc34 := NB102_105.out; have hnb35 := NB105_103.out; have hnc35 := NB103_105.out; have hcz36_0 := bc_ BK105 0 (.int .i64 0); have hcz36_1 := bc_ BK105 1 (.int .i64 0); have hfz36_0 := bz_ BK105 0; have hfz36_1 := bz_ BK105 1; have hnb37 := NB102_103.out; have hnc37 := NB103_102.out; have hcz38_0 := bc_ BK102 0 (.int .i64 x103000_2); have hcz38_1 := bc_ BK102 1 (.slice none 0 0); have hfz38_0 := bz_ BK102 0; have hfz38_1 := bz_ BK102 1))
           repeat (go_quiet (first | ((with_reducible refine gate_dst (N := 8) rfl ?_); (try (refine gate_guard (by rfl) ?_; dsimp only)); refine be_ #[.int .i64 0, .int .i64 0] 39 ?_; intro gb105 hg w33 hbox hb; replace HO_1 := ve_ HO_1 hg hb; replace HO_28 := ve_ HO_28 hg hb; replace HO_104001 := ve_ HO_104001 hg hb; have BK105 := Aside0.mk (hbox); have GW105 := gw_ hg; have GE105 := gw_ hg; replace HB := hb_ hb; have NB102_105 := nl_ hg BK102; have NB105_102 := sy_ NB102_105; replace BK102 := bb_ BK102 hb; have NB103_105 := nl_ hg BK103; have NB105_103 := sy_ NB103_105; replace BK103 := bb_ BK103 hb; clear hb hbox hg; have hnb34 := NB105_102.out; have hnc34 := NB102_105.out; have hnb35 := NB105_103.out; have hnc35 := NB103_105.out; have hcz36_0 := bc_ BK105 0 (.int .i64 0); have hcz36_1 := bc_ BK105 1 (.int .i64 0); have hfz36_0 := bz_ BK105 0; have hfz36_1 := bz_ BK105 1; have hnb37 := NB102_103.out; have hnc37 := NB103_102.out; have hcz38_0 := bc_ BK102 0 (.int .i64 x103000_2); have hcz38_1 := bc_ BK102 1 (.slice none 0 0); have hfz38_0 := bz_ BK102 0; have hfz38_1 := bz_ BK102 1)); try go_wp2_with (first | ((with_reducible refine gate_dst (N := 8) rfl ?_); (try (refine gate_guard (by rfl) ?_; dsimp only)); refine be_ #[.int .i64 0, .int .i64 0] 39 ?_; intro gb105 hg w33 hbox hb; replace HO_1 := ve_ HO_1 hg hb; replace HO_28 := ve_ HO_28 hg hb; replace HO_104001 := ve_ HO_104001 hg hb; have BK105 := Aside0.mk (hbox); have GW105 := gw_ hg; have GE105 := gw_ hg; replace HB := hb_ hb; have NB102_105 := nl_ hg BK102; have NB105_102 := sy_ NB102_105; replace BK102 := bb_ BK102 hb; have NB103_105 := nl_ hg BK103; have NB105_103 := sy_ NB103_105; replace BK103 := bb_ BK103 hb; clear hb hbox hg; have hnb34 := NB105_102.out; have hnc34 := NB102_105.out; have hnb35 := NB105_103.out; have hnc35 := NB103_105.out; have hcz36_0 := bc_ BK105 0 (.int .i64 0); have hcz36_1 := bc_ BK105 1 (.int .i64 0); have hfz36_0 := bz_ BK105 0; have hfz36_1 := bz_ BK105 1; have hnb37 := NB102_103.out; have hnc37 := NB103_102.out; have hcz38_0 := bc_ BK102 0 (.int .i64 x103000_2); have hcz38_1 := bc_ BK102 1 (.slice none 0 0); have hfz38_0 := bz_ BK102 0; have hfz38_1 := bz_ BK102 1)))
           refine bodyPost_ret (results_ct rfl _ _ gb102 48 #[.int .i64 0, .slice none 0 0] (0, 0) _ rfl (by refine bk_ ?_; refine blk_put (cs := #[.int .i64 0, .slice none 0 0]) ?_ 1 _ rfl; refine bk_ ?_; refine blk_put (cs := #[.int .i64 x103000_2, .slice none 0 0]) ?_ 0 _ rfl; refine bk_ ?_; refine blk_far ?_ NB102_105.out _; refine bk_ ?_; refine blk_far ?_ NB102_105.out _; refine bk_ ?_; exact BK102.out) Tryd.underlying48 rfl (by kernel_rfl)) rfl ?_
           exact ⟨_, by first | rfl | (simp [errW_none, errW_some] <;> rfl) | (simp only [← hji16, ← hji24]; first | rfl | (simp [errW_none, errW_some] <;> rfl)) | (simp [*, errW_none, errW_some] <;> rfl), Kd.V_nil _ _ _ _ _, bl_⟩
          ·rw [if_neg c32] at H
           have c32b0 : (((rd_T39 l1 x30_2).f0) == ((rd_T39 l1 x30_2).f1)) = false := beq_eq_false_iff_ne.mpr c32
           have c32b1 : (((rd_T39 l1 x30_2).f0) != ((rd_T39 l1 x30_2).f1)) = true := bne_iff_ne.mpr c32
           have H' := Aside0.mk H
           clear H
           have p104 : 0 ≤ (x30_2 : Int) := od_
           have q104 : x30_2 < (l1.length : Int) := od_
           obtain ⟨ad104, e104, hx104_0, hx104_1⟩ := at_T39 (Kd.V_reads' HO_28.out).2.2 x30_2 p104 q104
           cases e104
           replace p104 := eq_true p104
           replace q104 := eq_true q104
           go_wp2_with (first | ((with_reducible refine gate_dst (N := 8) rfl ?_); (try (refine gate_guard (by rfl) ?_; dsimp only)); refine be_ #[.int .i64 0, .int .i64 0] 39 ?_; intro gb105 hg w39 hbox hb; replace HO_1 := ve_ HO_1 hg hb; replace HO_28 := ve_ HO_28 hg hb; replace HO_104001 := ve_ HO_104001 hg hb; have BK105 := Aside0.mk (hbox); have GW105 := gw_ hg; have GE105 := gw_ hg; replace HB := hb_ hb; have NB102_105 := nl_ hg BK102; have NB105_102 := sy_ NB102_105; replace BK102 := bb_ BK102 hb; have NB103_105 := nl_ hg BK103; have NB105_103 := sy_ NB103_105; replace BK103 := bb_ BK103 hb; clear hb hbox hg; have hnb40 := NB105_102.out; have hnc40 := NB102_105.out; have hnb41 := NB105_103.out; have hnc41 := NB103_105.out; have hcz42_0 := bc_ BK105 0 (.int .i64 0); have hcz42_1 := bc_ BK105 1 (.int .i64 0); have hfz42_0 := bz_ BK105 0; have hfz42_1 := bz_ BK105 1))
           repeat (go_quiet (first | ((with_reducible refine gate_dst (N := 8) rfl ?_); (try (refine gate_guard (by rfl) ?_; dsimp only)); refine be_ #[.int .i64 0, .int .i64 0] 39 ?_; intro gb105 hg w39 hbox hb; replace HO_1 := ve_ HO_1 hg hb; replace HO_28 := ve_ HO_28 hg hb; replace HO_104001 := ve_ HO_104001 hg hb; have BK105 := Aside0.mk (hbox); have GW105 := gw_ hg; have GE105 := gw_ hg; replace HB := hb_ hb; have NB102_105 := nl_ hg BK102; have NB105_102 := sy_ NB102_105; replace BK102 := bb_ BK102 hb; have NB103_105 := nl_ hg BK103; have NB105_103 := sy_ NB103_105; replace BK103 := bb_ BK103 hb; clear hb hbox hg; have hnb40 := NB105_102.out; have hnc40 := NB102_105.out; have hnb41 := NB105_103.out; have hnc41 := NB103_105.out; have hcz42_0 := bc_ BK105 0 (.int .i64 0); have hcz42_1 := bc_ BK105 1 (.int .i64 0); have hfz42_0 := bz_ BK105 0; have hfz42_1 := bz_ BK105 1)); try go_wp2_with (first | ((with_reducible refine gate_dst (N := 8) rfl ?_); (try (refine gate_guard (by rfl) ?_; dsimp only)); refine be_ #[.int .i64 0, .int .i64 0] 39 ?_; intro gb105 hg w39 hbox hb; replace HO_1 := ve_ HO_1 hg hb; replace HO_28 := ve_ HO_28 hg hb; replace HO_104001 := ve_ HO_104001 hg hb; have BK105 := Aside0.mk (hbox); have GW105 := gw_ hg; have GE105 := gw_ hg; replace HB := hb_ hb; have NB102_105 := nl_ hg BK102; have NB105_102 := sy_ NB102_105; replace BK102 := bb_ BK102 hb; have NB103_105 := nl_ hg BK103; have NB105_103 := sy_ NB103_105; replace BK103 := bb_ BK103 hb; clear hb hbox hg; have hnb40 := NB105_102.out; have hnc40 := NB102_105.out; have hnb41 := NB105_103.out; have hnc41 := NB103_105.out; have hcz42_0 := bc_ BK105 0 (.int .i64 0); have hcz42_1 := bc_ BK105 1 (.int .i64 0); have hfz42_0 := bz_ BK105 0; have hfz42_1 := bz_ BK105 1)))
           go_roundg k2
           case measure => have := HJ2.out; have := HK2.out; omega
           case rel => exact ⟨(wrap64 (x30_2 + 1)), (x103000_2), rs_, H', ⟨by have := HJ2.out; have := HK2.out; omega⟩, ⟨by refine kv_ ?_; exact Kd.V_mono (Kd.V_far (p := ⟨gb105, 1, none⟩) (Kd.V_far (p := ⟨gb105, 0, none⟩) (Kd.V_mono HO_1.out (fun k_ hk => (⟨hk, hk.2⟩ : _ ∧ k_ ≠ gb105))) (fun _ hk => hk.2) (.int .i64 ((rd_T39 l1 x30_2).f0))) (fun _ hk => hk.2) (.int .i64 ((rd_T39 l1 x30_2).f1))) (fun _ hk => ⟨hk.1.1.1, ⟨hk.1.1.2.1, hk.1.1.2.2⟩⟩)⟩, ⟨by refine kv_ ?_; exact Kd.V_mono (Kd.V_far (p := ⟨gb105, 1, none⟩) (Kd.V_far (p := ⟨gb105, 0, none⟩) (Kd.V_mono HO_28.out (fun k_ hk => (⟨hk, hk.2⟩ : _ ∧ k_ ≠ gb105))) (fun _ hk => hk.2) (.int .i64 ((rd_T39 l1 x30_2).f0))) (fun _ hk => hk.2) (.int .i64 ((rd_T39 l1 x30_2).f1))) (fun _ hk => ⟨hk.1.1.1, ⟨hk.1.1.2.1, hk.1.1.2.2⟩⟩)⟩, ⟨by refine kv_ ?_; exact Kd.V_mono (Kd.V_far (p := ⟨gb105, 1, none⟩) (Kd.V_far (p := ⟨gb105, 0, none⟩) (Kd.V_mono HO_104001.out (fun k_ hk => (⟨hk, hk.2⟩ : _ ∧ k_ ≠ gb105))) (fun _ hk => hk.2) (.int .i64 ((rd_T39 l1 x30_2).f0))) (fun _ hk => hk.2) (.int .i64 ((rd_T39 l1 x30_2).f1))) (fun _ hk => ⟨hk.1.1.1, ⟨hk.1.1.2.1, hk.1.1.2.2⟩⟩)⟩, ⟨by refine bk_ ?_; refine blk_far ?_ NB102_105.out _; refine bk_ ?_; refine blk_far ?_ NB102_105.out _; refine bk_ ?_; exact BK102.out⟩, ⟨by refine bk_ ?_; refine blk_far ?_ NB103_105.out _; refine bk_ ?_; refine blk_far ?_ NB103_105.out _; refine bk_ ?_; exact BK103.out⟩, ⟨bl_⟩⟩
       ·rw [if_neg c13] at H
        have c13b0 : decide (x30_2 < (l1.length : Int)) = false := decide_eq_false c13
        clear c13
        have H' := Aside0.mk H
        clear H
        go_wp2
        repeat (go_quiet (fail); try go_wp2)
        go_loopg [9, 59] k2 (fun kq v9 v59 w' => ∃ (x9_3 : Int) (x59_3 : Int), v9 = .int .i64 x9_3 ∧ v59 = .int .i64 x59_3 ∧ Aside0 (fetch_read.l1 kq l1 x9_3 a0 x59_3 a0 l1 = some (r1, r2, r3)) ∧ Aside0 (kq ≤ k2) ∧ Aside0 (Kd.V k39 39 w' w.heap.size (fun k_ => (P1_ k_ ∨ w.heap.size ≤ k_) ∧ k_ ≠ gb102 ∧ k_ ≠ gb103) (.slice A1 l1.length c1) l1) ∧ Aside0 (Kd.V k39 39 w' w.heap.size (fun k_ => (P1_ k_ ∨ w.heap.size ≤ k_) ∧ k_ ≠ gb102 ∧ k_ ≠ gb103) (.slice A1 l1.length c1) l1) ∧ Aside0 (w'.heap[gb102]? = some (.cells #[.int .i64 x103000_2, (.slice none 0 0)] 48 (0, 0))) ∧ Aside0 (w'.heap[gb103]? = some (.cells #[.int .i64 a0, (.slice A1 l1.length c1)] 48 (0, 0))) ∧ Aside0 (Below w.heap.size w w'))
        case atStart => exact ⟨(1), (0), rs_, rs_, H', ⟨Nat.le_refl _⟩, ⟨kv_ HO_1.out⟩, ⟨kv_ HO_104001.out⟩, ⟨bk_ BK102.out⟩, ⟨bk_ BK103.out⟩, ⟨bl_⟩⟩
        case round =>
         clear H'
         try clear c1
         try clear p1
         try clear q1
         try clear hx1
         try clear c2
         try clear p2
         try clear c3
         try clear c4
         try clear c5
         try clear c5b0
         try clear c6
         try clear p6
         try clear c8
         try clear c8b0
         try clear c8b1
         try clear p10
         try clear q10
         try clear hx10
         try clear c11
         try clear c13
         try clear c13b0
         try clear c14
         try clear c14b0
         try clear c15
         try clear c15b0
         try clear c17
         try clear c17b0
         try clear c19
         try clear c20
         try clear c22
         try clear c25
         try clear c25b0
         try clear c27
         try clear c28
         try clear c30
         try clear c32
         try clear c32b0
         try clear c32b1
         try clear c34
         try clear c35
         try clear c37
         try clear c40
         try clear c41
         try clear hcz12_0
         try clear hcz12_1
         try clear hcz21_0
         try clear hcz21_1
         try clear hcz23_0
         try clear hcz23_1
         try clear hcz29_0
         try clear hcz29_1
         try clear hcz31_0
         try clear hcz31_1
         try clear hcz36_0
         try clear hcz36_1
         try clear hcz38_0
         try clear hcz38_1
         try clear hcz42_0
         try clear hcz42_1
         try clear hcz7_0
         try clear hcz7_1
         try clear hcz9_0
         try clear hcz9_1
         try clear hfz12_0
         try clear hfz12_1
         try clear hfz21_0
         try clear hfz21_1
         try clear hfz23_0
         try clear hfz23_1
         try clear hfz29_0
         try clear hfz29_1
         try clear hfz31_0
         try clear hfz31_1
         try clear hfz36_0
         try clear hfz36_1
         try clear hfz38_0
         try clear hfz38_1
         try clear hfz42_0
         try clear hfz42_1
         try clear hfz7_0
         try clear hfz7_1
         try clear hfz9_0
         try clear hfz9_1
         try clear hx104_0
         try clear hx104_1
         try clear p104
         try clear p2
         try clear q104
         obtain ⟨x9_3, x59_3, rfl, rfl, HA, HK3, HO_1, HO_104001, BK102, BK103, HB⟩ := hrel
         cases gk with
         | zero => exact absurd HA.out (by simp [fetch_read.l1])
         | succ k3 =>
          have H := HA.out
          clear HA
          simp only [fetch_read.l1] at H
          by_cases c43 : x59_3 < a0
          ·rw [if_pos c43] at H
           have c43b0 : decide (x59_3 < a0) = true := decide_eq_true c43
           clear c43
           have H' := Aside0.mk H
           clear H
           go_wp2
           repeat (go_quiet (fail); try go_wp2)
           go_loopg [9, 63] k3 (fun kq v9 v63 w' => ∃ (x9_4 : Int) (x63_4 : Int), v9 = .int .i64 x9_4 ∧ v63 = .int .i64 x63_4 ∧ Aside0 (fetch_read.l2 kq l1 x9_4 a0 x59_3 l1 (l1.length : Int) x63_4 a0 l1 = some (r1, r2, r3)) ∧ Aside0 (kq ≤ k3) ∧ Aside0 (Kd.V k39 39 w' w.heap.size (fun k_ => (P1_ k_ ∨ w.heap.size ≤ k_) ∧ k_ ≠ gb102 ∧ k_ ≠ gb103) (.slice A1 l1.length c1) l1) ∧ Aside0 (Kd.V k39 39 w' w.heap.size (fun k_ => (P1_ k_ ∨ w.heap.size ≤ k_) ∧ k_ ≠ gb102 ∧ k_ ≠ gb103) (.slice A1 l1.length c1) l1) ∧ Aside0 (Kd.V k39 39 w' w.heap.size (fun k_ => (P1_ k_ ∨ w.heap.size ≤ k_) ∧ k_ ≠ gb102 ∧ k_ ≠ gb103) (.slice A1 l1.length c1) l1) ∧ Aside0 (w'.heap[gb102]? = some (.cells #[.int .i64 x103000_2, (.slice none 0 0)] 48 (0, 0))) ∧ Aside0 (w'.heap[gb103]? = some (.cells #[.int .i64 a0, (.slice A1 l1.length c1)] 48 (0, 0))) ∧ Aside0 (Below w.heap.size w w'))
           case atStart => exact ⟨(x9_3), (0), rs_, rs_, H', ⟨Nat.le_refl _⟩, ⟨kv_ HO_1.out⟩, ⟨kv_ HO_1.out⟩, ⟨kv_ HO_104001.out⟩, ⟨bk_ BK102.out⟩, ⟨bk_ BK103.out⟩, ⟨bl_⟩⟩
           case round =>
            clear H'
            try clear c1
            try clear p1
            try clear q1
            try clear hx1
            try clear c2
            try clear p2
            try clear c3
            try clear c4
            try clear c5
            try clear c5b0
            try clear c6
            try clear p6
            try clear c8
            try clear c8b0
            try clear c8b1
            try clear p10
            try clear q10
            try clear hx10
            try clear c11
            try clear c13
            try clear c13b0
            try clear c14
            try clear c14b0
            try clear c15
            try clear c15b0
            try clear c17
            try clear c17b0
            try clear c19
            try clear c20
            try clear c22
            try clear c25
            try clear c25b0
            try clear c27
            try clear c28
            try clear c30
            try clear c32
            try clear c32b0
            try clear c32b1
            try clear c34
            try clear c35
            try clear c37
            try clear c40
            try clear c41
            try clear c43
            try clear c43b0
            try clear hcz12_0
            try clear hcz12_1
            try clear hcz21_0
            try clear hcz21_1
            try clear hcz23_0
            try clear hcz23_1
            try clear hcz29_0
            try clear hcz29_1
            try clear hcz31_0
            try clear hcz31_1
            try clear hcz36_0
            try clear hcz36_1
            try clear hcz38_0
            try clear hcz38_1
            try clear hcz42_0
            try clear hcz42_1
            try clear hcz7_0
            try clear hcz7_1
            try clear hcz9_0
            try clear hcz9_1
            try clear hfz12_0
            try clear hfz12_1
            try clear hfz21_0
            try clear hfz21_1
            try clear hfz23_0
            try clear hfz23_1
            try clear hfz29_0
            try clear hfz29_1
            try clear hfz31_0
            try clear hfz31_1
            try clear hfz36_0
            try clear hfz36_1
            try clear hfz38_0
            try clear hfz38_1
            try clear hfz42_0
            try clear hfz42_1
            try clear hfz7_0
            try clear hfz7_1
            try clear hfz9_0
            try clear hfz9_1
            try clear hx104_0
            try clear hx104_1
            try clear p1
            try clear p10
            try clear p104
            try clear p2
            try clear p6
            try clear q1
            try clear q10
            try clear q104
            obtain ⟨x9_4, x63_4, rfl, rfl, HA, HK4, HO_1, HO_61, HO_104001, BK102, BK103, HB⟩ := hrel
            cases gk with
            | zero => exact absurd HA.out (by simp [fetch_read.l2])
            | succ k4 =>
             have H := HA.out
             clear HA
             simp only [fetch_read.l2] at H
             by_cases c44 : x63_4 < (l1.length : Int)
             ·rw [if_pos c44] at H
              have c44b0 : decide (x63_4 < (l1.length : Int)) = true := decide_eq_true c44
              clear c44
              obtain ⟨c45b0, H⟩ := fp_ H
              obtain ⟨c46b0, H⟩ := fp_ H
              have c47 : 0 ≤ ((rd_T39 l1 x63_4).f0) := fl_ fun c47 => by rw [if_neg c47] at H; exact absurd H (by simp)
              rw [if_pos c47] at H
              have c47b0 := eq_true c47
              have c47b1 : decide (0 ≤ ((rd_T39 l1 x63_4).f0)) = true := decide_eq_true c47
              clear c47
              obtain ⟨ji48, hji48⟩ : ∃ j_ : Int, (shr .i64 x9_4 ((rd_T39 l1 x63_4).f0)) = j_ := ⟨_, rfl⟩
              replace H : (if (Go.bits .and .i64 (ji48) 1) = 1 then (if 0 ≤ ((rd_T39 l1 x63_4).f1) then (fetch_read.l2 k4 l1 (Go.bits .or .i64 x9_4 (Go.bits .or .i64 (shl .i64 1 ((rd_T39 l1 x63_4).f0)) (shl .i64 1 ((rd_T39 l1 x63_4).f1)))) a0 x59_3 l1 (l1.length : Int) (wrap64 (x63_4 + 1)) a0 l1) else (none)) else (if 0 ≤ ((rd_T39 l1 x63_4).f1) then (if (Go.bits .and .i64 (shr .i64 x9_4 ((rd_T39 l1 x63_4).f1)) 1) = 1 then (fetch_read.l2 k4 l1 (Go.bits .or .i64 x9_4 (Go.bits .or .i64 (shl .i64 1 ((rd_T39 l1 x63_4).f0)) (shl .i64 1 ((rd_T39 l1 x63_4).f1)))) a0 x59_3 l1 (l1.length : Int) (wrap64 (x63_4 + 1)) a0 l1) else (fetch_read.l2 k4 l1 x9_4 a0 x59_3 l1 (l1.length : Int) (wrap64 (x63_4 + 1)) a0 l1)) else (none))) = some (r1, r2, r3) := by first | (rw [hji48] at H; exact H) | (simp only [hji48] at H ⊢; exact H)
              have hji48_ : (x9_4 / 2 ^ min ((rd_T39 l1 x63_4).f0).toNat 64) = ji48 := hji48
              have hji48z : ((rd_T39 l1 x63_4).f0) ≤ 64 → (x9_4 / 2 ^ ((rd_T39 l1 x63_4).f0).toNat) = ji48 := shr_small hji48
              by_cases c49 : (Go.bits .and .i64 (ji48) 1) = 1
              ·rw [if_pos c49] at H
               have c49b0 : ((Go.bits .and .i64 (ji48) 1) == 1) = true := beq_iff_eq.mpr c49
               have c49b1 : ((Go.bits .and .i64 (ji48) 1) != 1) = false := bne_eq_false_iff_eq.mpr c49
               clear c49
               have c50b0 := eq_true (od_ : 0 ≤ ((rd_T39 l1 x63_4).f0))
               obtain ⟨ji51, hji51⟩ : ∃ j_ : Int, (shl .i64 1 ((rd_T39 l1 x63_4).f0)) = j_ := ⟨_, rfl⟩
               replace H : (if 0 ≤ ((rd_T39 l1 x63_4).f1) then (fetch_read.l2 k4 l1 (Go.bits .or .i64 x9_4 (Go.bits .or .i64 (ji51) (shl .i64 1 ((rd_T39 l1 x63_4).f1)))) a0 x59_3 l1 (l1.length : Int) (wrap64 (x63_4 + 1)) a0 l1) else (none)) = some (r1, r2, r3) := by first | (rw [hji51] at H; exact H) | (simp only [hji51] at H ⊢; exact H)
               have hji51_ : (IntKind.i64.wrap (1 * 2 ^ min ((rd_T39 l1 x63_4).f0).toNat 64)) = ji51 := hji51
               have hji51z : ((rd_T39 l1 x63_4).f0) ≤ 64 → (IntKind.i64.wrap (1 * 2 ^ ((rd_T39 l1 x63_4).f0).toNat)) = ji51 := shl_small hji51
               have hji51u : (IntKind.i64.wrap (2 ^ min ((rd_T39 l1 x63_4).f0).toNat 64)) = ji51 := by have h_ := hji51_; rw [Int.one_mul] at h_; exact h_
               have hji51v : ((rd_T39 l1 x63_4).f0) ≤ 64 → (IntKind.i64.wrap (2 ^ ((rd_T39 l1 x63_4).f0).toNat)) = ji51 := fun hle_ => by have h_ := hji51z hle_; rw [Int.one_mul] at h_; exact h_
               have hji51y : (wrap64 (1 * 2 ^ min ((rd_T39 l1 x63_4).f0).toNat 64)) = ji51 := (i64_w _).symm.trans hji51_
               have hji51x : ((rd_T39 l1 x63_4).f0) ≤ 64 → (wrap64 (1 * 2 ^ ((rd_T39 l1 x63_4).f0).toNat)) = ji51 := fun h_ => (i64_w _).symm.trans (hji51z h_)
               have c52 : 0 ≤ ((rd_T39 l1 x63_4).f1) := fl_ fun c52 => by rw [if_neg c52] at H; exact absurd H (by simp)
               rw [if_pos c52] at H
               have c52b0 := eq_true c52
               have c52b1 : decide (0 ≤ ((rd_T39 l1 x63_4).f1)) = true := decide_eq_true c52
               clear c52
               obtain ⟨ji53, hji53⟩ : ∃ j_ : Int, (shl .i64 1 ((rd_T39 l1 x63_4).f1)) = j_ := ⟨_, rfl⟩
               replace H : (fetch_read.l2 k4 l1 (Go.bits .or .i64 x9_4 (Go.bits .or .i64 (ji51) (ji53))) a0 x59_3 l1 (l1.length : Int) (wrap64 (x63_4 + 1)) a0 l1) = some (r1, r2, r3) := by first | (rw [hji53] at H; exact H) | (simp only [hji53] at H ⊢; exact H)
               have hji53_ : (IntKind.i64.wrap (1 * 2 ^ min ((rd_T39 l1 x63_4).f1).toNat 64)) = ji53 := hji53
               have hji53z : ((rd_T39 l1 x63_4).f1) ≤ 64 → (IntKind.i64.wrap (1 * 2 ^ ((rd_T39 l1 x63_4).f1).toNat)) = ji53 := shl_small hji53
               have hji53u : (IntKind.i64.wrap (2 ^ min ((rd_T39 l1 x63_4).f1).toNat 64)) = ji53 := by have h_ := hji53_; rw [Int.one_mul] at h_; exact h_
               have hji53v : ((rd_T39 l1 x63_4).f1) ≤ 64 → (IntKind.i64.wrap (2 ^ ((rd_T39 l1 x63_4).f1).toNat)) = ji53 := fun hle_ => by have h_ := hji53z hle_; rw [Int.one_mul] at h_; exact h_
               have hji53y : (wrap64 (1 * 2 ^ min ((rd_T39 l1 x63_4).f1).toNat 64)) = ji53 := (i64_w _).symm.trans hji53_
               have hji53x : ((rd_T39 l1 x63_4).f1) ≤ 64 → (wrap64 (1 * 2 ^ ((rd_T39 l1 x63_4).f1).toNat)) = ji53 := fun h_ => (i64_w _).symm.trans (hji53z h_)
               have H' := Aside0.mk H
               clear H
               have p107 : 0 ≤ (x63_4 : Int) := od_
               have q107 : x63_4 < (l1.length : Int) := od_
               obtain ⟨ad107, e107, hx107_0, hx107_1⟩ := at_T39 (Kd.V_reads' HO_61.out).2.2 x63_4 p107 q107
               cases e107
               replace p107 := eq_true p107
               replace q107 := eq_true q107
               go_wp2_with (first | ((with_reducible refine gate_dst (N := 11) rfl ?_); (try (refine gate_guard (by rfl) ?_; dsimp only)); refine be_ #[.int .i64 0, .int .i64 0] 39 ?_; intro gb108 hg w54 hbox hb; replace HO_1 := ve_ HO_1 hg hb; replace HO_61 := ve_ HO_61 hg hb; replace HO_104001 := ve_ HO_104001 hg hb; have BK108 := Aside0.mk (hbox); have GW108 := gw_ hg; have GE108 := gw_ hg; replace HB := hb_ hb; have NB102_108 := nl_ hg BK102; have NB108_102 := sy_ NB102_108; replace BK102 := bb_ BK102 hb; have NB103_108 := nl_ hg BK103; have NB108_103 := sy_ NB103_108; replace BK103 := bb_ BK103 hb; clear hb hbox hg; have hnb55 := NB108_102.out; have hnc55 := NB102_108.out; have hnb56 := NB108_103.out; have hnc56 := NB103_108.out; have hcz57_0 := bc_ BK108 0 (.int .i64 0); have hcz57_1 := bc_ BK108 1 (.int .i64 0); have hfz57_0 := bz_ BK108 0; have hfz57_1 := bz_ BK108 1))
               repeat (go_quiet (first | ((with_reducible refine gate_dst (N := 11) rfl ?_); (try (refine gate_guard (by rfl) ?_; dsimp only)); refine be_ #[.int .i64 0, .int .i64 0] 39 ?_; intro gb108 hg w54 hbox hb; replace HO_1 := ve_ HO_1 hg hb; replace HO_61 := ve_ HO_61 hg hb; replace HO_104001 := ve_ HO_104001 hg hb; have BK108 := Aside0.mk (hbox); have GW108 := gw_ hg; have GE108 := gw_ hg; replace HB := hb_ hb; have NB102_108 := nl_ hg BK102; have NB108_102 := sy_ NB102_108; replace BK102 := bb_ BK102 hb; have NB103_108 := nl_ hg BK103; have NB108_103 := sy_ NB103_108; replace BK103 := bb_ BK103 hb; clear hb hbox hg; have hnb55 := NB108_102.out; have hnc55 := NB102_108.out; have hnb56 := NB108_103.out; have hnc56 := NB103_108.out; have hcz57_0 := bc_ BK108 0 (.int .i64 0); have hcz57_1 := bc_ BK108 1 (.int .i64 0); have hfz57_0 := bz_ BK108 0; have hfz57_1 := bz_ BK108 1)); try go_wp2_with (first | ((with_reducible refine gate_dst (N := 11) rfl ?_); (try (refine gate_guard (by rfl) ?_; dsimp only)); refine be_ #[.int .i64 0, .int .i64 0] 39 ?_; intro gb108 hg w54 hbox hb; replace HO_1 := ve_ HO_1 hg hb; replace HO_61 := ve_ HO_61 hg hb; replace HO_104001 := ve_ HO_104001 hg hb; have BK108 := Aside0.mk (hbox); have GW108 := gw_ hg; have GE108 := gw_ hg; replace HB := hb_ hb; have NB102_108 := nl_ hg BK102; have NB108_102 := sy_ NB102_108; replace BK102 := bb_ BK102 hb; have NB103_108 := nl_ hg BK103; have NB108_103 := sy_ NB103_108; replace BK103 := bb_ BK103 hb; clear hb hbox hg; have hnb55 := NB108_102.out; have hnc55 := NB102_108.out; have hnb56 := NB108_103.out; have hnc56 := NB103_108.out; have hcz57_0 := bc_ BK108 0 (.int .i64 0); have hcz57_1 := bc_ BK108 1 (.int .i64 0); have hfz57_0 := bz_ BK108 0; have hfz57_1 := bz_ BK108 1)))
               go_roundg k4
               case measure => have := HJ2.out; have := HK2.out; have := HK3.out; have := HK4.out; omega
               case rel => exact ⟨(Go.bits .or .i64 x9_4 (Go.bits .or .i64 (ji51) (ji53))), (wrap64 (x63_4 + 1)), (by first | rfl | (simp; done) | (simp only [← hji51, ← hji53] <;> (first | rfl | simp)) | (simp [*]; done)), rs_, H', ⟨by have := HJ2.out; have := HK2.out; have := HK3.out; have := HK4.out; omega⟩, ⟨by refine kv_ ?_; exact Kd.V_mono (Kd.V_far (p := ⟨gb108, 1, none⟩) (Kd.V_far (p := ⟨gb108, 0, none⟩) (Kd.V_mono HO_1.out (fun k_ hk => (⟨hk, hk.2⟩ : _ ∧ k_ ≠ gb108))) (fun _ hk => hk.2) (.int .i64 ((rd_T39 l1 x63_4).f0))) (fun _ hk => hk.2) (.int .i64 ((rd_T39 l1 x63_4).f1))) (fun _ hk => ⟨hk.1.1.1, ⟨hk.1.1.2.1, hk.1.1.2.2⟩⟩)⟩, ⟨by refine kv_ ?_; exact Kd.V_mono (Kd.V_far (p := ⟨gb108, 1, none⟩) (Kd.V_far (p := ⟨gb108, 0, none⟩) (Kd.V_mono HO_61.out (fun k_ hk => (⟨hk, hk.2⟩ : _ ∧ k_ ≠ gb108))) (fun _ hk => hk.2) (.int .i64 ((rd_T39 l1 x63_4).f0))) (fun _ hk => hk.2) (.int .i64 ((rd_T39 l1 x63_4).f1))) (fun _ hk => ⟨hk.1.1.1, ⟨hk.1.1.2.1, hk.1.1.2.2⟩⟩)⟩, ⟨by refine kv_ ?_; exact Kd.V_mono (Kd.V_far (p := ⟨gb108, 1, none⟩) (Kd.V_far (p := ⟨gb108, 0, none⟩) (Kd.V_mono HO_104001.out (fun k_ hk => (⟨hk, hk.2⟩ : _ ∧ k_ ≠ gb108))) (fun _ hk => hk.2) (.int .i64 ((rd_T39 l1 x63_4).f0))) (fun _ hk => hk.2) (.int .i64 ((rd_T39 l1 x63_4).f1))) (fun _ hk => ⟨hk.1.1.1, ⟨hk.1.1.2.1, hk.1.1.2.2⟩⟩)⟩, ⟨by refine bk_ ?_; refine blk_far ?_ NB102_108.out _; refine bk_ ?_; refine blk_far ?_ NB102_108.out _; refine bk_ ?_; exact BK102.out⟩, ⟨by refine bk_ ?_; refine blk_far ?_ NB103_108.out _; refine bk_ ?_; refine blk_far ?_ NB103_108.out _; refine bk_ ?_; exact BK103.out⟩, ⟨bl_⟩⟩
              ·rw [if_neg c49] at H
               have c49b0 : ((Go.bits .and .i64 (ji48) 1) == 1) = false := beq_eq_false_iff_ne.mpr c49
               have c49b1 : ((Go.bits .and .i64 (ji48) 1) != 1) = true := bne_iff_ne.mpr c49
               have c58 : 0 ≤ ((rd_T39 l1 x63_4).f1) := fl_ fun c58 => by rw [if_neg c58] at H; exact absurd H (by simp)
               rw [if_pos c58] at H
               have c58b0 := eq_true c58
               have c58b1 : decide (0 ≤ ((rd_T39 l1 x63_4).f1)) = true := decide_eq_true c58
               clear c58
               obtain ⟨ji59, hji59⟩ : ∃ j_ : Int, (shr .i64 x9_4 ((rd_T39 l1 x63_4).f1)) = j_ := ⟨_, rfl⟩
               replace H : (if (Go.bits .and .i64 (ji59) 1) = 1 then (fetch_read.l2 k4 l1 (Go.bits .or .i64 x9_4 (Go.bits .or .i64 (shl .i64 1 ((rd_T39 l1 x63_4).f0)) (shl .i64 1 ((rd_T39 l1 x63_4).f1)))) a0 x59_3 l1 (l1.length : Int) (wrap64 (x63_4 + 1)) a0 l1) else (fetch_read.l2 k4 l1 x9_4 a0 x59_3 l1 (l1.length : Int) (wrap64 (x63_4 + 1)) a0 l1)) = some (r1, r2, r3) := by first | (rw [hji59] at H; exact H) | (simp only [hji59] at H ⊢; exact H)
               have hji59_ : (x9_4 / 2 ^ min ((rd_T39 l1 x63_4).f1).toNat 64) = ji59 := hji59
               have hji59z : ((rd_T39 l1 x63_4).f1) ≤ 64 → (x9_4 / 2 ^ ((rd_T39 l1 x63_4).f1).toNat) = ji59 := shr_small hji59
               by_cases c60 : (Go.bits .and .i64 (ji59) 1) = 1
               ·rw [if_pos c60] at H
                have c60b0 : ((Go.bits .and .i64 (ji59) 1) == 1) = true := beq_iff_eq.mpr c60
                have c60b1 : ((Go.bits .and .i64 (ji59) 1) != 1) = false := bne_eq_false_iff_eq.mpr c60
                clear c60
                have c61b0 := eq_true (od_ : 0 ≤ ((rd_T39 l1 x63_4).f0))
                obtain ⟨ji62, hji62⟩ : ∃ j_ : Int, (shl .i64 1 ((rd_T39 l1 x63_4).f0)) = j_ := ⟨_, rfl⟩
                replace H : (fetch_read.l2 k4 l1 (Go.bits .or .i64 x9_4 (Go.bits .or .i64 (ji62) (shl .i64 1 ((rd_T39 l1 x63_4).f1)))) a0 x59_3 l1 (l1.length : Int) (wrap64 (x63_4 + 1)) a0 l1) = some (r1, r2, r3) := by first | (rw [hji62] at H; exact H) | (simp only [hji62] at H ⊢; exact H)
                have hji62_ : (IntKind.i64.wrap (1 * 2 ^ min ((rd_T39 l1 x63_4).f0).toNat 64)) = ji62 := hji62
                have hji62z : ((rd_T39 l1 x63_4).f0) ≤ 64 → (IntKind.i64.wrap (1 * 2 ^ ((rd_T39 l1 x63_4).f0).toNat)) = ji62 := shl_small hji62
                have hji62u : (IntKind.i64.wrap (2 ^ min ((rd_T39 l1 x63_4).f0).toNat 64)) = ji62 := by have h_ := hji62_; rw [Int.one_mul] at h_; exact h_
                have hji62v : ((rd_T39 l1 x63_4).f0) ≤ 64 → (IntKind.i64.wrap (2 ^ ((rd_T39 l1 x63_4).f0).toNat)) = ji62 := fun hle_ => by have h_ := hji62z hle_; rw [Int.one_mul] at h_; exact h_
                have hji62y : (wrap64 (1 * 2 ^ min ((rd_T39 l1 x63_4).f0).toNat 64)) = ji62 := (i64_w _).symm.trans hji62_
                have hji62x : ((rd_T39 l1 x63_4).f0) ≤ 64 → (wrap64 (1 * 2 ^ ((rd_T39 l1 x63_4).f0).toNat)) = ji62 := fun h_ => (i64_w _).symm.trans (hji62z h_)
                have c63b0 := eq_true (od_ : 0 ≤ ((rd_T39 l1 x63_4).f1))
                obtain ⟨ji64, hji64⟩ : ∃ j_ : Int, (shl .i64 1 ((rd_T39 l1 x63_4).f1)) = j_ := ⟨_, rfl⟩
                replace H : (fetch_read.l2 k4 l1 (Go.bits .or .i64 x9_4 (Go.bits .or .i64 (ji62) (ji64))) a0 x59_3 l1 (l1.length : Int) (wrap64 (x63_4 + 1)) a0 l1) = some (r1, r2, r3) := by first | (rw [hji64] at H; exact H) | (simp only [hji64] at H ⊢; exact H)
                have hji64_ : (IntKind.i64.wrap (1 * 2 ^ min ((rd_T39 l1 x63_4).f1).toNat 64)) = ji64 := hji64
                have hji64z : ((rd_T39 l1 x63_4).f1) ≤ 64 → (IntKind.i64.wrap (1 * 2 ^ ((rd_T39 l1 x63_4).f1).toNat)) = ji64 := shl_small hji64
                have hji64u : (IntKind.i64.wrap (2 ^ min ((rd_T39 l1 x63_4).f1).toNat 64)) = ji64 := by have h_ := hji64_; rw [Int.one_mul] at h_; exact h_
                have hji64v : ((rd_T39 l1 x63_4).f1) ≤ 64 → (IntKind.i64.wrap (2 ^ ((rd_T39 l1 x63_4).f1).toNat)) = ji64 := fun hle_ => by have h_ := hji64z hle_; rw [Int.one_mul] at h_; exact h_
                have hji64y : (wrap64 (1 * 2 ^ min ((rd_T39 l1 x63_4).f1).toNat 64)) = ji64 := (i64_w _).symm.trans hji64_
                have hji64x : ((rd_T39 l1 x63_4).f1) ≤ 64 → (wrap64 (1 * 2 ^ ((rd_T39 l1 x63_4).f1).toNat)) = ji64 := fun h_ => (i64_w _).symm.trans (hji64z h_)
                have H' := Aside0.mk H
                clear H
                have p107 : 0 ≤ (x63_4 : Int) := od_
                have q107 : x63_4 < (l1.length : Int) := od_
                obtain ⟨ad107, e107, hx107_0, hx107_1⟩ := at_T39 (Kd.V_reads' HO_61.out).2.2 x63_4 p107 q107
                cases e107
                replace p107 := eq_true p107
                replace q107 := eq_true q107
                go_wp2_with (first | ((with_reducible refine gate_dst (N := 11) rfl ?_); (try (refine gate_guard (by rfl) ?_; dsimp only)); refine be_ #[.int .i64 0, .int .i64 0] 39 ?_; intro gb108 hg w65 hbox hb; replace HO_1 := ve_ HO_1 hg hb; replace HO_61 := ve_ HO_61 hg hb; replace HO_104001 := ve_ HO_104001 hg hb; have BK108 := Aside0.mk (hbox); have GW108 := gw_ hg; have GE108 := gw_ hg; replace HB := hb_ hb; have NB102_108 := nl_ hg BK102; have NB108_102 := sy_ NB102_108; replace BK102 := bb_ BK102 hb; have NB103_108 := nl_ hg BK103; have NB108_103 := sy_ NB103_108; replace BK103 := bb_ BK103 hb; clear hb hbox hg; have hnb66 := NB108_102.out; have hnc66 := NB102_108.out; have hnb67 := NB108_103.out; have hnc67 := NB103_108.out; have hcz68_0 := bc_ BK108 0 (.int .i64 0); have hcz68_1 := bc_ BK108 1 (.int .i64 0); have hfz68_0 := bz_ BK108 0; have hfz68_1 := bz_ BK108 1))
                repeat (go_quiet (first | ((with_reducible refine gate_dst (N := 11) rfl ?_); (try (refine gate_guard (by rfl) ?_; dsimp only)); refine be_ #[.int .i64 0, .int .i64 0] 39 ?_; intro gb108 hg w65 hbox hb; replace HO_1 := ve_ HO_1 hg hb; replace HO_61 := ve_ HO_61 hg hb; replace HO_104001 := ve_ HO_104001 hg hb; have BK108 := Aside0.mk (hbox); have GW108 := gw_ hg; have GE108 := gw_ hg; replace HB := hb_ hb; have NB102_108 := nl_ hg BK102; have NB108_102 := sy_ NB102_108; replace BK102 := bb_ BK102 hb; have NB103_108 := nl_ hg BK103; have NB108_103 := sy_ NB103_108; replace BK103 := bb_ BK103 hb; clear hb hbox hg; have hnb66 := NB108_102.out; have hnc66 := NB102_108.out; have hnb67 := NB108_103.out; have hnc67 := NB103_108.out; have hcz68_0 := bc_ BK108 0 (.int .i64 0); have hcz68_1 := bc_ BK108 1 (.int .i64 0); have hfz68_0 := bz_ BK108 0; have hfz68_1 := bz_ BK108 1)); try go_wp2_with (first | ((with_reducible refine gate_dst (N := 11) rfl ?_); (try (refine gate_guard (by rfl) ?_; dsimp only)); refine be_ #[.int .i64 0, .int .i64 0] 39 ?_; intro gb108 hg w65 hbox hb; replace HO_1 := ve_ HO_1 hg hb; replace HO_61 := ve_ HO_61 hg hb; replace HO_104001 := ve_ HO_104001 hg hb; have BK108 := Aside0.mk (hbox); have GW108 := gw_ hg; have GE108 := gw_ hg; replace HB := hb_ hb; have NB102_108 := nl_ hg BK102; have NB108_102 := sy_ NB102_108; replace BK102 := bb_ BK102 hb; have NB103_108 := nl_ hg BK103; have NB108_103 := sy_ NB103_108; replace BK103 := bb_ BK103 hb; clear hb hbox hg; have hnb66 := NB108_102.out; have hnc66 := NB102_108.out; have hnb67 := NB108_103.out; have hnc67 := NB103_108.out; have hcz68_0 := bc_ BK108 0 (.int .i64 0); have hcz68_1 := bc_ BK108 1 (.int .i64 0); have hfz68_0 := bz_ BK108 0; have hfz68_1 := bz_ BK108 1)))
                go_roundg k4
                case measure => have := HJ2.out; have := HK2.out; have := HK3.out; have := HK4.out; omega
                case rel => exact ⟨(Go.bits .or .i64 x9_4 (Go.bits .or .i64 (ji62) (ji64))), (wrap64 (x63_4 + 1)), (by first | rfl | (simp; done) | (simp only [← hji62, ← hji64] <;> (first | rfl | simp)) | (simp [*]; done)), rs_, H', ⟨by have := HJ2.out; have := HK2.out; have := HK3.out; have := HK4.out; omega⟩, ⟨by refine kv_ ?_; exact Kd.V_mono (Kd.V_far (p := ⟨gb108, 1, none⟩) (Kd.V_far (p := ⟨gb108, 0, none⟩) (Kd.V_mono HO_1.out (fun k_ hk => (⟨hk, hk.2⟩ : _ ∧ k_ ≠ gb108))) (fun _ hk => hk.2) (.int .i64 ((rd_T39 l1 x63_4).f0))) (fun _ hk => hk.2) (.int .i64 ((rd_T39 l1 x63_4).f1))) (fun _ hk => ⟨hk.1.1.1, ⟨hk.1.1.2.1, hk.1.1.2.2⟩⟩)⟩, ⟨by refine kv_ ?_; exact Kd.V_mono (Kd.V_far (p := ⟨gb108, 1, none⟩) (Kd.V_far (p := ⟨gb108, 0, none⟩) (Kd.V_mono HO_61.out (fun k_ hk => (⟨hk, hk.2⟩ : _ ∧ k_ ≠ gb108))) (fun _ hk => hk.2) (.int .i64 ((rd_T39 l1 x63_4).f0))) (fun _ hk => hk.2) (.int .i64 ((rd_T39 l1 x63_4).f1))) (fun _ hk => ⟨hk.1.1.1, ⟨hk.1.1.2.1, hk.1.1.2.2⟩⟩)⟩, ⟨by refine kv_ ?_; exact Kd.V_mono (Kd.V_far (p := ⟨gb108, 1, none⟩) (Kd.V_far (p := ⟨gb108, 0, none⟩) (Kd.V_mono HO_104001.out (fun k_ hk => (⟨hk, hk.2⟩ : _ ∧ k_ ≠ gb108))) (fun _ hk => hk.2) (.int .i64 ((rd_T39 l1 x63_4).f0))) (fun _ hk => hk.2) (.int .i64 ((rd_T39 l1 x63_4).f1))) (fun _ hk => ⟨hk.1.1.1, ⟨hk.1.1.2.1, hk.1.1.2.2⟩⟩)⟩, ⟨by refine bk_ ?_; refine blk_far ?_ NB102_108.out _; refine bk_ ?_; refine blk_far ?_ NB102_108.out _; refine bk_ ?_; exact BK102.out⟩, ⟨by refine bk_ ?_; refine blk_far ?_ NB103_108.out _; refine bk_ ?_; refine blk_far ?_ NB103_108.out _; refine bk_ ?_; exact BK103.out⟩, ⟨bl_⟩⟩
               ·rw [if_neg c60] at H
                have c60b0 : ((Go.bits .and .i64 (ji59) 1) == 1) = false := beq_eq_false_iff_ne.mpr c60
                have c60b1 : ((Go.bits .and .i64 (ji59) 1) != 1) = true := bne_iff_ne.mpr c60
                have H' := Aside0.mk H
                clear H
                have p107 : 0 ≤ (x63_4 : Int) := od_
                have q107 : x63_4 < (l1.length : Int) := od_
                obtain ⟨ad107, e107, hx107_0, hx107_1⟩ := at_T39 (Kd.V_reads' HO_61.out).2.2 x63_4 p107 q107
                cases e107
                replace p107 := eq_true p107
                replace q107 := eq_true q107
                go_wp2_with (first | ((with_reducible refine gate_dst (N := 11) rfl ?_); (try (refine gate_guard (by rfl) ?_; dsimp only)); refine be_ #[.int .i64 0, .int .i64 0] 39 ?_; intro gb108 hg w69 hbox hb; replace HO_1 := ve_ HO_1 hg hb; replace HO_61 := ve_ HO_61 hg hb; replace HO_104001 := ve_ HO_104001 hg hb; have BK108 := Aside0.mk (hbox); have GW108 := gw_ hg; have GE108 := gw_ hg; replace HB := hb_ hb; have NB102_108 := nl_ hg BK102; have NB108_102 := sy_ NB102_108; replace BK102 := bb_ BK102 hb; have NB103_108 := nl_ hg BK103; have NB108_103 := sy_ NB103_108; replace BK103 := bb_ BK103 hb; clear hb hbox hg; have hnb70 := NB108_102.out; have hnc70 := NB102_108.out; have hnb71 := NB108_103.out; have hnc71 := NB103_108.out; have hcz72_0 := bc_ BK108 0 (.int .i64 0); have hcz72_1 := bc_ BK108 1 (.int .i64 0); have hfz72_0 := bz_ BK108 0; have hfz72_1 := bz_ BK108 1))
                repeat (go_quiet (first | ((with_reducible refine gate_dst (N := 11) rfl ?_); (try (refine gate_guard (by rfl) ?_; dsimp only)); refine be_ #[.int .i64 0, .int .i64 0] 39 ?_; intro gb108 hg w69 hbox hb; replace HO_1 := ve_ HO_1 hg hb; replace HO_61 := ve_ HO_61 hg hb; replace HO_104001 := ve_ HO_104001 hg hb; have BK108 := Aside0.mk (hbox); have GW108 := gw_ hg; have GE108 := gw_ hg; replace HB := hb_ hb; have NB102_108 := nl_ hg BK102; have NB108_102 := sy_ NB102_108; replace BK102 := bb_ BK102 hb; have NB103_108 := nl_ hg BK103; have NB108_103 := sy_ NB103_108; replace BK103 := bb_ BK103 hb; clear hb hbox hg; have hnb70 := NB108_102.out; have hnc70 := NB102_108.out; have hnb71 := NB108_103.out; have hnc71 := NB103_108.out; have hcz72_0 := bc_ BK108 0 (.int .i64 0); have hcz72_1 := bc_ BK108 1 (.int .i64 0); have hfz72_0 := bz_ BK108 0; have hfz72_1 := bz_ BK108 1)); try go_wp2_with (first | ((with_reducible refine gate_dst (N := 11) rfl ?_); (try (refine gate_guard (by rfl) ?_; dsimp only)); refine be_ #[.int .i64 0, .int .i64 0] 39 ?_; intro gb108 hg w69 hbox hb; replace HO_1 := ve_ HO_1 hg hb; replace HO_61 := ve_ HO_61 hg hb; replace HO_104001 := ve_ HO_104001 hg hb; have BK108 := Aside0.mk (hbox); have GW108 := gw_ hg; have GE108 := gw_ hg; replace HB := hb_ hb; have NB102_108 := nl_ hg BK102; have NB108_102 := sy_ NB102_108; replace BK102 := bb_ BK102 hb; have NB103_108 := nl_ hg BK103; have NB108_103 := sy_ NB103_108; replace BK103 := bb_ BK103 hb; clear hb hbox hg; have hnb70 := NB108_102.out; have hnc70 := NB102_108.out; have hnb71 := NB108_103.out; have hnc71 := NB103_108.out; have hcz72_0 := bc_ BK108 0 (.int .i64 0); have hcz72_1 := bc_ BK108 1 (.int .i64 0); have hfz72_0 := bz_ BK108 0; have hfz72_1 := bz_ BK108 1)))
                go_roundg k4
                case measure => have := HJ2.out; have := HK2.out; have := HK3.out; have := HK4.out; omega
                case rel => exact ⟨(x9_4), (wrap64 (x63_4 + 1)), rs_, rs_, H', ⟨by have := HJ2.out; have := HK2.out; have := HK3.out; have := HK4.out; omega⟩, ⟨by refine kv_ ?_; exact Kd.V_mono (Kd.V_far (p := ⟨gb108, 1, none⟩) (Kd.V_far (p := ⟨gb108, 0, none⟩) (Kd.V_mono HO_1.out (fun k_ hk => (⟨hk, hk.2⟩ : _ ∧ k_ ≠ gb108))) (fun _ hk => hk.2) (.int .i64 ((rd_T39 l1 x63_4).f0))) (fun _ hk => hk.2) (.int .i64 ((rd_T39 l1 x63_4).f1))) (fun _ hk => ⟨hk.1.1.1, ⟨hk.1.1.2.1, hk.1.1.2.2⟩⟩)⟩, ⟨by refine kv_ ?_; exact Kd.V_mono (Kd.V_far (p := ⟨gb108, 1, none⟩) (Kd.V_far (p := ⟨gb108, 0, none⟩) (Kd.V_mono HO_61.out (fun k_ hk => (⟨hk, hk.2⟩ : _ ∧ k_ ≠ gb108))) (fun _ hk => hk.2) (.int .i64 ((rd_T39 l1 x63_4).f0))) (fun _ hk => hk.2) (.int .i64 ((rd_T39 l1 x63_4).f1))) (fun _ hk => ⟨hk.1.1.1, ⟨hk.1.1.2.1, hk.1.1.2.2⟩⟩)⟩, ⟨by refine kv_ ?_; exact Kd.V_mono (Kd.V_far (p := ⟨gb108, 1, none⟩) (Kd.V_far (p := ⟨gb108, 0, none⟩) (Kd.V_mono HO_104001.out (fun k_ hk => (⟨hk, hk.2⟩ : _ ∧ k_ ≠ gb108))) (fun _ hk => hk.2) (.int .i64 ((rd_T39 l1 x63_4).f0))) (fun _ hk => hk.2) (.int .i64 ((rd_T39 l1 x63_4).f1))) (fun _ hk => ⟨hk.1.1.1, ⟨hk.1.1.2.1, hk.1.1.2.2⟩⟩)⟩, ⟨by refine bk_ ?_; refine blk_far ?_ NB102_108.out _; refine bk_ ?_; refine blk_far ?_ NB102_108.out _; refine bk_ ?_; exact BK102.out⟩, ⟨by refine bk_ ?_; refine blk_far ?_ NB103_108.out _; refine bk_ ?_; refine blk_far ?_ NB103_108.out _; refine bk_ ?_; exact BK103.out⟩, ⟨bl_⟩⟩
             ·rw [if_neg c44] at H
              have c44b0 : decide (x63_4 < (l1.length : Int)) = false := decide_eq_false c44
              clear c44
              have H' := Aside0.mk H
              clear H
              go_wp2
              repeat (go_quiet (fail); try go_wp2)
              go_roundg k4
              case measure => have := HJ2.out; have := HK2.out; have := HK3.out; have := HK4.out; omega
              case rel => exact ⟨(x9_4), (wrap64 (x59_3 + 1)), rs_, rs_, H', ⟨by have := HJ2.out; have := HK2.out; have := HK3.out; have := HK4.out; omega⟩, ⟨kv_ HO_1.out⟩, ⟨kv_ HO_104001.out⟩, ⟨bk_ BK102.out⟩, ⟨bk_ BK103.out⟩, ⟨bl_⟩⟩
          ·rw [if_neg c43] at H
           have c43b0 : decide (x59_3 < a0) = false := decide_eq_false c43
           clear c43
           obtain ⟨t106, A73, H⟩ := bi_ H
           replace H : (if x9_3 = t106 then (some (a0, l1, 0)) else (some (0, ([] : List (S39)), 9))) = some (r1, r2, r3) := H
           by_cases c74 : x9_3 = t106
           ·rw [if_pos c74] at H
            have c74b0 : (x9_3 == t106) = true := beq_iff_eq.mpr c74
            have c74b1 : (x9_3 != t106) = false := bne_eq_false_iff_eq.mpr c74
            clear c74
            simp only [Option.some.injEq, Prod.mk.injEq] at H
            obtain ⟨rfl, rfl, rfl⟩ := H
            have hnb75 := NB103_102.out
            have hnc75 := NB102_103.out
            have hcz76_0 := bc_ BK103 0 (.int .i64 a0)
            have hcz76_1 := bc_ BK103 1 (.slice A1 l1.length c1)
            have hfz76_0 := bz_ BK103 0
            have hfz76_1 := bz_ BK103 1
            go_wp2_with (first | (go_at_call 23; (with_reducible refine (fetch_quarter_everybody.calls a0 _ _ l1 t106 _ ?side1 ?side2 A73.out).mono ?_); (case side1 => repeat (first | exact (Kd.V_reads' HO_104001.out).2.2 | (with_reducible refine Kd.C_alloc ?_ _) | (with_reducible refine Kd.C_drewN ?_ _) | (with_reducible refine Kd.C_drew ?_))); (case side2 => exact (Kd.V_reads' HO_104001.out).2.1); rintro e w77 ⟨rfl, hb⟩; replace HO_1 := Aside0.mk (Kd.V_below (kv_ HO_1.out) hb); replace HO_104001 := Aside0.mk (Kd.V_below (kv_ HO_104001.out) hb); replace BK102 := bb_ BK102 hb; replace BK103 := bb_ BK103 hb; replace HB := hb_ hb; clear hb; have hcz78_0 := bc_ BK103 0 (.int .i64 a0); have hcz78_1 := bc_ BK103 1 (.slice A1 l1.length c1); have hfz78_0 := bz_ BK103 0; have hfz78_1 := bz_ BK103 1; have hcz79_0 := bc_ BK102 0 (.int .i64 x103000_2); have hcz79_1 := bc_ BK102 1 (.slice none 0 0); have hfz79_0 := bz_ BK102 0; have hfz79_1 := bz_ BK102 1))
            repeat (go_quiet (first | (go_at_call 23; (with_reducible refine (fetch_quarter_everybody.calls a0 _ _ l1 t106 _ ?side1 ?side2 A73.out).mono ?_); (case side1 => repeat (first | exact (Kd.V_reads' HO_104001.out).2.2 | (with_reducible refine Kd.C_alloc ?_ _) | (with_reducible refine Kd.C_drewN ?_ _) | (with_reducible refine Kd.C_drew ?_))); (case side2 => exact (Kd.V_reads' HO_104001.out).2.1); rintro e w77 ⟨rfl, hb⟩; replace HO_1 := Aside0.mk (Kd.V_below (kv_ HO_1.out) hb); replace HO_104001 := Aside0.mk (Kd.V_below (kv_ HO_104001.out) hb); replace BK102 := bb_ BK102 hb; replace BK103 := bb_ BK103 hb; replace HB := hb_ hb; clear hb; have hcz78_0 := bc_ BK103 0 (.int .i64 a0); have hcz78_1 := bc_ BK103 1 (.slice A1 l1.length c1); have hfz78_0 := bz_ BK103 0; have hfz78_1 := bz_ BK103 1; have hcz79_0 := bc_ BK102 0 (.int .i64 x103000_2); have hcz79_1 := bc_ BK102 1 (.slice none 0 0); have hfz79_0 := bz_ BK102 0; have hfz79_1 := bz_ BK102 1)); try go_wp2_with (first | (go_at_call 23; (with_reducible refine (fetch_quarter_everybody.calls a0 _ _ l1 t106 _ ?side1 ?side2 A73.out).mono ?_); (case side1 => repeat (first | exact (Kd.V_reads' HO_104001.out).2.2 | (with_reducible refine Kd.C_alloc ?_ _) | (with_reducible refine Kd.C_drewN ?_ _) | (with_reducible refine Kd.C_drew ?_))); (case side2 => exact (Kd.V_reads' HO_104001.out).2.1); rintro e w77 ⟨rfl, hb⟩; replace HO_1 := Aside0.mk (Kd.V_below (kv_ HO_1.out) hb); replace HO_104001 := Aside0.mk (Kd.V_below (kv_ HO_104001.out) hb); replace BK102 := bb_ BK102 hb; replace BK103 := bb_ BK103 hb; replace HB := hb_ hb; clear hb; have hcz78_0 := bc_ BK103 0 (.int .i64 a0); have hcz78_1 := bc_ BK103 1 (.slice A1 l1.length c1); have hfz78_0 := bz_ BK103 0; have hfz78_1 := bz_ BK103 1; have hcz79_0 := bc_ BK102 0 (.int .i64 x103000_2); have hcz79_1 := bc_ BK102 1 (.slice none 0 0); have hfz79_0 := bz_ BK102 0; have hfz79_1 := bz_ BK102 1)))
            refine bodyPost_ret (results_ct rfl _ _ gb102 48 #[.int .i64 a0, .slice A1 l1.length c1] (0, 0) _ rfl (by refine bk_ ?_; refine blk_put (cs := #[.int .i64 a0, .slice none 0 0]) ?_ 1 _ rfl; refine bk_ ?_; refine blk_put (cs := #[.int .i64 x103000_2, .slice none 0 0]) ?_ 0 _ rfl; refine bk_ ?_; exact BK102.out) Tryd.underlying48 rfl (by kernel_rfl)) rfl ?_
            exact ⟨_, er_, by refine kv_ ?_; exact Kd.V_mono (Kd.V_far (p := ⟨gb102, 1, none⟩) (Kd.V_far (p := ⟨gb102, 0, none⟩) (Kd.V_mono HO_104001.out (fun k_ hk => (⟨hk, hk.2.1⟩ : _ ∧ k_ ≠ gb102))) (fun _ hk => hk.2) (.int .i64 a0)) (fun _ hk => hk.2) (.slice A1 l1.length c1)) (fun _ hk => hk.1.1), bl_⟩
           ·rw [if_neg c74] at H
            have c74b0 : (x9_3 == t106) = false := beq_eq_false_iff_ne.mpr c74
            have c74b1 : (x9_3 != t106) = true := bne_iff_ne.mpr c74
            simp only [Option.some.injEq, Prod.mk.injEq] at H
            obtain ⟨rfl, rfl, rfl⟩ := H
            have hnb80 := NB103_102.out
            have hnc80 := NB102_103.out
            have hcz81_0 := bc_ BK103 0 (.int .i64 a0)
            have hcz81_1 := bc_ BK103 1 (.slice A1 l1.length c1)
            have hfz81_0 := bz_ BK103 0
            have hfz81_1 := bz_ BK103 1
            go_wp2_with (first | (go_at_call 23; (with_reducible refine (fetch_quarter_everybody.calls a0 _ _ l1 t106 _ ?side1 ?side2 A73.out).mono ?_); (case side1 => repeat (first | exact (Kd.V_reads' HO_104001.out).2.2 | (with_reducible refine Kd.C_alloc ?_ _) | (with_reducible refine Kd.C_drewN ?_ _) | (with_reducible refine Kd.C_drew ?_))); (case side2 => exact (Kd.V_reads' HO_104001.out).2.1); rintro e w82 ⟨rfl, hb⟩; replace HO_1 := Aside0.mk (Kd.V_below (kv_ HO_1.out) hb); replace HO_104001 := Aside0.mk (Kd.V_below (kv_ HO_104001.out) hb); replace BK102 := bb_ BK102 hb; replace BK103 := bb_ BK103 hb; replace HB := hb_ hb; clear hb; have hcz83_0 := bc_ BK102 0 (.int .i64 x103000_2); have hcz83_1 := bc_ BK102 1 (.slice none 0 0); have hfz83_0 := bz_ BK102 0; have hfz83_1 := bz_ BK102 1))
            repeat (go_quiet (first | (go_at_call 23; (with_reducible refine (fetch_quarter_everybody.calls a0 _ _ l1 t106 _ ?side1 ?side2 A73.out).mono ?_); (case side1 => repeat (first | exact (Kd.V_reads' HO_104001.out).2.2 | (with_reducible refine Kd.C_alloc ?_ _) | (with_reducible refine Kd.C_drewN ?_ _) | (with_reducible refine Kd.C_drew ?_))); (case side2 => exact (Kd.V_reads' HO_104001.out).2.1); rintro e w82 ⟨rfl, hb⟩; replace HO_1 := Aside0.mk (Kd.V_below (kv_ HO_1.out) hb); replace HO_104001 := Aside0.mk (Kd.V_below (kv_ HO_104001.out) hb); replace BK102 := bb_ BK102 hb; replace BK103 := bb_ BK103 hb; replace HB := hb_ hb; clear hb; have hcz83_0 := bc_ BK102 0 (.int .i64 x103000_2); have hcz83_1 := bc_ BK102 1 (.slice none 0 0); have hfz83_0 := bz_ BK102 0; have hfz83_1 := bz_ BK102 1)); try go_wp2_with (first | (go_at_call 23; (with_reducible refine (fetch_quarter_everybody.calls a0 _ _ l1 t106 _ ?side1 ?side2 A73.out).mono ?_); (case side1 => repeat (first | exact (Kd.V_reads' HO_104001.out).2.2 | (with_reducible refine Kd.C_alloc ?_ _) | (with_reducible refine Kd.C_drewN ?_ _) | (with_reducible refine Kd.C_drew ?_))); (case side2 => exact (Kd.V_reads' HO_104001.out).2.1); rintro e w82 ⟨rfl, hb⟩; replace HO_1 := Aside0.mk (Kd.V_below (kv_ HO_1.out) hb); replace HO_104001 := Aside0.mk (Kd.V_below (kv_ HO_104001.out) hb); replace BK102 := bb_ BK102 hb; replace BK103 := bb_ BK103 hb; replace HB := hb_ hb; clear hb; have hcz83_0 := bc_ BK102 0 (.int .i64 x103000_2); have hcz83_1 := bc_ BK102 1 (.slice none 0 0); have hfz83_0 := bz_ BK102 0; have hfz83_1 := bz_ BK102 1)))
            refine bodyPost_ret (results_ct rfl _ _ gb102 48 #[.int .i64 0, .slice none 0 0] (0, 0) _ rfl (by refine bk_ ?_; refine blk_put (cs := #[.int .i64 0, .slice none 0 0]) ?_ 1 _ rfl; refine bk_ ?_; refine blk_put (cs := #[.int .i64 x103000_2, .slice none 0 0]) ?_ 0 _ rfl; refine bk_ ?_; exact BK102.out) Tryd.underlying48 rfl (by kernel_rfl)) rfl ?_
            exact ⟨_, er_, Kd.V_nil _ _ _ _ _, bl_⟩

end Go.Proofs.YtlcgoacmlbeliaaDoor.P
