-- Written by wip/tools/myprint.py of this session's repo, over the kit's printer and hand texts.
import Derived.Test.YtlcgoacmlbeliaaDoorPx0
import Derived.Test.YtlcgoacmlbeliaaDoorPre
import Derived.Test.YtlcgoacmlbeliaaDoorPx1
import Derived.Test.YtlcgoacmlbeliaaDoorPx2
namespace Go.Proofs.YtlcgoacmlbeliaaDoor.P
open Go.RowKit Go.Proofs.YtlcgoacmlbeliaaDoorW.PrintWords Go.Proofs.YtlcgoacmlbeliaaDoorW.PrintLast Go.Proofs.YtlcgoacmlbeliaaDoorW.PrintMore
attribute [local go_sem] max2_int min2_int max_two min_two max_three min_three max_four min_four   -- for this text's walks alone
set_option linter.unusedVariables false
set_option linter.unusedSimpArgs false

/-! ### fetch_quarter_reach: function 24 -/
mutual
def fetch_quarter_reach.l0 : Nat → Int → Int → Int → Int → List (S39) → Option (Int)
  | 0, _, _, _, _, _ => none
  | k + 1, x5, x11, x12, x277000, x277001 => if x12 < x11 then (fetch_quarter_reach.l1 k x5 x11 x12 x277001 (x277001.length : Int) 0 x277000 x277001) else (some x5)
def fetch_quarter_reach.l1 : Nat → Int → Int → Int → List (S39) → Int → Int → Int → List (S39) → Option (Int)
  | 0, _, _, _, _, _, _, _, _ => none
  | k + 1, x5, x11, x12, x15, x16, x17, x277000, x277001 => if x17 < x16 then (if 0 ≤ x17 then (if x17 < (x15.length : Int) then (if 0 ≤ ((rd_T39 x15 x17).f0) then (if (Go.bits .and .i64 (shr .i64 x5 ((rd_T39 x15 x17).f0)) 1) = 1 then (if 0 ≤ ((rd_T39 x15 x17).f1) then (fetch_quarter_reach.l1 k (Go.bits .or .i64 x5 (shl .i64 1 ((rd_T39 x15 x17).f1))) x11 x12 x15 x16 (wrap64 (x17 + 1)) x277000 x277001) else (none)) else (fetch_quarter_reach.l1 k x5 x11 x12 x15 x16 (wrap64 (x17 + 1)) x277000 x277001)) else (none)) else (none)) else (none)) else (fetch_quarter_reach.l0 k x5 x11 (wrap64 (x12 + 1)) x277000 x277001)
end
def fetch_quarter_reach.f (k : Nat) (a0_0 : Int) (l0_1 : List (S39)) (a1 : Int) : Option (Int) := if 0 ≤ a1 then (fetch_quarter_reach.l0 k (shl .i64 1 a1) a0_0 0 a0_0 l0_1) else (none)
theorem fetch_quarter_reach.mono_l : ∀ k, (∀ y0 y1 y2 y3 y4, LeO (fetch_quarter_reach.l0 k y0 y1 y2 y3 y4) (fetch_quarter_reach.l0 (k + 1) y0 y1 y2 y3 y4)) ∧ (∀ y0 y1 y2 y3 y4 y5 y6 y7, LeO (fetch_quarter_reach.l1 k y0 y1 y2 y3 y4 y5 y6 y7) (fetch_quarter_reach.l1 (k + 1) y0 y1 y2 y3 y4 y5 y6 y7))
  | 0 => ⟨fun _ _ _ _ _ r h => by simp [fetch_quarter_reach.l0] at h, fun _ _ _ _ _ _ _ _ r h => by simp [fetch_quarter_reach.l1] at h⟩
  | k + 1 => by
    obtain ⟨ih0, ih1⟩ := fetch_quarter_reach.mono_l k
    refine ⟨?_, ?_⟩
    · intro y0 y1 y2 y3 y4
      unfold fetch_quarter_reach.l0
      with_reducible repeat' first | exact ih0 _ _ _ _ _ | exact ih1 _ _ _ _ _ _ _ _ | exact LeO.refl _ | exact LeO.none _ | refine LeO.ite ?_ ?_ | refine LeO.bind ?_ (fun _ => ?_)
    · intro y0 y1 y2 y3 y4 y5 y6 y7
      unfold fetch_quarter_reach.l1
      with_reducible repeat' first | exact ih0 _ _ _ _ _ | exact ih1 _ _ _ _ _ _ _ _ | exact LeO.refl _ | exact LeO.none _ | refine LeO.ite ?_ ?_ | refine LeO.bind ?_ (fun _ => ?_)
theorem fetch_quarter_reach.mono : ∀ a0 a1 a2 k, LeO (fetch_quarter_reach.f k a0 a1 a2) (fetch_quarter_reach.f (k + 1) a0 a1 a2) := by
  intro a0 a1 a2 k
  obtain ⟨ih0, ih1⟩ := fetch_quarter_reach.mono_l k
  unfold fetch_quarter_reach.f
  with_reducible repeat' first | exact ih0 _ _ _ _ _ | exact ih1 _ _ _ _ _ _ _ _ | exact LeO.refl _ | exact LeO.none _ | refine LeO.ite ?_ ?_ | refine LeO.bind ?_ (fun _ => ?_)
set_option maxHeartbeats 8000000 in
set_option maxRecDepth 100000 in
theorem fetch_quarter_reach.calls (k : Nat) (a0_0 : Int) (A0_1 : Option Addr) (c0_1 : Nat) (l0_1 : List (S39)) (a1 : Int) (r : Int) (w : World) (hr0_1 : Kd.C k39 w A0_1 l0_1.length l0_1) (hc0_1 : l0_1.length ≤ c0_1) (h : fetch_quarter_reach.f k a0_0 l0_1 a1 = some r) :
    Calls Tryd.prog 24 #[.agg #[.int .i64 a0_0, .slice A0_1 l0_1.length c0_1], .int .i64 a1] w fun e w' => e = .returned (.int .i64 r) ∧ Below w.heap.size w w' := by
 have hu48 := Tryd.underlying48
 have hu39 := Tryd.underlying39
 have HR0_1 := Aside0.mk hr0_1
 have HC0_1 := Aside0.mk hc0_1
 clear hr0_1 hc0_1
 have HB := Aside0.mk (Below.refl w.heap.size w)
 have H : (if 0 ≤ a1 then (fetch_quarter_reach.l0 k (shl .i64 1 a1) a0_0 0 a0_0 l0_1) else (none)) = some r := h
 clear h
 have c3 : 0 ≤ a1 := fl_ fun c3 => by rw [if_neg c3] at H; exact absurd H (by simp)
 rw [if_pos c3] at H
 have c3b0 := eq_true c3
 have c3b1 : decide (0 ≤ a1) = true := decide_eq_true c3
 clear c3
 obtain ⟨ji4, hji4⟩ : ∃ j_ : Int, (shl .i64 1 a1) = j_ := ⟨_, rfl⟩
 replace H : (fetch_quarter_reach.l0 k ji4 a0_0 0 a0_0 l0_1) = some r := by first | (rw [hji4] at H; exact H) | (simp only [hji4] at H ⊢; exact H)
 have hji4_ : (IntKind.i64.wrap (1 * 2 ^ min a1.toNat 64)) = ji4 := hji4
 have hji4z : a1 ≤ 64 → (IntKind.i64.wrap (1 * 2 ^ a1.toNat)) = ji4 := shl_small hji4
 have hji4u : (IntKind.i64.wrap (2 ^ min a1.toNat 64)) = ji4 := by have h_ := hji4_; rw [Int.one_mul] at h_; exact h_
 have hji4v : a1 ≤ 64 → (IntKind.i64.wrap (2 ^ a1.toNat)) = ji4 := fun hle_ => by have h_ := hji4z hle_; rw [Int.one_mul] at h_; exact h_
 have hji4y : (wrap64 (1 * 2 ^ min a1.toNat 64)) = ji4 := (i64_w _).symm.trans hji4_
 have hji4x : a1 ≤ 64 → (wrap64 (1 * 2 ^ a1.toNat)) = ji4 := fun h_ => (i64_w _).symm.trans (hji4z h_)
 have H' := Aside0.mk H
 clear H
 go_enter Tryd.func24, Tryd.ntmps24
 go_wp2_with (first | ((with_reducible refine gate_dst (N := 2) rfl ?_); refine be_ #[.int .i64 a0_0, .slice A0_1 l0_1.length c0_1] 48 ?_; intro gb276 hg w5 hbox hb; have BK276 := Aside0.mk (hbox); have GW276 := gw_ hg; have GE276 := gw_ hg; replace HB := hb_ hb; clear hb hbox hg; have hcz6_0 := bc_ BK276 0 (.int .i64 a0_0); have hcz6_1 := bc_ BK276 1 (.slice A0_1 l0_1.length c0_1); have hfz6_0 := bz_ BK276 0; have hfz6_1 := bz_ BK276 1))
 go_loopg [5, 12] k (fun kq v5 v12 w' => ∃ (x5_1 : Int) (x12_1 : Int), v5 = .int .i64 x5_1 ∧ v12 = .int .i64 x12_1 ∧ Aside0 (fetch_quarter_reach.l0 kq x5_1 a0_0 x12_1 a0_0 l0_1 = some r) ∧ Aside0 (kq ≤ k) ∧ Aside0 (w'.heap[gb276]? = some (.cells #[.int .i64 a0_0, (.slice A0_1 l0_1.length c0_1)] 48 (0, 0))) ∧ Aside0 (Below w.heap.size w w'))
 case atStart => exact ⟨(ji4), (0), (by first | rfl | (simp; done) | (simp only [← hji4] <;> (first | rfl | simp)) | (simp [*]; done)), rs_, H', ⟨Nat.le_refl _⟩, ⟨bk_ BK276.out⟩, ⟨bl_⟩⟩
 case round =>
  clear H'
  try clear c2
  try clear p2
  try clear c3
  try clear c3b0
  try clear c3b1
  try clear p6
  try clear hcz6_0
  try clear hcz6_1
  try clear hfz6_0
  try clear hfz6_1
  obtain ⟨x5_1, x12_1, rfl, rfl, HA, HK1, BK276, HB⟩ := hrel
  cases gk with
  | zero => exact absurd HA.out (by simp [fetch_quarter_reach.l0])
  | succ k1 =>
   have H := HA.out
   clear HA
   simp only [fetch_quarter_reach.l0] at H
   by_cases c7 : x12_1 < a0_0
   ·rw [if_pos c7] at H
    have c7b0 : decide (x12_1 < a0_0) = true := decide_eq_true c7
    clear c7
    have H' := Aside0.mk H
    clear H
    have hcz8_0 := bc_ BK276 0 (.int .i64 a0_0)
    have hcz8_1 := bc_ BK276 1 (.slice A0_1 l0_1.length c0_1)
    have hfz8_0 := bz_ BK276 0
    have hfz8_1 := bz_ BK276 1
    go_wp2
    go_loopg [5, 17] k1 (fun kq v5 v17 w' => ∃ (x5_2 : Int) (x17_2 : Int), v5 = .int .i64 x5_2 ∧ v17 = .int .i64 x17_2 ∧ Aside0 (fetch_quarter_reach.l1 kq x5_2 a0_0 x12_1 l0_1 (l0_1.length : Int) x17_2 a0_0 l0_1 = some r) ∧ Aside0 (kq ≤ k1) ∧ Aside0 (w'.heap[gb276]? = some (.cells #[.int .i64 a0_0, (.slice A0_1 l0_1.length c0_1)] 48 (0, 0))) ∧ Aside0 (Below w.heap.size w w'))
    case atStart => exact ⟨(x5_1), (0), rs_, rs_, H', ⟨Nat.le_refl _⟩, ⟨bk_ BK276.out⟩, ⟨bl_⟩⟩
    case round =>
     clear H'
     try clear c2
     try clear p2
     try clear c3
     try clear c3b0
     try clear c3b1
     try clear p6
     try clear c7
     try clear c7b0
     try clear hcz6_0
     try clear hcz6_1
     try clear hcz8_0
     try clear hcz8_1
     try clear hfz6_0
     try clear hfz6_1
     try clear hfz8_0
     try clear hfz8_1
     try clear p2
     try clear p6
     obtain ⟨x5_2, x17_2, rfl, rfl, HA, HK2, BK276, HB⟩ := hrel
     cases gk with
     | zero => exact absurd HA.out (by simp [fetch_quarter_reach.l1])
     | succ k2 =>
      have H := HA.out
      clear HA
      simp only [fetch_quarter_reach.l1] at H
      by_cases c9 : x17_2 < (l0_1.length : Int)
      ·rw [if_pos c9] at H
       have c9b0 : decide (x17_2 < (l0_1.length : Int)) = true := decide_eq_true c9
       clear c9
       obtain ⟨c10b0, H⟩ := fp_ H
       obtain ⟨c11b0, H⟩ := fp_ H
       have c12 : 0 ≤ ((rd_T39 l0_1 x17_2).f0) := fl_ fun c12 => by rw [if_neg c12] at H; exact absurd H (by simp)
       rw [if_pos c12] at H
       have c12b0 := eq_true c12
       have c12b1 : decide (0 ≤ ((rd_T39 l0_1 x17_2).f0)) = true := decide_eq_true c12
       clear c12
       obtain ⟨ji13, hji13⟩ : ∃ j_ : Int, (shr .i64 x5_2 ((rd_T39 l0_1 x17_2).f0)) = j_ := ⟨_, rfl⟩
       replace H : (if (Go.bits .and .i64 (ji13) 1) = 1 then (if 0 ≤ ((rd_T39 l0_1 x17_2).f1) then (fetch_quarter_reach.l1 k2 (Go.bits .or .i64 x5_2 (shl .i64 1 ((rd_T39 l0_1 x17_2).f1))) a0_0 x12_1 l0_1 (l0_1.length : Int) (wrap64 (x17_2 + 1)) a0_0 l0_1) else (none)) else (fetch_quarter_reach.l1 k2 x5_2 a0_0 x12_1 l0_1 (l0_1.length : Int) (wrap64 (x17_2 + 1)) a0_0 l0_1)) = some r := by first | (rw [hji13] at H; exact H) | (simp only [hji13] at H ⊢; exact H)
       have hji13_ : (x5_2 / 2 ^ min ((rd_T39 l0_1 x17_2).f0).toNat 64) = ji13 := hji13
       have hji13z : ((rd_T39 l0_1 x17_2).f0) ≤ 64 → (x5_2 / 2 ^ ((rd_T39 l0_1 x17_2).f0).toNat) = ji13 := shr_small hji13
       by_cases c14 : (Go.bits .and .i64 (ji13) 1) = 1
       ·rw [if_pos c14] at H
        have c14b0 : ((Go.bits .and .i64 (ji13) 1) == 1) = true := beq_iff_eq.mpr c14
        have c14b1 : ((Go.bits .and .i64 (ji13) 1) != 1) = false := bne_eq_false_iff_eq.mpr c14
        clear c14
        have c15 : 0 ≤ ((rd_T39 l0_1 x17_2).f1) := fl_ fun c15 => by rw [if_neg c15] at H; exact absurd H (by simp)
        rw [if_pos c15] at H
        have c15b0 := eq_true c15
        have c15b1 : decide (0 ≤ ((rd_T39 l0_1 x17_2).f1)) = true := decide_eq_true c15
        clear c15
        obtain ⟨ji16, hji16⟩ : ∃ j_ : Int, (shl .i64 1 ((rd_T39 l0_1 x17_2).f1)) = j_ := ⟨_, rfl⟩
        replace H : (fetch_quarter_reach.l1 k2 (Go.bits .or .i64 x5_2 (ji16)) a0_0 x12_1 l0_1 (l0_1.length : Int) (wrap64 (x17_2 + 1)) a0_0 l0_1) = some r := by first | (rw [hji16] at H; exact H) | (simp only [hji16] at H ⊢; exact H)
        have hji16_ : (IntKind.i64.wrap (1 * 2 ^ min ((rd_T39 l0_1 x17_2).f1).toNat 64)) = ji16 := hji16
        have hji16z : ((rd_T39 l0_1 x17_2).f1) ≤ 64 → (IntKind.i64.wrap (1 * 2 ^ ((rd_T39 l0_1 x17_2).f1).toNat)) = ji16 := shl_small hji16
        have hji16u : (IntKind.i64.wrap (2 ^ min ((rd_T39 l0_1 x17_2).f1).toNat 64)) = ji16 := by have h_ := hji16_; rw [Int.one_mul] at h_; exact h_
        have hji16v : ((rd_T39 l0_1 x17_2).f1) ≤ 64 → (IntKind.i64.wrap (2 ^ ((rd_T39 l0_1 x17_2).f1).toNat)) = ji16 := fun hle_ => by have h_ := hji16z hle_; rw [Int.one_mul] at h_; exact h_
        have hji16y : (wrap64 (1 * 2 ^ min ((rd_T39 l0_1 x17_2).f1).toNat 64)) = ji16 := (i64_w _).symm.trans hji16_
        have hji16x : ((rd_T39 l0_1 x17_2).f1) ≤ 64 → (wrap64 (1 * 2 ^ ((rd_T39 l0_1 x17_2).f1).toNat)) = ji16 := fun h_ => (i64_w _).symm.trans (hji16z h_)
        have H' := Aside0.mk H
        clear H
        have p277 : 0 ≤ (x17_2 : Int) := od_
        have q277 : x17_2 < (l0_1.length : Int) := od_
        obtain ⟨ad277, e277, hx277_0, hx277_1⟩ := at_T39 HR0_1.out x17_2 p277 q277
        cases e277
        replace hx277_0 := hc_ HB hx277_0
        replace hx277_1 := hc_ HB hx277_1
        replace p277 := eq_true p277
        replace q277 := eq_true q277
        go_wp2_with (first | ((with_reducible refine gate_dst (N := 7) rfl ?_); refine be_ #[.int .i64 0, .int .i64 0] 39 ?_; intro gb278 hg w17 hbox hb; have BK278 := Aside0.mk (hbox); have GW278 := gw_ hg; have GE278 := gw_ hg; replace HB := hb_ hb; have NB276_278 := nl_ hg BK276; have NB278_276 := sy_ NB276_278; replace BK276 := bb_ BK276 hb; clear hb hbox hg; have hnb18 := NB278_276.out; have hnc18 := NB276_278.out; have hcz19_0 := bc_ BK278 0 (.int .i64 0); have hcz19_1 := bc_ BK278 1 (.int .i64 0); have hfz19_0 := bz_ BK278 0; have hfz19_1 := bz_ BK278 1))
        go_roundg k2
        case measure => have := HK1.out; have := HK2.out; omega
        case rel => exact ⟨(Go.bits .or .i64 x5_2 (ji16)), (wrap64 (x17_2 + 1)), (by first | rfl | (simp; done) | (simp only [← hji16] <;> (first | rfl | simp)) | (simp [*]; done)), rs_, H', ⟨by have := HK1.out; have := HK2.out; omega⟩, ⟨by refine bk_ ?_; refine blk_far ?_ NB276_278.out _; refine bk_ ?_; refine blk_far ?_ NB276_278.out _; refine bk_ ?_; exact BK276.out⟩, ⟨bl_⟩⟩
       ·rw [if_neg c14] at H
        have c14b0 : ((Go.bits .and .i64 (ji13) 1) == 1) = false := beq_eq_false_iff_ne.mpr c14
        have c14b1 : ((Go.bits .and .i64 (ji13) 1) != 1) = true := bne_iff_ne.mpr c14
        have H' := Aside0.mk H
        clear H
        have p277 : 0 ≤ (x17_2 : Int) := od_
        have q277 : x17_2 < (l0_1.length : Int) := od_
        obtain ⟨ad277, e277, hx277_0, hx277_1⟩ := at_T39 HR0_1.out x17_2 p277 q277
        cases e277
        replace hx277_0 := hc_ HB hx277_0
        replace hx277_1 := hc_ HB hx277_1
        replace p277 := eq_true p277
        replace q277 := eq_true q277
        go_wp2_with (first | ((with_reducible refine gate_dst (N := 7) rfl ?_); refine be_ #[.int .i64 0, .int .i64 0] 39 ?_; intro gb278 hg w20 hbox hb; have BK278 := Aside0.mk (hbox); have GW278 := gw_ hg; have GE278 := gw_ hg; replace HB := hb_ hb; have NB276_278 := nl_ hg BK276; have NB278_276 := sy_ NB276_278; replace BK276 := bb_ BK276 hb; clear hb hbox hg; have hnb21 := NB278_276.out; have hnc21 := NB276_278.out; have hcz22_0 := bc_ BK278 0 (.int .i64 0); have hcz22_1 := bc_ BK278 1 (.int .i64 0); have hfz22_0 := bz_ BK278 0; have hfz22_1 := bz_ BK278 1))
        go_roundg k2
        case measure => have := HK1.out; have := HK2.out; omega
        case rel => exact ⟨(x5_2), (wrap64 (x17_2 + 1)), rs_, rs_, H', ⟨by have := HK1.out; have := HK2.out; omega⟩, ⟨by refine bk_ ?_; refine blk_far ?_ NB276_278.out _; refine bk_ ?_; refine blk_far ?_ NB276_278.out _; refine bk_ ?_; exact BK276.out⟩, ⟨bl_⟩⟩
      ·rw [if_neg c9] at H
       have c9b0 : decide (x17_2 < (l0_1.length : Int)) = false := decide_eq_false c9
       clear c9
       have H' := Aside0.mk H
       clear H
       go_wp2
       go_roundg k2
       case measure => have := HK1.out; have := HK2.out; omega
       case rel => exact ⟨(x5_2), (wrap64 (x12_1 + 1)), rs_, rs_, H', ⟨by have := HK1.out; have := HK2.out; omega⟩, ⟨bk_ BK276.out⟩, ⟨bl_⟩⟩
   ·rw [if_neg c7] at H
    have c7b0 : decide (x12_1 < a0_0) = false := decide_eq_false c7
    clear c7
    obtain rfl := Option.some.inj H
    go_wp2
    go_ret
    exact ⟨by first | rfl | (simp [errW_none, errW_some] <;> rfl) | (simp only [← hji4]; first | rfl | (simp [errW_none, errW_some] <;> rfl)) | (simp [*, errW_none, errW_some] <;> rfl), bl_⟩

/-! ### fetch_quarter_parts: function 14 -/
mutual
def fetch_quarter_parts.l0 : Nat → List (List Int) → Int → Int → Int → Int → List (S39) → Option ((List (List Int)))
  | 0, _, _, _, _, _, _ => none
  | k + 1, x3, x4, x9, x10, x280000, x280001 => if x10 < x9 then (if 0 ≤ x10 then (if (Go.bits .and .i64 (shr .i64 x4 x10) 1) = 1 then (fetch_quarter_parts.l0 k x3 x4 x9 (wrap64 (x10 + 1)) x280000 x280001) else (fetch_quarter_parts.l1 k x3 x4 x10 0 x9 x10 x280000 0 x280000 x280001)) else (none)) else (some x3)
def fetch_quarter_parts.l1 : Nat → List (List Int) → Int → Int → Int → Int → Int → Int → Int → Int → List (S39) → Option ((List (List Int)))
  | 0, _, _, _, _, _, _, _, _, _, _ => none
  | k + 1, x3, x4, x5, x6, x9, x10, x19, x20, x280000, x280001 => if x20 < x19 then ((fetch_quarter_reach.f k x280000 x280001 x5).bind fun t286 => (if 0 ≤ x20 then (if (Go.bits .and .i64 (shr .i64 t286 x20) 1) = 1 then ((fetch_quarter_reach.f k x280000 x280001 x20).bind fun t287 => (if 0 ≤ x5 then (if (Go.bits .and .i64 (shr .i64 t287 x5) 1) = 1 then (fetch_quarter_parts.l1 k x3 x4 x5 (Go.bits .or .i64 x6 (shl .i64 1 x20)) x9 x10 x19 (wrap64 (x20 + 1)) x280000 x280001) else (fetch_quarter_parts.l1 k x3 x4 x5 x6 x9 x10 x19 (wrap64 (x20 + 1)) x280000 x280001)) else (none))) else (fetch_quarter_parts.l1 k x3 x4 x5 x6 x9 x10 x19 (wrap64 (x20 + 1)) x280000 x280001)) else (none))) else ((fetch_list.f k x6).bind fun t280 => (if x3.length < 5864062014805 then (fetch_quarter_parts.l0 k (x3 ++ [t280]) (Go.bits .or .i64 x4 x6) x9 (wrap64 (x10 + 1)) x280000 x280001) else (none)))
end
def fetch_quarter_parts.f (k : Nat) (a0_0 : Int) (l0_1 : List (S39)) : Option ((List (List Int))) := fetch_quarter_parts.l0 k ([] : List (List Int)) 0 a0_0 0 a0_0 l0_1
theorem fetch_quarter_parts.mono_l : ∀ k, (∀ y0 y1 y2 y3 y4 y5, LeO (fetch_quarter_parts.l0 k y0 y1 y2 y3 y4 y5) (fetch_quarter_parts.l0 (k + 1) y0 y1 y2 y3 y4 y5)) ∧ (∀ y0 y1 y2 y3 y4 y5 y6 y7 y8 y9, LeO (fetch_quarter_parts.l1 k y0 y1 y2 y3 y4 y5 y6 y7 y8 y9) (fetch_quarter_parts.l1 (k + 1) y0 y1 y2 y3 y4 y5 y6 y7 y8 y9))
  | 0 => ⟨fun _ _ _ _ _ _ r h => by simp [fetch_quarter_parts.l0] at h, fun _ _ _ _ _ _ _ _ _ _ r h => by simp [fetch_quarter_parts.l1] at h⟩
  | k + 1 => by
    obtain ⟨ih0, ih1⟩ := fetch_quarter_parts.mono_l k
    refine ⟨?_, ?_⟩
    · intro y0 y1 y2 y3 y4 y5
      unfold fetch_quarter_parts.l0
      with_reducible repeat' first | exact ih0 _ _ _ _ _ _ | exact ih1 _ _ _ _ _ _ _ _ _ _ | exact fetch_list.mono _ _ | exact fetch_quarter_reach.mono _ _ _ _ | exact LeO.refl _ | exact LeO.none _ | refine LeO.ite ?_ ?_ | refine LeO.bind ?_ (fun _ => ?_)
    · intro y0 y1 y2 y3 y4 y5 y6 y7 y8 y9
      unfold fetch_quarter_parts.l1
      with_reducible repeat' first | exact ih0 _ _ _ _ _ _ | exact ih1 _ _ _ _ _ _ _ _ _ _ | exact fetch_list.mono _ _ | exact fetch_quarter_reach.mono _ _ _ _ | exact LeO.refl _ | exact LeO.none _ | refine LeO.ite ?_ ?_ | refine LeO.bind ?_ (fun _ => ?_)
theorem fetch_quarter_parts.mono : ∀ a0 a1 k, LeO (fetch_quarter_parts.f k a0 a1) (fetch_quarter_parts.f (k + 1) a0 a1) := by
  intro a0 a1 k
  obtain ⟨ih0, ih1⟩ := fetch_quarter_parts.mono_l k
  unfold fetch_quarter_parts.f
  with_reducible repeat' first | exact ih0 _ _ _ _ _ _ | exact ih1 _ _ _ _ _ _ _ _ _ _ | exact fetch_list.mono _ _ | exact fetch_quarter_reach.mono _ _ _ _ | exact LeO.refl _ | exact LeO.none _ | refine LeO.ite ?_ ?_ | refine LeO.bind ?_ (fun _ => ?_)
set_option maxHeartbeats 8000000 in
set_option maxRecDepth 100000 in
theorem fetch_quarter_parts.calls (k : Nat) (a0_0 : Int) (A0_1 : Option Addr) (c0_1 : Nat) (l0_1 : List (S39)) (r : List (List Int)) (w : World) (hr0_1 : Kd.C k39 w A0_1 l0_1.length l0_1) (hc0_1 : l0_1.length ≤ c0_1) (h : fetch_quarter_parts.f k a0_0 l0_1 = some r) :
    Calls Tryd.prog 14 #[.agg #[.int .i64 a0_0, .slice A0_1 l0_1.length c0_1]] w fun e w' => ∃ v0_ : Value, e = .returned (v0_) ∧ Kd.S (Kd.slice 3 (Kd.int .i64)) 29 w' w.heap.size (fun _ => True) v0_ r ∧ Below w.heap.size w w' := by
 have hu48 := Tryd.underlying48
 have HR0_1 := Aside0.mk hr0_1
 have HC0_1 := Aside0.mk hc0_1
 clear hr0_1 hc0_1
 have HB := Aside0.mk (Below.refl w.heap.size w)
 have H : (fetch_quarter_parts.l0 k ([] : List (List Int)) 0 a0_0 0 a0_0 l0_1) = some r := h
 clear h
 have H' := Aside0.mk H
 clear H
 go_enter Tryd.func14, Tryd.ntmps14
 go_wp2_with (first | ((with_reducible refine gate_dst (N := 1) rfl ?_); refine be_ #[.int .i64 a0_0, .slice A0_1 l0_1.length c0_1] 48 ?_; intro gb279 hg w2 hbox hb; have BK279 := Aside0.mk (hbox); have GW279 := gw_ hg; have GE279 := gw_ hg; replace HB := hb_ hb; clear hb hbox hg; have hcz3_0 := bc_ BK279 0 (.int .i64 a0_0); have hcz3_1 := bc_ BK279 1 (.slice A0_1 l0_1.length c0_1); have hfz3_0 := bz_ BK279 0; have hfz3_1 := bz_ BK279 1))
 go_loopg [3, 4, 10] k (fun kq v3 v4 v10 w' => ∃ (x3_1 : List (List Int)) (x4_1 : Int) (x10_1 : Int), v4 = .int .i64 x4_1 ∧ v10 = .int .i64 x10_1 ∧ Aside0 (fetch_quarter_parts.l0 kq x3_1 x4_1 a0_0 x10_1 a0_0 l0_1 = some r) ∧ Aside0 (kq ≤ k) ∧ Aside0 (Kd.S (Kd.slice 3 (Kd.int .i64)) 29 w' w.heap.size (fun _ => True) v3 x3_1) ∧ Aside0 (w'.heap[gb279]? = some (.cells #[.int .i64 a0_0, (.slice A0_1 l0_1.length c0_1)] 48 (0, 0))) ∧ Aside0 (Below w.heap.size w w'))
 case atStart => exact ⟨(([] : List (List Int))), (0), (0), rs_, rs_, H', ⟨Nat.le_refl _⟩, ⟨by first | exact Kd.S_nil _ _ _ _ _ | exact Kd.N_nil _ _ _ _ _ | exact Kd.V_nil _ _ _ _ _ | exact Kd.Q_nil _ _ _ _ _ | exact Kd.R_nil _ _ _ _ _⟩, ⟨bk_ BK279.out⟩, ⟨bl_⟩⟩
 case round =>
  clear H'
  try clear c1
  try clear p2
  try clear hcz3_0
  try clear hcz3_1
  try clear hfz3_0
  try clear hfz3_1
  obtain ⟨x3_1, x4_1, x10_1, rfl, rfl, HA, HK1, HO_3, BK279, HB⟩ := hrel
  cases gk with
  | zero => exact absurd HA.out (by simp [fetch_quarter_parts.l0])
  | succ k1 =>
   have H := HA.out
   clear HA
   simp only [fetch_quarter_parts.l0] at H
   by_cases c4 : x10_1 < a0_0
   ·rw [if_pos c4] at H
    have c4b0 : decide (x10_1 < a0_0) = true := decide_eq_true c4
    clear c4
    have c5 : 0 ≤ x10_1 := fl_ fun c5 => by rw [if_neg c5] at H; exact absurd H (by simp)
    rw [if_pos c5] at H
    have c5b0 := eq_true c5
    have c5b1 : decide (0 ≤ x10_1) = true := decide_eq_true c5
    clear c5
    obtain ⟨ji6, hji6⟩ : ∃ j_ : Int, (shr .i64 x4_1 x10_1) = j_ := ⟨_, rfl⟩
    replace H : (if (Go.bits .and .i64 (ji6) 1) = 1 then (fetch_quarter_parts.l0 k1 x3_1 x4_1 a0_0 (wrap64 (x10_1 + 1)) a0_0 l0_1) else (fetch_quarter_parts.l1 k1 x3_1 x4_1 x10_1 0 a0_0 x10_1 a0_0 0 a0_0 l0_1)) = some r := by first | (rw [hji6] at H; exact H) | (simp only [hji6] at H ⊢; exact H)
    have hji6_ : (x4_1 / 2 ^ min x10_1.toNat 64) = ji6 := hji6
    have hji6z : x10_1 ≤ 64 → (x4_1 / 2 ^ x10_1.toNat) = ji6 := shr_small hji6
    by_cases c7 : (Go.bits .and .i64 (ji6) 1) = 1
    ·rw [if_pos c7] at H
     have c7b0 : ((Go.bits .and .i64 (ji6) 1) == 1) = true := beq_iff_eq.mpr c7
     have c7b1 : ((Go.bits .and .i64 (ji6) 1) != 1) = false := bne_eq_false_iff_eq.mpr c7
     clear c7
     have H' := Aside0.mk H
     clear H
     go_wp2
     go_roundg k1
     case measure => have := HK1.out; omega
     case rel => exact ⟨(x3_1), (x4_1), (wrap64 (x10_1 + 1)), rs_, rs_, H', ⟨by have := HK1.out; omega⟩, ⟨ks_ HO_3.out⟩, ⟨bk_ BK279.out⟩, ⟨bl_⟩⟩
    ·rw [if_neg c7] at H
     have c7b0 : ((Go.bits .and .i64 (ji6) 1) == 1) = false := beq_eq_false_iff_ne.mpr c7
     have c7b1 : ((Go.bits .and .i64 (ji6) 1) != 1) = true := bne_iff_ne.mpr c7
     have H' := Aside0.mk H
     clear H
     have hcz8_0 := bc_ BK279 0 (.int .i64 a0_0)
     have hcz8_1 := bc_ BK279 1 (.slice A0_1 l0_1.length c0_1)
     have hfz8_0 := bz_ BK279 0
     have hfz8_1 := bz_ BK279 1
     go_wp2
     go_loopg [6, 20] k1 (fun kq v6 v20 w' => ∃ (x6_2 : Int) (x20_2 : Int), v6 = .int .i64 x6_2 ∧ v20 = .int .i64 x20_2 ∧ Aside0 (fetch_quarter_parts.l1 kq x3_1 x4_1 x10_1 x6_2 a0_0 x10_1 a0_0 x20_2 a0_0 l0_1 = some r) ∧ Aside0 (kq ≤ k1) ∧ Aside0 (Kd.S (Kd.slice 3 (Kd.int .i64)) 29 w' w.heap.size (fun _ => True) u3 x3_1) ∧ Aside0 (w'.heap[gb279]? = some (.cells #[.int .i64 a0_0, (.slice A0_1 l0_1.length c0_1)] 48 (0, 0))) ∧ Aside0 (Below w.heap.size w w'))
     case atStart => exact ⟨(0), (0), rs_, rs_, H', ⟨Nat.le_refl _⟩, ⟨ks_ HO_3.out⟩, ⟨bk_ BK279.out⟩, ⟨bl_⟩⟩
     case round =>
      clear H'
      try clear c1
      try clear p2
      try clear c4
      try clear c4b0
      try clear c5
      try clear c5b0
      try clear c5b1
      try clear p6
      try clear c7
      try clear c7b0
      try clear c7b1
      try clear hcz3_0
      try clear hcz3_1
      try clear hcz8_0
      try clear hcz8_1
      try clear hfz3_0
      try clear hfz3_1
      try clear hfz8_0
      try clear hfz8_1
      try clear p2
      obtain ⟨x6_2, x20_2, rfl, rfl, HA, HK2, HO_3, BK279, HB⟩ := hrel
      cases gk with
      | zero => exact absurd HA.out (by simp [fetch_quarter_parts.l1])
      | succ k2 =>
       have H := HA.out
       clear HA
       simp only [fetch_quarter_parts.l1] at H
       by_cases c9 : x20_2 < a0_0
       ·rw [if_pos c9] at H
        have c9b0 : decide (x20_2 < a0_0) = true := decide_eq_true c9
        clear c9
        obtain ⟨t286, A10, H⟩ := bi_ H
        replace H : (if 0 ≤ x20_2 then (if (Go.bits .and .i64 (shr .i64 t286 x20_2) 1) = 1 then ((fetch_quarter_reach.f k2 a0_0 l0_1 x20_2).bind fun t287 => (if 0 ≤ x10_1 then (if (Go.bits .and .i64 (shr .i64 t287 x10_1) 1) = 1 then (fetch_quarter_parts.l1 k2 x3_1 x4_1 x10_1 (Go.bits .or .i64 x6_2 (shl .i64 1 x20_2)) a0_0 x10_1 a0_0 (wrap64 (x20_2 + 1)) a0_0 l0_1) else (fetch_quarter_parts.l1 k2 x3_1 x4_1 x10_1 x6_2 a0_0 x10_1 a0_0 (wrap64 (x20_2 + 1)) a0_0 l0_1)) else (none))) else (fetch_quarter_parts.l1 k2 x3_1 x4_1 x10_1 x6_2 a0_0 x10_1 a0_0 (wrap64 (x20_2 + 1)) a0_0 l0_1)) else (none)) = some r := H
        have c11 : 0 ≤ x20_2 := fl_ fun c11 => by rw [if_neg c11] at H; exact absurd H (by simp)
        rw [if_pos c11] at H
        have c11b0 := eq_true c11
        have c11b1 : decide (0 ≤ x20_2) = true := decide_eq_true c11
        clear c11
        obtain ⟨ji12, hji12⟩ : ∃ j_ : Int, (shr .i64 t286 x20_2) = j_ := ⟨_, rfl⟩
        replace H : (if (Go.bits .and .i64 (ji12) 1) = 1 then ((fetch_quarter_reach.f k2 a0_0 l0_1 x20_2).bind fun t287 => (if 0 ≤ x10_1 then (if (Go.bits .and .i64 (shr .i64 t287 x10_1) 1) = 1 then (fetch_quarter_parts.l1 k2 x3_1 x4_1 x10_1 (Go.bits .or .i64 x6_2 (shl .i64 1 x20_2)) a0_0 x10_1 a0_0 (wrap64 (x20_2 + 1)) a0_0 l0_1) else (fetch_quarter_parts.l1 k2 x3_1 x4_1 x10_1 x6_2 a0_0 x10_1 a0_0 (wrap64 (x20_2 + 1)) a0_0 l0_1)) else (none))) else (fetch_quarter_parts.l1 k2 x3_1 x4_1 x10_1 x6_2 a0_0 x10_1 a0_0 (wrap64 (x20_2 + 1)) a0_0 l0_1)) = some r := by first | (rw [hji12] at H; exact H) | (simp only [hji12] at H ⊢; exact H)
        (try rw [hji12] at A10)
        have hji12_ : (t286 / 2 ^ min x20_2.toNat 64) = ji12 := hji12
        have hji12z : x20_2 ≤ 64 → (t286 / 2 ^ x20_2.toNat) = ji12 := shr_small hji12
        by_cases c13 : (Go.bits .and .i64 (ji12) 1) = 1
        ·rw [if_pos c13] at H
         have c13b0 : ((Go.bits .and .i64 (ji12) 1) == 1) = true := beq_iff_eq.mpr c13
         have c13b1 : ((Go.bits .and .i64 (ji12) 1) != 1) = false := bne_eq_false_iff_eq.mpr c13
         clear c13
         obtain ⟨t287, A14, H⟩ := bi_ H
         replace H : (if 0 ≤ x10_1 then (if (Go.bits .and .i64 (shr .i64 t287 x10_1) 1) = 1 then (fetch_quarter_parts.l1 k2 x3_1 x4_1 x10_1 (Go.bits .or .i64 x6_2 (shl .i64 1 x20_2)) a0_0 x10_1 a0_0 (wrap64 (x20_2 + 1)) a0_0 l0_1) else (fetch_quarter_parts.l1 k2 x3_1 x4_1 x10_1 x6_2 a0_0 x10_1 a0_0 (wrap64 (x20_2 + 1)) a0_0 l0_1)) else (none)) = some r := H
         have c15 : 0 ≤ x10_1 := fl_ fun c15 => by rw [if_neg c15] at H; exact absurd H (by simp)
         rw [if_pos c15] at H
         have c15b0 := eq_true c15
         have c15b1 : decide (0 ≤ x10_1) = true := decide_eq_true c15
         clear c15
         obtain ⟨ji16, hji16⟩ : ∃ j_ : Int, (shr .i64 t287 x10_1) = j_ := ⟨_, rfl⟩
         replace H : (if (Go.bits .and .i64 (ji16) 1) = 1 then (fetch_quarter_parts.l1 k2 x3_1 x4_1 x10_1 (Go.bits .or .i64 x6_2 (shl .i64 1 x20_2)) a0_0 x10_1 a0_0 (wrap64 (x20_2 + 1)) a0_0 l0_1) else (fetch_quarter_parts.l1 k2 x3_1 x4_1 x10_1 x6_2 a0_0 x10_1 a0_0 (wrap64 (x20_2 + 1)) a0_0 l0_1)) = some r := by first | (rw [hji16] at H; exact H) | (simp only [hji16] at H ⊢; exact H)
         (try rw [hji16] at A10)
         (try rw [hji16] at A14)
         have hji16_ : (t287 / 2 ^ min x10_1.toNat 64) = ji16 := hji16
         have hji16z : x10_1 ≤ 64 → (t287 / 2 ^ x10_1.toNat) = ji16 := shr_small hji16
         by_cases c17 : (Go.bits .and .i64 (ji16) 1) = 1
         ·rw [if_pos c17] at H
          have c17b0 : ((Go.bits .and .i64 (ji16) 1) == 1) = true := beq_iff_eq.mpr c17
          have c17b1 : ((Go.bits .and .i64 (ji16) 1) != 1) = false := bne_eq_false_iff_eq.mpr c17
          clear c17
          have c18b0 := eq_true (od_ : 0 ≤ x20_2)
          obtain ⟨ji19, hji19⟩ : ∃ j_ : Int, (shl .i64 1 x20_2) = j_ := ⟨_, rfl⟩
          replace H : (fetch_quarter_parts.l1 k2 x3_1 x4_1 x10_1 (Go.bits .or .i64 x6_2 (ji19)) a0_0 x10_1 a0_0 (wrap64 (x20_2 + 1)) a0_0 l0_1) = some r := by first | (rw [hji19] at H; exact H) | (simp only [hji19] at H ⊢; exact H)
          (try rw [hji19] at A10)
          (try rw [hji19] at A14)
          have hji19_ : (IntKind.i64.wrap (1 * 2 ^ min x20_2.toNat 64)) = ji19 := hji19
          have hji19z : x20_2 ≤ 64 → (IntKind.i64.wrap (1 * 2 ^ x20_2.toNat)) = ji19 := shl_small hji19
          have hji19u : (IntKind.i64.wrap (2 ^ min x20_2.toNat 64)) = ji19 := by have h_ := hji19_; rw [Int.one_mul] at h_; exact h_
          have hji19v : x20_2 ≤ 64 → (IntKind.i64.wrap (2 ^ x20_2.toNat)) = ji19 := fun hle_ => by have h_ := hji19z hle_; rw [Int.one_mul] at h_; exact h_
          have hji19y : (wrap64 (1 * 2 ^ min x20_2.toNat 64)) = ji19 := (i64_w _).symm.trans hji19_
          have hji19x : x20_2 ≤ 64 → (wrap64 (1 * 2 ^ x20_2.toNat)) = ji19 := fun h_ => (i64_w _).symm.trans (hji19z h_)
          have H' := Aside0.mk H
          clear H
          have hcz20_0 := bc_ BK279 0 (.int .i64 a0_0)
          have hcz20_1 := bc_ BK279 1 (.slice A0_1 l0_1.length c0_1)
          have hfz20_0 := bz_ BK279 0
          have hfz20_1 := bz_ BK279 1
          go_wp2_with (first | ((with_reducible refine gate_callee (f := 24) rfl ?_); refine goesL_ (some 25) rfl rfl Tryd.func24 (by kernel_rfl) rfl #[.agg #[.int .i64 a0_0, .slice A0_1 l0_1.length c0_1], .int .i64 x10_1] rfl (as_) ?_; (with_reducible refine (fetch_quarter_reach.calls k2 a0_0 _ _ l0_1 x10_1 t286 _ ?side1 ?side2 A10.out).mono ?_); (case side1 => exact cb_ HR0_1.out); (case side2 => exact HC0_1.out); rintro e w21 ⟨rfl, hb⟩; refine ⟨_, rfl, ?_⟩; replace HO_3 := Aside0.mk (Kd.S_below (ks_ HO_3.out) hb); replace BK279 := bb_ BK279 hb; replace HB := hb_ hb; clear hb; have hcz22_0 := bc_ BK279 0 (.int .i64 a0_0); have hcz22_1 := bc_ BK279 1 (.slice A0_1 l0_1.length c0_1); have hfz22_0 := bz_ BK279 0; have hfz22_1 := bz_ BK279 1) | (go_at_call 24; (with_reducible refine (fetch_quarter_reach.calls k2 a0_0 _ _ l0_1 x20_2 t287 _ ?side1 ?side2 A14.out).mono ?_); (case side1 => exact cb_ HR0_1.out); (case side2 => exact HC0_1.out); rintro e w23 ⟨rfl, hb⟩; replace HO_3 := Aside0.mk (Kd.S_below (ks_ HO_3.out) hb); replace BK279 := bb_ BK279 hb; replace HB := hb_ hb; clear hb))
          go_roundg k2
          case measure => have := HK1.out; have := HK2.out; omega
          case rel => exact ⟨(Go.bits .or .i64 x6_2 (ji19)), (wrap64 (x20_2 + 1)), (by first | rfl | (simp; done) | (simp only [← hji19] <;> (first | rfl | simp)) | (simp [*]; done)), rs_, H', ⟨by have := HK1.out; have := HK2.out; omega⟩, ⟨ks_ HO_3.out⟩, ⟨bk_ BK279.out⟩, ⟨bl_⟩⟩
         ·rw [if_neg c17] at H
          have c17b0 : ((Go.bits .and .i64 (ji16) 1) == 1) = false := beq_eq_false_iff_ne.mpr c17
          have c17b1 : ((Go.bits .and .i64 (ji16) 1) != 1) = true := bne_iff_ne.mpr c17
          have H' := Aside0.mk H
          clear H
          have hcz24_0 := bc_ BK279 0 (.int .i64 a0_0)
          have hcz24_1 := bc_ BK279 1 (.slice A0_1 l0_1.length c0_1)
          have hfz24_0 := bz_ BK279 0
          have hfz24_1 := bz_ BK279 1
          go_wp2_with (first | ((with_reducible refine gate_callee (f := 24) rfl ?_); refine goesL_ (some 25) rfl rfl Tryd.func24 (by kernel_rfl) rfl #[.agg #[.int .i64 a0_0, .slice A0_1 l0_1.length c0_1], .int .i64 x10_1] rfl (as_) ?_; (with_reducible refine (fetch_quarter_reach.calls k2 a0_0 _ _ l0_1 x10_1 t286 _ ?side1 ?side2 A10.out).mono ?_); (case side1 => exact cb_ HR0_1.out); (case side2 => exact HC0_1.out); rintro e w25 ⟨rfl, hb⟩; refine ⟨_, rfl, ?_⟩; replace HO_3 := Aside0.mk (Kd.S_below (ks_ HO_3.out) hb); replace BK279 := bb_ BK279 hb; replace HB := hb_ hb; clear hb; have hcz26_0 := bc_ BK279 0 (.int .i64 a0_0); have hcz26_1 := bc_ BK279 1 (.slice A0_1 l0_1.length c0_1); have hfz26_0 := bz_ BK279 0; have hfz26_1 := bz_ BK279 1) | (go_at_call 24; (with_reducible refine (fetch_quarter_reach.calls k2 a0_0 _ _ l0_1 x20_2 t287 _ ?side1 ?side2 A14.out).mono ?_); (case side1 => exact cb_ HR0_1.out); (case side2 => exact HC0_1.out); rintro e w27 ⟨rfl, hb⟩; replace HO_3 := Aside0.mk (Kd.S_below (ks_ HO_3.out) hb); replace BK279 := bb_ BK279 hb; replace HB := hb_ hb; clear hb))
          go_roundg k2
          case measure => have := HK1.out; have := HK2.out; omega
          case rel => exact ⟨(x6_2), (wrap64 (x20_2 + 1)), rs_, rs_, H', ⟨by have := HK1.out; have := HK2.out; omega⟩, ⟨ks_ HO_3.out⟩, ⟨bk_ BK279.out⟩, ⟨bl_⟩⟩
        ·rw [if_neg c13] at H
         have c13b0 : ((Go.bits .and .i64 (ji12) 1) == 1) = false := beq_eq_false_iff_ne.mpr c13
         have c13b1 : ((Go.bits .and .i64 (ji12) 1) != 1) = true := bne_iff_ne.mpr c13
         have H' := Aside0.mk H
         clear H
         have hcz28_0 := bc_ BK279 0 (.int .i64 a0_0)
         have hcz28_1 := bc_ BK279 1 (.slice A0_1 l0_1.length c0_1)
         have hfz28_0 := bz_ BK279 0
         have hfz28_1 := bz_ BK279 1
         go_wp2_with (first | ((with_reducible refine gate_callee (f := 24) rfl ?_); refine goesL_ (some 25) rfl rfl Tryd.func24 (by kernel_rfl) rfl #[.agg #[.int .i64 a0_0, .slice A0_1 l0_1.length c0_1], .int .i64 x10_1] rfl (as_) ?_; (with_reducible refine (fetch_quarter_reach.calls k2 a0_0 _ _ l0_1 x10_1 t286 _ ?side1 ?side2 A10.out).mono ?_); (case side1 => exact cb_ HR0_1.out); (case side2 => exact HC0_1.out); rintro e w29 ⟨rfl, hb⟩; refine ⟨_, rfl, ?_⟩; replace HO_3 := Aside0.mk (Kd.S_below (ks_ HO_3.out) hb); replace BK279 := bb_ BK279 hb; replace HB := hb_ hb; clear hb))
         go_roundg k2
         case measure => have := HK1.out; have := HK2.out; omega
         case rel => exact ⟨(x6_2), (wrap64 (x20_2 + 1)), rs_, rs_, H', ⟨by have := HK1.out; have := HK2.out; omega⟩, ⟨ks_ HO_3.out⟩, ⟨bk_ BK279.out⟩, ⟨bl_⟩⟩
       ·rw [if_neg c9] at H
        have c9b0 : decide (x20_2 < a0_0) = false := decide_eq_false c9
        clear c9
        obtain ⟨t280, A30, H⟩ := bi_ H
        replace H : (if x3_1.length < 5864062014805 then (fetch_quarter_parts.l0 k2 (x3_1 ++ [t280]) (Go.bits .or .i64 x4_1 x6_2) a0_0 (wrap64 (x10_1 + 1)) a0_0 l0_1) else (none)) = some r := H
        have c31 : x3_1.length < 5864062014805 := fl_ fun c31 => by rw [if_neg c31] at H; exact absurd H (by simp)
        rw [if_pos c31] at H
        have LMc31 := Aside0.mk c31
        clear c31
        obtain ⟨y283, hy283⟩ : ∃ y_ : List (List Int), y_ = (x3_1 ++ [t280]) := ⟨_, rfl⟩
        replace H : (fetch_quarter_parts.l0 k2 y283 (Go.bits .or .i64 x4_1 x6_2) a0_0 (wrap64 (x10_1 + 1)) a0_0 l0_1) = some r := by first | (rw [hy283]; with_reducible exact H) | (have H2_ := (Option.bind_some _ _).symm.trans H; rw [hy283]; with_reducible exact H2_) | (have H2_ := (Option.bind_some _ _).symm.trans H; with_reducible exact H2_) | with_reducible exact H | (rw [hy283]; exact H) | exact H
        have Ny283 := Aside0.mk hy283
        clear hy283
        have H' := Aside0.mk H
        clear H
        go_wp2_with (first | ((with_reducible refine gate_callee (f := 25) rfl ?_); refine goesL_ (some 49) rfl rfl Tryd.func25 (by kernel_rfl) rfl #[.int .i64 x6_2] rfl (as_) ?_; (with_reducible refine (fetch_list.calls k2 x6_2 t280 _ A30.out).mono ?_); rintro e w32 ⟨v281, rfl, ho0, hb⟩; refine ⟨_, rfl, ?_⟩; replace HO_3 := Aside0.mk (Kd.S_elder' (ks_ HO_3.out) (Kd.R_base ho0) hb); have HO282 := rl_ ho0; replace BK279 := bb_ BK279 hb; replace HB := hb_ hb; clear hb ho0; obtain ⟨Ao34, co34, eo34⟩ := Kd.R_slice HO282.out; subst eo34) | ((with_reducible refine gate_builtin (b := .append) (xs := #[.tmp 47, .tmp 50]) rfl ?_); at_builtin; refine Kd.S_append (Kd.slice 3 (Kd.int .i64)) (w0 := w) w.heap.size rfl (.tmp 47) (.tmp 50) 51 29 (.slice none 0 0) 24 rfl Tryd.underlying51 info29 rfl (by decide) (by omega) u3 x3_1 t280 [.slice Ao34 t280.length co34] (fun _ => True) (fun k_ => some k_ = (.slice Ao34 t280.length co34 : Value).ownBlock) rfl rfl ?aP (fun k_ hk_ => ((Kd.R_mono (ok' := fun k_ => ((fun _ => True)) k_ ∧ some k_ ≠ (u3 : Value).ownBlock) (Kd.R_apart' (HO282.out) (Kd.S_typed HO_3.out) (by decide)) (fun k_ hk => ⟨trivial, hk.2⟩))).1 k_ hk_.symm) ?aF ?aO ?aB ?aS ?aL ?_; (case aP => exact Kd.M_row (Kd.R_mono (Kd.R_tight rfl (Kd.R_mono (ok' := fun k_ => ((fun _ => True)) k_ ∧ some k_ ≠ (u3 : Value).ownBlock) (Kd.R_apart' (HO282.out) (Kd.S_typed HO_3.out) (by decide)) (fun k_ hk => ⟨trivial, hk.2⟩))) (fun _ h_ => h_))); (case aB => exact (bl_)); (case aF => exact (fun _ _ => trivial)); (case aO => exact (by refine ks_ ?_; exact Kd.S_mono HO_3.out (fun k_ hk => ⟨trivial, fun e_ => hk.2 e_⟩))); (case aS => exact (below_size (bl_))); (case aL => have := LMc31.out; omega); intro v284 w33 ho hb hg hat; rw [← Ny283.out] at ho; replace BK279 := Aside0.mk (blk_grown (g := gb279) (o := .cells #[.int .i64 a0_0, .slice A0_1 l0_1.length c0_1] 48 (0, 0)) (bk_ BK279.out) hg (Kd.S_ne HO_3.out BK279.out (by decide))); replace HB := Aside0.mk (hb); have HO285 := Aside0.mk (ho); clear HO_3 HO282; clear ho hb hg hat))
        go_roundg k2
        case measure => have := HK1.out; have := HK2.out; omega
        case rel => exact ⟨(y283), (Go.bits .or .i64 x4_1 x6_2), (wrap64 (x10_1 + 1)), rs_, rs_, H', ⟨by have := HK1.out; have := HK2.out; omega⟩, ⟨ks_ HO285.out⟩, ⟨bk_ BK279.out⟩, ⟨bl_⟩⟩
   ·rw [if_neg c4] at H
    have c4b0 : decide (x10_1 < a0_0) = false := decide_eq_false c4
    clear c4
    obtain rfl := Option.some.inj H
    go_wp2
    go_ret
    exact ⟨_, er_, by refine ks_ ?_; exact HO_3.out, bl_⟩

/-! ### fetch_Strong: function 6 -/
def fetch_Strong.f (k : Nat) (a0 : Int) (l1 : List (S39)) : Option (Bool × Int) := (fetch_read.f k a0 l1).bind fun bt288 => (if bt288.2.2 = 0 then ((fetch_quarter_parts.f k bt288.1 bt288.2.1).bind fun t294 => (some (((t294.length : Int) == 1), 0))) else (some (false, bt288.2.2)))
theorem fetch_Strong.mono : ∀ a0 a1 k, LeO (fetch_Strong.f k a0 a1) (fetch_Strong.f (k + 1) a0 a1) := by
  intro a0 a1 k
  unfold fetch_Strong.f
  with_reducible repeat' first | exact fetch_quarter_parts.mono _ _ _ | exact fetch_read.mono _ _ _ | exact LeO.refl _ | exact LeO.none _ | refine LeO.ite ?_ ?_ | refine LeO.bind ?_ (fun _ => ?_)
set_option maxHeartbeats 8000000 in
set_option maxRecDepth 100000 in
theorem fetch_Strong.calls (k : Nat) (a0 : Int) (A1 : Option Addr) (c1 : Nat) (l1 : List (S39)) (r1 : Bool) (r2 : Int) (w : World) (hr1 : Kd.C k39 w A1 l1.length l1) (hc1 : l1.length ≤ c1) (h : fetch_Strong.f k a0 l1 = some (r1, r2)) :
    Calls Tryd.prog 6 #[.int .i64 a0, .slice A1 l1.length c1] w fun e w' => e = .returned (.tuple #[.bool r1, .int .i64 r2]) ∧ Below w.heap.size w w' := by
 have hu48 := Tryd.underlying48
 have HR1 := Aside0.mk hr1
 have HC1 := Aside0.mk hc1
 clear hr1 hc1
 have HB := Aside0.mk (Below.refl w.heap.size w)
 have H : ((fetch_read.f k a0 l1).bind fun bt288 => (if bt288.2.2 = 0 then ((fetch_quarter_parts.f k bt288.1 bt288.2.1).bind fun t294 => (some (((t294.length : Int) == 1), 0))) else (some (false, bt288.2.2)))) = some (r1, r2) := h
 clear h
 obtain ⟨⟨t288, t289, t292⟩, A3, H⟩ := bi_ H
 replace H : (if t292 = 0 then ((fetch_quarter_parts.f k t288 t289).bind fun t294 => (some (((t294.length : Int) == 1), 0))) else (some (false, t292))) = some (r1, r2) := H
 by_cases c4 : t292 = 0
 ·rw [if_pos c4] at H
  have c4b0 : (t292 == 0) = true := beq_iff_eq.mpr c4
  have c4b1 : (t292 != 0) = false := bne_eq_false_iff_eq.mpr c4
  clear c4
  obtain ⟨t294, A5, H⟩ := bi_ H
  replace H : (some (((t294.length : Int) == 1), 0)) = some (r1, r2) := H
  simp only [Option.some.injEq, Prod.mk.injEq] at H
  obtain ⟨rfl, rfl⟩ := H
  go_enter Tryd.func6, Tryd.ntmps6
  go_wp2_with (first | ((with_reducible refine gate_callee (f := 13) rfl ?_); refine goesL_ (some 11) rfl rfl Tryd.func13 (by kernel_rfl) rfl #[.int .i64 a0, .slice A1 l1.length c1] rfl (as_) ?_; (with_reducible refine (fetch_read.calls k a0 (fun k_ => k_ < w.heap.size) _ _ l1 t288 t289 t292 _ ?side1 A3.out).mono ?_); (case side1 => exact Kd.V_mk HC1.out (Kd.F_below (Kd.C_F k39_heap HR1.out) (bl_))); rintro e w6 ⟨v290, rfl, ho0, hb⟩; refine ⟨_, rfl, ?_⟩; have HO291 := Aside0.mk (Kd.V_lower (Kd.V_mono (ok' := fun k_ => True) ho0 (fun k_ hk_ => trivial)) (below_size (bl_))); replace HB := hb_ hb; clear hb ho0) | ((with_reducible refine gate_dst (N := 6) rfl ?_); refine be_ #[.int .i64 0, .slice none 0 0] 48 ?_; intro gb293 hg w7 hbox hb; replace HO291 := ve_ HO291 hg hb; have BK293 := Aside0.mk (hbox); have GW293 := gw_ hg; have GE293 := gw_ hg; replace HB := hb_ hb; clear hb hbox hg; have hcz8_0 := bc_ BK293 0 (.int .i64 0); have hcz8_1 := bc_ BK293 1 (.slice none 0 0); have hfz8_0 := bz_ BK293 0; have hfz8_1 := bz_ BK293 1; obtain ⟨Ao9, co9, eo9⟩ := Kd.V_slice HO291.out; subst eo9) | ((with_reducible refine gate_callee (f := 14) rfl ?_); refine goesL_ (some 18) rfl rfl Tryd.func14 (by kernel_rfl) rfl #[.agg #[.int .i64 t288, .slice Ao9 t289.length co9]] rfl (as_) ?_; (with_reducible refine (fetch_quarter_parts.calls k t288 _ _ t289 t294 _ ?side1 ?side2 A5.out).mono ?_); (case side1 => refine (Kd.V_reads' (e := 39) (base := w.heap.size) (ok := fun k_ => (True ∧ k_ ≠ gb293)) (n := t289.length) (c := co9) ?_).2.2; exact (by refine kv_ ?_; exact (Kd.V_mono (Kd.V_far (p := ⟨gb293, 1, none⟩) (Kd.V_far (p := ⟨gb293, 0, none⟩) (Kd.V_mono HO291.out (fun k_ hk => (⟨hk, hk.2⟩ : _ ∧ k_ ≠ gb293))) (fun _ hk => hk.2) (.int .i64 t288)) (fun _ hk => hk.2) (.slice Ao9 t289.length co9)) (fun _ h_ => h_.1)))); (case side2 => exact (Kd.V_reads' HO291.out).2.1); rintro e w10 ⟨v295, rfl, ho0, hb⟩; refine ⟨_, rfl, ?_⟩; replace HO291 := Aside0.mk (Kd.V_elder' (by refine kv_ ?_; exact (Kd.V_mono (Kd.V_far (p := ⟨gb293, 1, none⟩) (Kd.V_far (p := ⟨gb293, 0, none⟩) (Kd.V_mono HO291.out (fun k_ hk => (⟨hk, hk.2⟩ : _ ∧ k_ ≠ gb293))) (fun _ hk => hk.2) (.int .i64 t288)) (fun _ hk => hk.2) (.slice Ao9 t289.length co9)) (fun _ h_ => h_.1))) (Kd.S_base ho0) hb); have HO296 := Aside0.mk (Kd.S_lower ho0 (below_size (bl_))); replace BK293 := Aside0.mk (blk_below (g := gb293) (o := .cells #[.int .i64 t288, .slice Ao9 t289.length co9] 48 (0, 0)) (by refine bk_ ?_; refine blk_put (cs := #[.int .i64 t288, .slice none 0 0]) ?_ 1 _ rfl; refine bk_ ?_; refine blk_put (cs := #[.int .i64 0, .slice none 0 0]) ?_ 0 _ rfl; refine bk_ ?_; exact BK293.out) hb); replace HB := hb_ hb; clear hb ho0; obtain ⟨Ao11, co11, eo11⟩ := Kd.S_slice HO296.out; subst eo11))
  go_ret2
  exact ⟨er_, bl_⟩
 ·rw [if_neg c4] at H
  have c4b0 : (t292 == 0) = false := beq_eq_false_iff_ne.mpr c4
  have c4b1 : (t292 != 0) = true := bne_iff_ne.mpr c4
  simp only [Option.some.injEq, Prod.mk.injEq] at H
  obtain ⟨rfl, rfl⟩ := H
  go_enter Tryd.func6, Tryd.ntmps6
  go_wp2_with (first | ((with_reducible refine gate_callee (f := 13) rfl ?_); refine goesL_ (some 11) rfl rfl Tryd.func13 (by kernel_rfl) rfl #[.int .i64 a0, .slice A1 l1.length c1] rfl (as_) ?_; (with_reducible refine (fetch_read.calls k a0 (fun k_ => k_ < w.heap.size) _ _ l1 t288 t289 t292 _ ?side1 A3.out).mono ?_); (case side1 => exact Kd.V_mk HC1.out (Kd.F_below (Kd.C_F k39_heap HR1.out) (bl_))); rintro e w12 ⟨v290, rfl, ho0, hb⟩; refine ⟨_, rfl, ?_⟩; have HO291 := Aside0.mk (Kd.V_lower (Kd.V_mono (ok' := fun k_ => True) ho0 (fun k_ hk_ => trivial)) (below_size (bl_))); replace HB := hb_ hb; clear hb ho0) | ((with_reducible refine gate_dst (N := 6) rfl ?_); refine be_ #[.int .i64 0, .slice none 0 0] 48 ?_; intro gb293 hg w13 hbox hb; replace HO291 := ve_ HO291 hg hb; have BK293 := Aside0.mk (hbox); have GW293 := gw_ hg; have GE293 := gw_ hg; replace HB := hb_ hb; clear hb hbox hg; have hcz14_0 := bc_ BK293 0 (.int .i64 0); have hcz14_1 := bc_ BK293 1 (.slice none 0 0); have hfz14_0 := bz_ BK293 0; have hfz14_1 := bz_ BK293 1; obtain ⟨Ao15, co15, eo15⟩ := Kd.V_slice HO291.out; subst eo15))
  go_ret2
  exact ⟨er_, bl_⟩

end Go.Proofs.YtlcgoacmlbeliaaDoor.P
