-- Written by wip/tools/myprint.py of this session's repo, over the kit's printer and hand texts.
import Derived.Test.YtlcgoacmlbeliaaDoorPx0
import Derived.Test.YtlcgoacmlbeliaaDoorPre
import Derived.Test.YtlcgoacmlbeliaaDoorMap
import Derived.Test.YtlcgoacmlbeliaaDoorPx1
namespace Go.Proofs.YtlcgoacmlbeliaaDoor.P
open Go.RowKit Go.Proofs.YtlcgoacmlbeliaaDoorW.PrintWords Go.Proofs.YtlcgoacmlbeliaaDoorW.PrintLast Go.Proofs.YtlcgoacmlbeliaaDoorW.PrintMore
attribute [local go_sem] max2_int min2_int max_two min_two max_three min_three max_four min_four   -- for this text's walks alone
set_option linter.unusedVariables false
set_option linter.unusedSimpArgs false

/-! ### fetch_quarter_kind: function 35 -/
mutual
def fetch_quarter_kind.j0 : Nat → Int → Bool → Int → List (S39) → Option (Int)
  | 0, _, _, _, _ => none
  | k + 1, x1, x14, x110000, x110001 => if x14 = true then (some 2) else (fetch_quarter_kind.l0 k x1 x110001 (x110001.length : Int) 0)
def fetch_quarter_kind.l0 : Nat → Int → List (S39) → Int → Int → Option (Int)
  | 0, _, _, _, _ => none
  | k + 1, x1, x16, x17, x18 => if x18 < x17 then (if 0 ≤ x18 then (if x18 < (x16.length : Int) then (if 0 ≤ ((rd_T39 x16 x18).f0) then (if (Go.bits .and .i64 (shr .i64 x1 ((rd_T39 x16 x18).f0)) 1) = 0 then (if 0 ≤ ((rd_T39 x16 x18).f1) then (if (Go.bits .and .i64 (shr .i64 x1 ((rd_T39 x16 x18).f1)) 1) = 1 then (some 0) else (fetch_quarter_kind.l0 k x1 x16 x17 (wrap64 (x18 + 1)))) else (none)) else (fetch_quarter_kind.l0 k x1 x16 x17 (wrap64 (x18 + 1)))) else (none)) else (none)) else (none)) else (some 1)
end
def fetch_quarter_kind.f (k : Nat) (a0_0 : Int) (l0_1 : List (S39)) (a1 : Int) : Option (Int) := if a1 ≤ 0 then (fetch_quarter_kind.j0 k a1 true a0_0 l0_1) else ((fetch_quarter_everybody.f a0_0 l0_1).bind fun t110 => (fetch_quarter_kind.j0 k a1 (decide (a1 ≥ t110)) a0_0 l0_1))
theorem fetch_quarter_kind.mono_l : ∀ k, (∀ y0 y1 y2 y3, LeO (fetch_quarter_kind.j0 k y0 y1 y2 y3) (fetch_quarter_kind.j0 (k + 1) y0 y1 y2 y3)) ∧ (∀ y0 y1 y2 y3, LeO (fetch_quarter_kind.l0 k y0 y1 y2 y3) (fetch_quarter_kind.l0 (k + 1) y0 y1 y2 y3))
  | 0 => ⟨fun _ _ _ _ r h => by simp [fetch_quarter_kind.j0] at h, fun _ _ _ _ r h => by simp [fetch_quarter_kind.l0] at h⟩
  | k + 1 => by
    obtain ⟨ih0, ih1⟩ := fetch_quarter_kind.mono_l k
    refine ⟨?_, ?_⟩
    · intro y0 y1 y2 y3
      unfold fetch_quarter_kind.j0
      with_reducible repeat' first | exact ih0 _ _ _ _ | exact ih1 _ _ _ _ | exact LeO.refl _ | exact LeO.none _ | refine LeO.ite ?_ ?_ | refine LeO.bind ?_ (fun _ => ?_)
    · intro y0 y1 y2 y3
      unfold fetch_quarter_kind.l0
      with_reducible repeat' first | exact ih0 _ _ _ _ | exact ih1 _ _ _ _ | exact LeO.refl _ | exact LeO.none _ | refine LeO.ite ?_ ?_ | refine LeO.bind ?_ (fun _ => ?_)
theorem fetch_quarter_kind.mono : ∀ a0 a1 a2 k, LeO (fetch_quarter_kind.f k a0 a1 a2) (fetch_quarter_kind.f (k + 1) a0 a1 a2) := by
  intro a0 a1 a2 k
  obtain ⟨ih0, ih1⟩ := fetch_quarter_kind.mono_l k
  unfold fetch_quarter_kind.f
  with_reducible repeat' first | exact ih0 _ _ _ _ | exact ih1 _ _ _ _ | exact LeO.refl _ | exact LeO.none _ | refine LeO.ite ?_ ?_ | refine LeO.bind ?_ (fun _ => ?_)
set_option maxHeartbeats 8000000 in
set_option maxRecDepth 100000 in
theorem fetch_quarter_kind.calls (k : Nat) (a0_0 : Int) (A0_1 : Option Addr) (c0_1 : Nat) (l0_1 : List (S39)) (a1 : Int) (r : Int) (w : World) (hr0_1 : Kd.C k39 w A0_1 l0_1.length l0_1) (hc0_1 : l0_1.length ≤ c0_1) (h : fetch_quarter_kind.f k a0_0 l0_1 a1 = some r) :
    Calls Tryd.prog 35 #[.agg #[.int .i64 a0_0, .slice A0_1 l0_1.length c0_1], .int .i64 a1] w fun e w' => e = .returned (.int .i64 r) ∧ Below w.heap.size w w' := by
 have hu48 := Tryd.underlying48
 have hu39 := Tryd.underlying39
 have HR0_1 := Aside0.mk hr0_1
 have HC0_1 := Aside0.mk hc0_1
 clear hr0_1 hc0_1
 have HB := Aside0.mk (Below.refl w.heap.size w)
 have H : (if a1 ≤ 0 then (fetch_quarter_kind.j0 k a1 true a0_0 l0_1) else ((fetch_quarter_everybody.f a0_0 l0_1).bind fun t110 => (fetch_quarter_kind.j0 k a1 (decide (a1 ≥ t110)) a0_0 l0_1))) = some r := h
 clear h
 have HC3 := Aside0.mk H
 clear H
 go_enter Tryd.func35, Tryd.ntmps35
 go_upto_region 1 with (first | ((with_reducible refine gate_dst (N := 2) rfl ?_); refine be_ #[.int .i64 a0_0, .slice A0_1 l0_1.length c0_1] 48 ?_; intro gb109 hg w4 hbox hb; have BK109 := Aside0.mk (hbox); have GW109 := gw_ hg; have GE109 := gw_ hg; replace HB := hb_ hb; clear hb hbox hg))
 (try simp only [Act.put, List.setIfInBounds_toArray, List.set_cons_zero, List.set_cons_succ])
 go_cut [14] (fun v14 wc => ∃ (kq : Nat) (x14_2 : Bool), v14 = .bool x14_2 ∧ Aside0 (fetch_quarter_kind.j0 kq a1 x14_2 a0_0 l0_1 = some r) ∧ Aside0 (kq ≤ k) ∧ Aside0 (wc.heap[gb109]? = some (.cells #[.int .i64 a0_0, (.slice A0_1 l0_1.length c0_1)] 48 (0, 0))) ∧ Aside0 (Below w.heap.size w wc))
 case first =>
  have H := HC3.out
  clear HC3
  by_cases c5 : a1 ≤ 0
  ·rw [if_pos c5] at H
   have c5b0 : decide (a1 ≤ 0) = true := decide_eq_true c5
   clear c5
   (first | rw [c5b0] | (simp only [i64_w, i32_w]; rw [c5b0]) | skip)
   have H' := Aside0.mk H
   clear H
   go_wp2
   go_meet
   case rel => exact ⟨_, (true), rs_, H', ⟨by first | omega | exact Nat.le_refl _⟩, ⟨bk_ BK109.out⟩, ⟨bl_⟩⟩
  ·rw [if_neg c5] at H
   have c5b0 : decide (a1 ≤ 0) = false := decide_eq_false c5
   clear c5
   (first | rw [c5b0] | (simp only [i64_w, i32_w]; rw [c5b0]) | skip)
   obtain ⟨t110, A6, H⟩ := bi_ H
   replace H : (fetch_quarter_kind.j0 k a1 (decide (a1 ≥ t110)) a0_0 l0_1) = some r := H
   have H' := Aside0.mk H
   clear H
   have hcz7_0 := bc_ BK109 0 (.int .i64 a0_0)
   have hcz7_1 := bc_ BK109 1 (.slice A0_1 l0_1.length c0_1)
   have hfz7_0 := bz_ BK109 0
   have hfz7_1 := bz_ BK109 1
   go_wp2_with (first | (go_at_call 23; (with_reducible refine (fetch_quarter_everybody.calls a0_0 _ _ l0_1 t110 _ ?side1 ?side2 A6.out).mono ?_); (case side1 => exact cb_ HR0_1.out); (case side2 => exact HC0_1.out); rintro e w8 ⟨rfl, hb⟩; replace BK109 := bb_ BK109 hb; replace HB := hb_ hb; clear hb))
   go_meet
   case rel => exact ⟨_, (decide (a1 ≥ t110)), rs_, H', ⟨by first | omega | exact Nat.le_refl _⟩, ⟨bk_ BK109.out⟩, ⟨bl_⟩⟩
 case rest =>
  clear HC3
  try clear p2
  try clear c3
  try clear c5
  try clear c5b0
  try clear hcz7_0
  try clear hcz7_1
  try clear hfz7_0
  try clear hfz7_1
  obtain ⟨kq, x14_2, rfl, HA, HJ2, BK109, HB⟩ := hcut
  cases kq with
  | zero => exact absurd HA.out (by simp [fetch_quarter_kind.j0])
  | succ kj2 =>
   have H := HA.out
   clear HA
   simp only [fetch_quarter_kind.j0] at H
   by_cases c9 : x14_2 = true
   ·subst c9
    have H1 : (some 2) = some r := by rw [if_pos rfl] at H; exact H
    clear H
    have H := H1
    clear H1
    obtain rfl := Option.some.inj H
    go_wp2
    go_ret
    exact ⟨er_, bl_⟩
   ·replace c9 := Bool.eq_false_iff.mpr c9
    subst c9
    have H1 : (fetch_quarter_kind.l0 kj2 a1 l0_1 (l0_1.length : Int) 0) = some r := by rw [if_neg (show ¬ (false = true) by decide)] at H; exact H
    clear H
    have H := H1
    clear H1
    have H' := Aside0.mk H
    clear H
    have hcz10_0 := bc_ BK109 0 (.int .i64 a0_0)
    have hcz10_1 := bc_ BK109 1 (.slice A0_1 l0_1.length c0_1)
    have hfz10_0 := bz_ BK109 0
    have hfz10_1 := bz_ BK109 1
    go_wp2
    go_loopg [18] kj2 (fun kq v18 w' => ∃ (x18_2 : Int), v18 = .int .i64 x18_2 ∧ Aside0 (fetch_quarter_kind.l0 kq a1 l0_1 (l0_1.length : Int) x18_2 = some r) ∧ Aside0 (kq ≤ kj2) ∧ Aside0 (w'.heap[gb109]? = some (.cells #[.int .i64 a0_0, (.slice A0_1 l0_1.length c0_1)] 48 (0, 0))) ∧ Aside0 (Below w.heap.size w w'))
    case atStart => exact ⟨(0), rs_, H', ⟨Nat.le_refl _⟩, ⟨bk_ BK109.out⟩, ⟨bl_⟩⟩
    case round =>
     clear H'
     try clear p2
     try clear c3
     try clear c5
     try clear c5b0
     try clear c9
     try clear hcz10_0
     try clear hcz10_1
     try clear hcz7_0
     try clear hcz7_1
     try clear hfz10_0
     try clear hfz10_1
     try clear hfz7_0
     try clear hfz7_1
     try clear p2
     obtain ⟨x18_2, rfl, HA, HK2, BK109, HB⟩ := hrel
     cases gk with
     | zero => exact absurd HA.out (by simp [fetch_quarter_kind.l0])
     | succ k2 =>
      have H := HA.out
      clear HA
      simp only [fetch_quarter_kind.l0] at H
      by_cases c11 : x18_2 < (l0_1.length : Int)
      ·rw [if_pos c11] at H
       have c11b0 : decide (x18_2 < (l0_1.length : Int)) = true := decide_eq_true c11
       clear c11
       obtain ⟨c12b0, H⟩ := fp_ H
       obtain ⟨c13b0, H⟩ := fp_ H
       have c14 : 0 ≤ ((rd_T39 l0_1 x18_2).f0) := fl_ fun c14 => by rw [if_neg c14] at H; exact absurd H (by simp)
       rw [if_pos c14] at H
       have c14b0 := eq_true c14
       have c14b1 : decide (0 ≤ ((rd_T39 l0_1 x18_2).f0)) = true := decide_eq_true c14
       clear c14
       obtain ⟨ji15, hji15⟩ : ∃ j_ : Int, (shr .i64 a1 ((rd_T39 l0_1 x18_2).f0)) = j_ := ⟨_, rfl⟩
       replace H : (if (Go.bits .and .i64 (ji15) 1) = 0 then (if 0 ≤ ((rd_T39 l0_1 x18_2).f1) then (if (Go.bits .and .i64 (shr .i64 a1 ((rd_T39 l0_1 x18_2).f1)) 1) = 1 then (some 0) else (fetch_quarter_kind.l0 k2 a1 l0_1 (l0_1.length : Int) (wrap64 (x18_2 + 1)))) else (none)) else (fetch_quarter_kind.l0 k2 a1 l0_1 (l0_1.length : Int) (wrap64 (x18_2 + 1)))) = some r := by first | (rw [hji15] at H; exact H) | (simp only [hji15] at H ⊢; exact H)
       have hji15_ : (a1 / 2 ^ min ((rd_T39 l0_1 x18_2).f0).toNat 64) = ji15 := hji15
       have hji15z : ((rd_T39 l0_1 x18_2).f0) ≤ 64 → (a1 / 2 ^ ((rd_T39 l0_1 x18_2).f0).toNat) = ji15 := shr_small hji15
       by_cases c16 : (Go.bits .and .i64 (ji15) 1) = 0
       ·rw [if_pos c16] at H
        have c16b0 : ((Go.bits .and .i64 (ji15) 1) == 0) = true := beq_iff_eq.mpr c16
        have c16b1 : ((Go.bits .and .i64 (ji15) 1) != 0) = false := bne_eq_false_iff_eq.mpr c16
        clear c16
        have c17 : 0 ≤ ((rd_T39 l0_1 x18_2).f1) := fl_ fun c17 => by rw [if_neg c17] at H; exact absurd H (by simp)
        rw [if_pos c17] at H
        have c17b0 := eq_true c17
        have c17b1 : decide (0 ≤ ((rd_T39 l0_1 x18_2).f1)) = true := decide_eq_true c17
        clear c17
        obtain ⟨ji18, hji18⟩ : ∃ j_ : Int, (shr .i64 a1 ((rd_T39 l0_1 x18_2).f1)) = j_ := ⟨_, rfl⟩
        replace H : (if (Go.bits .and .i64 (ji18) 1) = 1 then (some 0) else (fetch_quarter_kind.l0 k2 a1 l0_1 (l0_1.length : Int) (wrap64 (x18_2 + 1)))) = some r := by first | (rw [hji18] at H; exact H) | (simp only [hji18] at H ⊢; exact H)
        have hji18_ : (a1 / 2 ^ min ((rd_T39 l0_1 x18_2).f1).toNat 64) = ji18 := hji18
        have hji18z : ((rd_T39 l0_1 x18_2).f1) ≤ 64 → (a1 / 2 ^ ((rd_T39 l0_1 x18_2).f1).toNat) = ji18 := shr_small hji18
        by_cases c19 : (Go.bits .and .i64 (ji18) 1) = 1
        ·rw [if_pos c19] at H
         have c19b0 : ((Go.bits .and .i64 (ji18) 1) == 1) = true := beq_iff_eq.mpr c19
         have c19b1 : ((Go.bits .and .i64 (ji18) 1) != 1) = false := bne_eq_false_iff_eq.mpr c19
         clear c19
         obtain rfl := Option.some.inj H
         have p111 : 0 ≤ (x18_2 : Int) := od_
         have q111 : x18_2 < (l0_1.length : Int) := od_
         obtain ⟨ad111, e111, hx111_0, hx111_1⟩ := at_T39 HR0_1.out x18_2 p111 q111
         cases e111
         replace hx111_0 := hc_ HB hx111_0
         replace hx111_1 := hc_ HB hx111_1
         replace p111 := eq_true p111
         replace q111 := eq_true q111
         go_wp2_with (first | ((with_reducible refine gate_dst (N := 6) rfl ?_); refine be_ #[.int .i64 0, .int .i64 0] 39 ?_; intro gb112 hg w20 hbox hb; have BK112 := Aside0.mk (hbox); have GW112 := gw_ hg; have GE112 := gw_ hg; replace HB := hb_ hb; have NB109_112 := nl_ hg BK109; have NB112_109 := sy_ NB109_112; replace BK109 := bb_ BK109 hb; clear hb hbox hg; have hnb21 := NB112_109.out; have hnc21 := NB109_112.out; have hcz22_0 := bc_ BK112 0 (.int .i64 0); have hcz22_1 := bc_ BK112 1 (.int .i64 0); have hfz22_0 := bz_ BK112 0; have hfz22_1 := bz_ BK112 1))
         go_ret
         exact ⟨by first | rfl | (simp [errW_none, errW_some] <;> rfl) | (simp only [← hji15, ← hji18]; first | rfl | (simp [errW_none, errW_some] <;> rfl)) | (simp [*, errW_none, errW_some] <;> rfl), bl_⟩
        ·rw [if_neg c19] at H
         have c19b0 : ((Go.bits .and .i64 (ji18) 1) == 1) = false := beq_eq_false_iff_ne.mpr c19
         have c19b1 : ((Go.bits .and .i64 (ji18) 1) != 1) = true := bne_iff_ne.mpr c19
         have H' := Aside0.mk H
         clear H
         have p111 : 0 ≤ (x18_2 : Int) := od_
         have q111 : x18_2 < (l0_1.length : Int) := od_
         obtain ⟨ad111, e111, hx111_0, hx111_1⟩ := at_T39 HR0_1.out x18_2 p111 q111
         cases e111
         replace hx111_0 := hc_ HB hx111_0
         replace hx111_1 := hc_ HB hx111_1
         replace p111 := eq_true p111
         replace q111 := eq_true q111
         go_wp2_with (first | ((with_reducible refine gate_dst (N := 6) rfl ?_); refine be_ #[.int .i64 0, .int .i64 0] 39 ?_; intro gb112 hg w23 hbox hb; have BK112 := Aside0.mk (hbox); have GW112 := gw_ hg; have GE112 := gw_ hg; replace HB := hb_ hb; have NB109_112 := nl_ hg BK109; have NB112_109 := sy_ NB109_112; replace BK109 := bb_ BK109 hb; clear hb hbox hg; have hnb24 := NB112_109.out; have hnc24 := NB109_112.out; have hcz25_0 := bc_ BK112 0 (.int .i64 0); have hcz25_1 := bc_ BK112 1 (.int .i64 0); have hfz25_0 := bz_ BK112 0; have hfz25_1 := bz_ BK112 1))
         go_roundg k2
         case measure => have := HJ2.out; have := HK2.out; omega
         case rel => exact ⟨(wrap64 (x18_2 + 1)), rs_, H', ⟨by have := HJ2.out; have := HK2.out; omega⟩, ⟨by refine bk_ ?_; refine blk_far ?_ NB109_112.out _; refine bk_ ?_; refine blk_far ?_ NB109_112.out _; refine bk_ ?_; exact BK109.out⟩, ⟨bl_⟩⟩
       ·rw [if_neg c16] at H
        have c16b0 : ((Go.bits .and .i64 (ji15) 1) == 0) = false := beq_eq_false_iff_ne.mpr c16
        have c16b1 : ((Go.bits .and .i64 (ji15) 1) != 0) = true := bne_iff_ne.mpr c16
        have H' := Aside0.mk H
        clear H
        have p111 : 0 ≤ (x18_2 : Int) := od_
        have q111 : x18_2 < (l0_1.length : Int) := od_
        obtain ⟨ad111, e111, hx111_0, hx111_1⟩ := at_T39 HR0_1.out x18_2 p111 q111
        cases e111
        replace hx111_0 := hc_ HB hx111_0
        replace hx111_1 := hc_ HB hx111_1
        replace p111 := eq_true p111
        replace q111 := eq_true q111
        go_wp2_with (first | ((with_reducible refine gate_dst (N := 6) rfl ?_); refine be_ #[.int .i64 0, .int .i64 0] 39 ?_; intro gb112 hg w26 hbox hb; have BK112 := Aside0.mk (hbox); have GW112 := gw_ hg; have GE112 := gw_ hg; replace HB := hb_ hb; have NB109_112 := nl_ hg BK109; have NB112_109 := sy_ NB109_112; replace BK109 := bb_ BK109 hb; clear hb hbox hg; have hnb27 := NB112_109.out; have hnc27 := NB109_112.out; have hcz28_0 := bc_ BK112 0 (.int .i64 0); have hcz28_1 := bc_ BK112 1 (.int .i64 0); have hfz28_0 := bz_ BK112 0; have hfz28_1 := bz_ BK112 1))
        go_roundg k2
        case measure => have := HJ2.out; have := HK2.out; omega
        case rel => exact ⟨(wrap64 (x18_2 + 1)), rs_, H', ⟨by have := HJ2.out; have := HK2.out; omega⟩, ⟨by refine bk_ ?_; refine blk_far ?_ NB109_112.out _; refine bk_ ?_; refine blk_far ?_ NB109_112.out _; refine bk_ ?_; exact BK109.out⟩, ⟨bl_⟩⟩
      ·rw [if_neg c11] at H
       have c11b0 : decide (x18_2 < (l0_1.length : Int)) = false := decide_eq_false c11
       clear c11
       obtain rfl := Option.some.inj H
       go_wp2
       go_ret
       exact ⟨er_, bl_⟩

/-! ### fetch_quarter_cuts: function 26 -/
def fetch_quarter_cuts.l0 : Nat → List Int → Int → Int → Int → List (S39) → Option (List Int)
  | 0, _, _, _, _, _ => none
  | k + 1, x3, x6, x7, x114000, x114001 => if x7 < x6 then ((fetch_quarter_kind.f k x114000 x114001 x7).bind fun t115 => (if t115 = 1 then (if x3.length < 17592186044416 then (fetch_quarter_cuts.l0 k (x3 ++ [x7]) x6 (wrap64 (x7 + 1)) x114000 x114001) else (none)) else (fetch_quarter_cuts.l0 k x3 x6 (wrap64 (x7 + 1)) x114000 x114001))) else (some x3)
def fetch_quarter_cuts.f (k : Nat) (a0_0 : Int) (l0_1 : List (S39)) : Option (List Int) := (fetch_quarter_everybody.f a0_0 l0_1).bind fun t114 => (fetch_quarter_cuts.l0 k ([] : List Int) t114 0 a0_0 l0_1)
theorem fetch_quarter_cuts.mono_l : ∀ k, (∀ y0 y1 y2 y3 y4, LeO (fetch_quarter_cuts.l0 k y0 y1 y2 y3 y4) (fetch_quarter_cuts.l0 (k + 1) y0 y1 y2 y3 y4))
  | 0 => fun _ _ _ _ _ r h => by simp [fetch_quarter_cuts.l0] at h
  | k + 1 => by
    have ih0 := fetch_quarter_cuts.mono_l k
    · intro y0 y1 y2 y3 y4
      unfold fetch_quarter_cuts.l0
      with_reducible repeat' first | exact ih0 _ _ _ _ _ | exact fetch_quarter_kind.mono _ _ _ _ | exact LeO.refl _ | exact LeO.none _ | refine LeO.ite ?_ ?_ | refine LeO.bind ?_ (fun _ => ?_)
theorem fetch_quarter_cuts.mono : ∀ a0 a1 k, LeO (fetch_quarter_cuts.f k a0 a1) (fetch_quarter_cuts.f (k + 1) a0 a1) := by
  intro a0 a1 k
  have ih0 := fetch_quarter_cuts.mono_l k
  unfold fetch_quarter_cuts.f
  with_reducible repeat' first | exact ih0 _ _ _ _ _ | exact fetch_quarter_kind.mono _ _ _ _ | exact LeO.refl _ | exact LeO.none _ | refine LeO.ite ?_ ?_ | refine LeO.bind ?_ (fun _ => ?_)
set_option maxHeartbeats 8000000 in
set_option maxRecDepth 100000 in
theorem fetch_quarter_cuts.calls (k : Nat) (a0_0 : Int) (A0_1 : Option Addr) (c0_1 : Nat) (l0_1 : List (S39)) (r : List Int) (w : World) (hr0_1 : Kd.C k39 w A0_1 l0_1.length l0_1) (hc0_1 : l0_1.length ≤ c0_1) (h : fetch_quarter_cuts.f k a0_0 l0_1 = some r) :
    Calls Tryd.prog 26 #[.agg #[.int .i64 a0_0, .slice A0_1 l0_1.length c0_1]] w fun e w' => ∃ v0_ : Value, e = .returned (v0_) ∧ Kd.R (Kd.int .i64) 3 w' w.heap.size (fun _ => True) v0_ r ∧ Below w.heap.size w w' := by
 have hu48 := Tryd.underlying48
 have HR0_1 := Aside0.mk hr0_1
 have HC0_1 := Aside0.mk hc0_1
 clear hr0_1 hc0_1
 have HB := Aside0.mk (Below.refl w.heap.size w)
 have H : ((fetch_quarter_everybody.f a0_0 l0_1).bind fun t114 => (fetch_quarter_cuts.l0 k ([] : List Int) t114 0 a0_0 l0_1)) = some r := h
 clear h
 obtain ⟨t114, A2, H⟩ := bi_ H
 replace H : (fetch_quarter_cuts.l0 k ([] : List Int) t114 0 a0_0 l0_1) = some r := H
 have H' := Aside0.mk H
 clear H
 go_enter Tryd.func26, Tryd.ntmps26
 go_wp2_with (first | ((with_reducible refine gate_dst (N := 1) rfl ?_); refine be_ #[.int .i64 a0_0, .slice A0_1 l0_1.length c0_1] 48 ?_; intro gb113 hg w3 hbox hb; have BK113 := Aside0.mk (hbox); have GW113 := gw_ hg; have GE113 := gw_ hg; replace HB := hb_ hb; clear hb hbox hg; have hcz4_0 := bc_ BK113 0 (.int .i64 a0_0); have hcz4_1 := bc_ BK113 1 (.slice A0_1 l0_1.length c0_1); have hfz4_0 := bz_ BK113 0; have hfz4_1 := bz_ BK113 1) | ((with_reducible refine gate_callee (f := 23) rfl ?_); refine goesL_ (some 6) rfl rfl Tryd.func23 (by kernel_rfl) rfl #[.agg #[.int .i64 a0_0, .slice A0_1 l0_1.length c0_1]] rfl (as_) ?_; (with_reducible refine (fetch_quarter_everybody.calls a0_0 _ _ l0_1 t114 _ ?side1 ?side2 A2.out).mono ?_); (case side1 => exact cb_ HR0_1.out); (case side2 => exact HC0_1.out); rintro e w5 ⟨rfl, hb⟩; refine ⟨_, rfl, ?_⟩; replace BK113 := bb_ BK113 hb; replace HB := hb_ hb; clear hb))
 go_loopg [3, 7] k (fun kq v3 v7 w' => ∃ (x3_1 : List Int) (x7_1 : Int), v7 = .int .i64 x7_1 ∧ Aside0 (fetch_quarter_cuts.l0 kq x3_1 t114 x7_1 a0_0 l0_1 = some r) ∧ Aside0 (kq ≤ k) ∧ Aside0 (Kd.R (Kd.int .i64) 3 w' w.heap.size (fun _ => True) v3 x3_1) ∧ Aside0 (w'.heap[gb113]? = some (.cells #[.int .i64 a0_0, (.slice A0_1 l0_1.length c0_1)] 48 (0, 0))) ∧ Aside0 (Below w.heap.size w w'))
 case atStart => exact ⟨(([] : List Int)), (0), rs_, H', ⟨Nat.le_refl _⟩, ⟨by first | exact Kd.R_nil _ _ _ _ _ | exact Kd.N_nil _ _ _ _ _ | exact Kd.V_nil _ _ _ _ _ | exact Kd.Q_nil _ _ _ _ _ | exact Kd.S_nil _ _ _ _ _⟩, ⟨bk_ BK113.out⟩, ⟨bl_⟩⟩
 case round =>
  clear H'
  try clear c2
  try clear p2
  try clear hcz4_0
  try clear hcz4_1
  try clear hfz4_0
  try clear hfz4_1
  obtain ⟨x3_1, x7_1, rfl, HA, HK1, HO_3, BK113, HB⟩ := hrel
  cases gk with
  | zero => exact absurd HA.out (by simp [fetch_quarter_cuts.l0])
  | succ k1 =>
   have H := HA.out
   clear HA
   simp only [fetch_quarter_cuts.l0] at H
   by_cases c6 : x7_1 < t114
   ·rw [if_pos c6] at H
    have c6b0 : decide (x7_1 < t114) = true := decide_eq_true c6
    clear c6
    obtain ⟨t115, A7, H⟩ := bi_ H
    replace H : (if t115 = 1 then (if x3_1.length < 17592186044416 then (fetch_quarter_cuts.l0 k1 (x3_1 ++ [x7_1]) t114 (wrap64 (x7_1 + 1)) a0_0 l0_1) else (none)) else (fetch_quarter_cuts.l0 k1 x3_1 t114 (wrap64 (x7_1 + 1)) a0_0 l0_1)) = some r := H
    by_cases c8 : t115 = 1
    ·rw [if_pos c8] at H
     have c8b0 : (t115 == 1) = true := beq_iff_eq.mpr c8
     have c8b1 : (t115 != 1) = false := bne_eq_false_iff_eq.mpr c8
     clear c8
     have c9 : x3_1.length < 17592186044416 := fl_ fun c9 => by rw [if_neg c9] at H; exact absurd H (by simp)
     rw [if_pos c9] at H
     have LMc9 := Aside0.mk c9
     clear c9
     obtain ⟨y116, hy116⟩ : ∃ y_ : List Int, y_ = (x3_1 ++ [x7_1]) := ⟨_, rfl⟩
     replace H : (fetch_quarter_cuts.l0 k1 y116 t114 (wrap64 (x7_1 + 1)) a0_0 l0_1) = some r := by first | (rw [hy116]; with_reducible exact H) | (have H2_ := (Option.bind_some _ _).symm.trans H; rw [hy116]; with_reducible exact H2_) | (have H2_ := (Option.bind_some _ _).symm.trans H; with_reducible exact H2_) | with_reducible exact H | (rw [hy116]; exact H) | exact H
     have Ny116 := Aside0.mk hy116
     clear hy116
     have H' := Aside0.mk H
     clear H
     have hcz10_0 := bc_ BK113 0 (.int .i64 a0_0)
     have hcz10_1 := bc_ BK113 1 (.slice A0_1 l0_1.length c0_1)
     have hfz10_0 := bz_ BK113 0
     have hfz10_1 := bz_ BK113 1
     go_wp2_with (first | ((with_reducible refine gate_callee (f := 35) rfl ?_); refine goesL_ (some 12) rfl rfl Tryd.func35 (by kernel_rfl) rfl #[.agg #[.int .i64 a0_0, .slice A0_1 l0_1.length c0_1], .int .i64 x7_1] rfl (as_) ?_; (with_reducible refine (fetch_quarter_kind.calls k1 a0_0 _ _ l0_1 x7_1 t115 _ ?side1 ?side2 A7.out).mono ?_); (case side1 => exact cb_ HR0_1.out); (case side2 => exact HC0_1.out); rintro e w11 ⟨rfl, hb⟩; refine ⟨_, rfl, ?_⟩; replace HO_3 := rb_ HO_3 hb; replace BK113 := bb_ BK113 hb; replace HB := hb_ hb; clear hb) | ((with_reducible refine gate_builtin (b := .append) (xs := #[.tmp 14, .tmp 16]) rfl ?_); at_builtin; refine Kd.R_append (Kd.int .i64) (w0 := w) w.heap.size rfl (.tmp 14) (.tmp 16) 29 3 (.int .i64 0) 8 rfl Tryd.underlying29 info3 rfl (by decide) (by omega) u3 x3_1 x7_1 [.int .i64 x7_1] (fun _ => True) (fun _ => False) rfl rfl ?aP (fun _ hk => hk.elim) ?aF ?aO ?aB ?aS ?aL ?_; (case aP => exact rfl); (case aB => exact (bl_)); (case aF => exact (fun _ _ => trivial)); (case aO => exact (kr_ HO_3.out)); (case aS => exact (below_size (bl_))); (case aL => have := LMc9.out; omega); intro v117 w12 ho hb hg hat; rw [← Ny116.out] at ho; replace BK113 := Aside0.mk (blk_grown (g := gb113) (o := .cells #[.int .i64 a0_0, .slice A0_1 l0_1.length c0_1] 48 (0, 0)) (bk_ BK113.out) hg (Kd.R_ne HO_3.out BK113.out (by decide))); replace HB := Aside0.mk (hb); have HO118 := Aside0.mk (ho); clear HO_3; clear ho hb hg hat))
     go_roundg k1
     case measure => have := HK1.out; omega
     case rel => exact ⟨(y116), (wrap64 (x7_1 + 1)), rs_, H', ⟨by have := HK1.out; omega⟩, ⟨kr_ HO118.out⟩, ⟨bk_ BK113.out⟩, ⟨bl_⟩⟩
    ·rw [if_neg c8] at H
     have c8b0 : (t115 == 1) = false := beq_eq_false_iff_ne.mpr c8
     have c8b1 : (t115 != 1) = true := bne_iff_ne.mpr c8
     have H' := Aside0.mk H
     clear H
     have hcz13_0 := bc_ BK113 0 (.int .i64 a0_0)
     have hcz13_1 := bc_ BK113 1 (.slice A0_1 l0_1.length c0_1)
     have hfz13_0 := bz_ BK113 0
     have hfz13_1 := bz_ BK113 1
     go_wp2_with (first | ((with_reducible refine gate_callee (f := 35) rfl ?_); refine goesL_ (some 12) rfl rfl Tryd.func35 (by kernel_rfl) rfl #[.agg #[.int .i64 a0_0, .slice A0_1 l0_1.length c0_1], .int .i64 x7_1] rfl (as_) ?_; (with_reducible refine (fetch_quarter_kind.calls k1 a0_0 _ _ l0_1 x7_1 t115 _ ?side1 ?side2 A7.out).mono ?_); (case side1 => exact cb_ HR0_1.out); (case side2 => exact HC0_1.out); rintro e w14 ⟨rfl, hb⟩; refine ⟨_, rfl, ?_⟩; replace HO_3 := rb_ HO_3 hb; replace BK113 := bb_ BK113 hb; replace HB := hb_ hb; clear hb))
     go_roundg k1
     case measure => have := HK1.out; omega
     case rel => exact ⟨(x3_1), (wrap64 (x7_1 + 1)), rs_, H', ⟨by have := HK1.out; omega⟩, ⟨kr_ HO_3.out⟩, ⟨bk_ BK113.out⟩, ⟨bl_⟩⟩
   ·rw [if_neg c6] at H
    have c6b0 : decide (x7_1 < t114) = false := decide_eq_false c6
    clear c6
    obtain rfl := Option.some.inj H
    go_wp2
    go_ret
    exact ⟨_, er_, by refine kr_ ?_; exact HO_3.out, bl_⟩

/-! ### fetch_quarter_crossing: function 27 -/
def fetch_quarter_crossing.l0 : Nat → Int → Int → List (S39) → Int → Int → Option (Int)
  | 0, _, _, _, _, _ => none
  | k + 1, x1, x5, x9, x10, x11 => if x11 < x10 then (if 0 ≤ x11 then (if x11 < (x9.length : Int) then (if 0 ≤ ((rd_T39 x9 x11).f0) then (if (Go.bits .and .i64 (shr .i64 x1 ((rd_T39 x9 x11).f0)) 1) = 1 then (if 0 ≤ ((rd_T39 x9 x11).f1) then (if (Go.bits .and .i64 (shr .i64 x1 ((rd_T39 x9 x11).f1)) 1) = 0 then (fetch_quarter_crossing.l0 k x1 (Go.bits .or .i64 x5 (shl .i64 1 x11)) x9 x10 (wrap64 (x11 + 1))) else (fetch_quarter_crossing.l0 k x1 x5 x9 x10 (wrap64 (x11 + 1)))) else (none)) else (fetch_quarter_crossing.l0 k x1 x5 x9 x10 (wrap64 (x11 + 1)))) else (none)) else (none)) else (none)) else (some x5)
def fetch_quarter_crossing.f (k : Nat) (a0_0 : Int) (l0_1 : List (S39)) (a1 : Int) : Option (Int) := fetch_quarter_crossing.l0 k a1 0 l0_1 (l0_1.length : Int) 0
theorem fetch_quarter_crossing.mono_l : ∀ k, (∀ y0 y1 y2 y3 y4, LeO (fetch_quarter_crossing.l0 k y0 y1 y2 y3 y4) (fetch_quarter_crossing.l0 (k + 1) y0 y1 y2 y3 y4))
  | 0 => fun _ _ _ _ _ r h => by simp [fetch_quarter_crossing.l0] at h
  | k + 1 => by
    have ih0 := fetch_quarter_crossing.mono_l k
    · intro y0 y1 y2 y3 y4
      unfold fetch_quarter_crossing.l0
      with_reducible repeat' first | exact ih0 _ _ _ _ _ | exact LeO.refl _ | exact LeO.none _ | refine LeO.ite ?_ ?_ | refine LeO.bind ?_ (fun _ => ?_)
theorem fetch_quarter_crossing.mono : ∀ a0 a1 a2 k, LeO (fetch_quarter_crossing.f k a0 a1 a2) (fetch_quarter_crossing.f (k + 1) a0 a1 a2) := by
  intro a0 a1 a2 k
  have ih0 := fetch_quarter_crossing.mono_l k
  unfold fetch_quarter_crossing.f
  with_reducible repeat' first | exact ih0 _ _ _ _ _ | exact LeO.refl _ | exact LeO.none _ | refine LeO.ite ?_ ?_ | refine LeO.bind ?_ (fun _ => ?_)
set_option maxHeartbeats 8000000 in
set_option maxRecDepth 100000 in
theorem fetch_quarter_crossing.calls (k : Nat) (a0_0 : Int) (A0_1 : Option Addr) (c0_1 : Nat) (l0_1 : List (S39)) (a1 : Int) (r : Int) (w : World) (hr0_1 : Kd.C k39 w A0_1 l0_1.length l0_1) (hc0_1 : l0_1.length ≤ c0_1) (h : fetch_quarter_crossing.f k a0_0 l0_1 a1 = some r) :
    Calls Tryd.prog 27 #[.agg #[.int .i64 a0_0, .slice A0_1 l0_1.length c0_1], .int .i64 a1] w fun e w' => e = .returned (.int .i64 r) ∧ Below w.heap.size w w' := by
 have hu48 := Tryd.underlying48
 have hu39 := Tryd.underlying39
 have HR0_1 := Aside0.mk hr0_1
 have HC0_1 := Aside0.mk hc0_1
 clear hr0_1 hc0_1
 have HB := Aside0.mk (Below.refl w.heap.size w)
 have H : (fetch_quarter_crossing.l0 k a1 0 l0_1 (l0_1.length : Int) 0) = some r := h
 clear h
 have H' := Aside0.mk H
 clear H
 go_enter Tryd.func27, Tryd.ntmps27
 go_wp2_with (first | ((with_reducible refine gate_dst (N := 2) rfl ?_); refine be_ #[.int .i64 a0_0, .slice A0_1 l0_1.length c0_1] 48 ?_; intro gb119 hg w3 hbox hb; have BK119 := Aside0.mk (hbox); have GW119 := gw_ hg; have GE119 := gw_ hg; replace HB := hb_ hb; clear hb hbox hg; have hcz4_0 := bc_ BK119 0 (.int .i64 a0_0); have hcz4_1 := bc_ BK119 1 (.slice A0_1 l0_1.length c0_1); have hfz4_0 := bz_ BK119 0; have hfz4_1 := bz_ BK119 1))
 go_loopg [5, 11] k (fun kq v5 v11 w' => ∃ (x5_1 : Int) (x11_1 : Int), v5 = .int .i64 x5_1 ∧ v11 = .int .i64 x11_1 ∧ Aside0 (fetch_quarter_crossing.l0 kq a1 x5_1 l0_1 (l0_1.length : Int) x11_1 = some r) ∧ Aside0 (kq ≤ k) ∧ Aside0 (w'.heap[gb119]? = some (.cells #[.int .i64 a0_0, (.slice A0_1 l0_1.length c0_1)] 48 (0, 0))) ∧ Aside0 (Below w.heap.size w w'))
 case atStart => exact ⟨(0), (0), rs_, rs_, H', ⟨Nat.le_refl _⟩, ⟨bk_ BK119.out⟩, ⟨bl_⟩⟩
 case round =>
  clear H'
  try clear c2
  try clear p2
  try clear hcz4_0
  try clear hcz4_1
  try clear hfz4_0
  try clear hfz4_1
  obtain ⟨x5_1, x11_1, rfl, rfl, HA, HK1, BK119, HB⟩ := hrel
  cases gk with
  | zero => exact absurd HA.out (by simp [fetch_quarter_crossing.l0])
  | succ k1 =>
   have H := HA.out
   clear HA
   simp only [fetch_quarter_crossing.l0] at H
   by_cases c5 : x11_1 < (l0_1.length : Int)
   ·rw [if_pos c5] at H
    have c5b0 : decide (x11_1 < (l0_1.length : Int)) = true := decide_eq_true c5
    clear c5
    obtain ⟨c6b0, H⟩ := fp_ H
    obtain ⟨c7b0, H⟩ := fp_ H
    have c8 : 0 ≤ ((rd_T39 l0_1 x11_1).f0) := fl_ fun c8 => by rw [if_neg c8] at H; exact absurd H (by simp)
    rw [if_pos c8] at H
    have c8b0 := eq_true c8
    have c8b1 : decide (0 ≤ ((rd_T39 l0_1 x11_1).f0)) = true := decide_eq_true c8
    clear c8
    obtain ⟨ji9, hji9⟩ : ∃ j_ : Int, (shr .i64 a1 ((rd_T39 l0_1 x11_1).f0)) = j_ := ⟨_, rfl⟩
    replace H : (if (Go.bits .and .i64 (ji9) 1) = 1 then (if 0 ≤ ((rd_T39 l0_1 x11_1).f1) then (if (Go.bits .and .i64 (shr .i64 a1 ((rd_T39 l0_1 x11_1).f1)) 1) = 0 then (fetch_quarter_crossing.l0 k1 a1 (Go.bits .or .i64 x5_1 (shl .i64 1 x11_1)) l0_1 (l0_1.length : Int) (wrap64 (x11_1 + 1))) else (fetch_quarter_crossing.l0 k1 a1 x5_1 l0_1 (l0_1.length : Int) (wrap64 (x11_1 + 1)))) else (none)) else (fetch_quarter_crossing.l0 k1 a1 x5_1 l0_1 (l0_1.length : Int) (wrap64 (x11_1 + 1)))) = some r := by first | (rw [hji9] at H; exact H) | (simp only [hji9] at H ⊢; exact H)
    have hji9_ : (a1 / 2 ^ min ((rd_T39 l0_1 x11_1).f0).toNat 64) = ji9 := hji9
    have hji9z : ((rd_T39 l0_1 x11_1).f0) ≤ 64 → (a1 / 2 ^ ((rd_T39 l0_1 x11_1).f0).toNat) = ji9 := shr_small hji9
    by_cases c10 : (Go.bits .and .i64 (ji9) 1) = 1
    ·rw [if_pos c10] at H
     have c10b0 : ((Go.bits .and .i64 (ji9) 1) == 1) = true := beq_iff_eq.mpr c10
     have c10b1 : ((Go.bits .and .i64 (ji9) 1) != 1) = false := bne_eq_false_iff_eq.mpr c10
     clear c10
     have c11 : 0 ≤ ((rd_T39 l0_1 x11_1).f1) := fl_ fun c11 => by rw [if_neg c11] at H; exact absurd H (by simp)
     rw [if_pos c11] at H
     have c11b0 := eq_true c11
     have c11b1 : decide (0 ≤ ((rd_T39 l0_1 x11_1).f1)) = true := decide_eq_true c11
     clear c11
     obtain ⟨ji12, hji12⟩ : ∃ j_ : Int, (shr .i64 a1 ((rd_T39 l0_1 x11_1).f1)) = j_ := ⟨_, rfl⟩
     replace H : (if (Go.bits .and .i64 (ji12) 1) = 0 then (fetch_quarter_crossing.l0 k1 a1 (Go.bits .or .i64 x5_1 (shl .i64 1 x11_1)) l0_1 (l0_1.length : Int) (wrap64 (x11_1 + 1))) else (fetch_quarter_crossing.l0 k1 a1 x5_1 l0_1 (l0_1.length : Int) (wrap64 (x11_1 + 1)))) = some r := by first | (rw [hji12] at H; exact H) | (simp only [hji12] at H ⊢; exact H)
     have hji12_ : (a1 / 2 ^ min ((rd_T39 l0_1 x11_1).f1).toNat 64) = ji12 := hji12
     have hji12z : ((rd_T39 l0_1 x11_1).f1) ≤ 64 → (a1 / 2 ^ ((rd_T39 l0_1 x11_1).f1).toNat) = ji12 := shr_small hji12
     by_cases c13 : (Go.bits .and .i64 (ji12) 1) = 0
     ·rw [if_pos c13] at H
      have c13b0 : ((Go.bits .and .i64 (ji12) 1) == 0) = true := beq_iff_eq.mpr c13
      have c13b1 : ((Go.bits .and .i64 (ji12) 1) != 0) = false := bne_eq_false_iff_eq.mpr c13
      clear c13
      have c14b0 := eq_true (od_ : 0 ≤ x11_1)
      obtain ⟨ji15, hji15⟩ : ∃ j_ : Int, (shl .i64 1 x11_1) = j_ := ⟨_, rfl⟩
      replace H : (fetch_quarter_crossing.l0 k1 a1 (Go.bits .or .i64 x5_1 (ji15)) l0_1 (l0_1.length : Int) (wrap64 (x11_1 + 1))) = some r := by first | (rw [hji15] at H; exact H) | (simp only [hji15] at H ⊢; exact H)
      have hji15_ : (IntKind.i64.wrap (1 * 2 ^ min x11_1.toNat 64)) = ji15 := hji15
      have hji15z : x11_1 ≤ 64 → (IntKind.i64.wrap (1 * 2 ^ x11_1.toNat)) = ji15 := shl_small hji15
      have hji15u : (IntKind.i64.wrap (2 ^ min x11_1.toNat 64)) = ji15 := by have h_ := hji15_; rw [Int.one_mul] at h_; exact h_
      have hji15v : x11_1 ≤ 64 → (IntKind.i64.wrap (2 ^ x11_1.toNat)) = ji15 := fun hle_ => by have h_ := hji15z hle_; rw [Int.one_mul] at h_; exact h_
      have hji15y : (wrap64 (1 * 2 ^ min x11_1.toNat 64)) = ji15 := (i64_w _).symm.trans hji15_
      have hji15x : x11_1 ≤ 64 → (wrap64 (1 * 2 ^ x11_1.toNat)) = ji15 := fun h_ => (i64_w _).symm.trans (hji15z h_)
      have H' := Aside0.mk H
      clear H
      have p120 : 0 ≤ (x11_1 : Int) := od_
      have q120 : x11_1 < (l0_1.length : Int) := od_
      obtain ⟨ad120, e120, hx120_0, hx120_1⟩ := at_T39 HR0_1.out x11_1 p120 q120
      cases e120
      replace hx120_0 := hc_ HB hx120_0
      replace hx120_1 := hc_ HB hx120_1
      replace p120 := eq_true p120
      replace q120 := eq_true q120
      go_wp2_with (first | ((with_reducible refine gate_dst (N := 7) rfl ?_); refine be_ #[.int .i64 0, .int .i64 0] 39 ?_; intro gb121 hg w16 hbox hb; have BK121 := Aside0.mk (hbox); have GW121 := gw_ hg; have GE121 := gw_ hg; replace HB := hb_ hb; have NB119_121 := nl_ hg BK119; have NB121_119 := sy_ NB119_121; replace BK119 := bb_ BK119 hb; clear hb hbox hg; have hnb17 := NB121_119.out; have hnc17 := NB119_121.out; have hcz18_0 := bc_ BK121 0 (.int .i64 0); have hcz18_1 := bc_ BK121 1 (.int .i64 0); have hfz18_0 := bz_ BK121 0; have hfz18_1 := bz_ BK121 1))
      go_roundg k1
      case measure => have := HK1.out; omega
      case rel => exact ⟨(Go.bits .or .i64 x5_1 (ji15)), (wrap64 (x11_1 + 1)), (by first | rfl | (simp; done) | (simp only [← hji15] <;> (first | rfl | simp)) | (simp [*]; done)), rs_, H', ⟨by have := HK1.out; omega⟩, ⟨by refine bk_ ?_; refine blk_far ?_ NB119_121.out _; refine bk_ ?_; refine blk_far ?_ NB119_121.out _; refine bk_ ?_; exact BK119.out⟩, ⟨bl_⟩⟩
     ·rw [if_neg c13] at H
      have c13b0 : ((Go.bits .and .i64 (ji12) 1) == 0) = false := beq_eq_false_iff_ne.mpr c13
      have c13b1 : ((Go.bits .and .i64 (ji12) 1) != 0) = true := bne_iff_ne.mpr c13
      have H' := Aside0.mk H
      clear H
      have p120 : 0 ≤ (x11_1 : Int) := od_
      have q120 : x11_1 < (l0_1.length : Int) := od_
      obtain ⟨ad120, e120, hx120_0, hx120_1⟩ := at_T39 HR0_1.out x11_1 p120 q120
      cases e120
      replace hx120_0 := hc_ HB hx120_0
      replace hx120_1 := hc_ HB hx120_1
      replace p120 := eq_true p120
      replace q120 := eq_true q120
      go_wp2_with (first | ((with_reducible refine gate_dst (N := 7) rfl ?_); refine be_ #[.int .i64 0, .int .i64 0] 39 ?_; intro gb121 hg w19 hbox hb; have BK121 := Aside0.mk (hbox); have GW121 := gw_ hg; have GE121 := gw_ hg; replace HB := hb_ hb; have NB119_121 := nl_ hg BK119; have NB121_119 := sy_ NB119_121; replace BK119 := bb_ BK119 hb; clear hb hbox hg; have hnb20 := NB121_119.out; have hnc20 := NB119_121.out; have hcz21_0 := bc_ BK121 0 (.int .i64 0); have hcz21_1 := bc_ BK121 1 (.int .i64 0); have hfz21_0 := bz_ BK121 0; have hfz21_1 := bz_ BK121 1))
      go_roundg k1
      case measure => have := HK1.out; omega
      case rel => exact ⟨(x5_1), (wrap64 (x11_1 + 1)), rs_, rs_, H', ⟨by have := HK1.out; omega⟩, ⟨by refine bk_ ?_; refine blk_far ?_ NB119_121.out _; refine bk_ ?_; refine blk_far ?_ NB119_121.out _; refine bk_ ?_; exact BK119.out⟩, ⟨bl_⟩⟩
    ·rw [if_neg c10] at H
     have c10b0 : ((Go.bits .and .i64 (ji9) 1) == 1) = false := beq_eq_false_iff_ne.mpr c10
     have c10b1 : ((Go.bits .and .i64 (ji9) 1) != 1) = true := bne_iff_ne.mpr c10
     have H' := Aside0.mk H
     clear H
     have p120 : 0 ≤ (x11_1 : Int) := od_
     have q120 : x11_1 < (l0_1.length : Int) := od_
     obtain ⟨ad120, e120, hx120_0, hx120_1⟩ := at_T39 HR0_1.out x11_1 p120 q120
     cases e120
     replace hx120_0 := hc_ HB hx120_0
     replace hx120_1 := hc_ HB hx120_1
     replace p120 := eq_true p120
     replace q120 := eq_true q120
     go_wp2_with (first | ((with_reducible refine gate_dst (N := 7) rfl ?_); refine be_ #[.int .i64 0, .int .i64 0] 39 ?_; intro gb121 hg w22 hbox hb; have BK121 := Aside0.mk (hbox); have GW121 := gw_ hg; have GE121 := gw_ hg; replace HB := hb_ hb; have NB119_121 := nl_ hg BK119; have NB121_119 := sy_ NB119_121; replace BK119 := bb_ BK119 hb; clear hb hbox hg; have hnb23 := NB121_119.out; have hnc23 := NB119_121.out; have hcz24_0 := bc_ BK121 0 (.int .i64 0); have hcz24_1 := bc_ BK121 1 (.int .i64 0); have hfz24_0 := bz_ BK121 0; have hfz24_1 := bz_ BK121 1))
     go_roundg k1
     case measure => have := HK1.out; omega
     case rel => exact ⟨(x5_1), (wrap64 (x11_1 + 1)), rs_, rs_, H', ⟨by have := HK1.out; omega⟩, ⟨by refine bk_ ?_; refine blk_far ?_ NB119_121.out _; refine bk_ ?_; refine blk_far ?_ NB119_121.out _; refine bk_ ?_; exact BK119.out⟩, ⟨bl_⟩⟩
   ·rw [if_neg c5] at H
    have c5b0 : decide (x11_1 < (l0_1.length : Int)) = false := decide_eq_false c5
    clear c5
    obtain rfl := Option.some.inj H
    go_wp2
    go_ret
    exact ⟨er_, bl_⟩

/-! ### fetch_list: function 25 -/
def fetch_list.l0 : Nat → Int → List Int → Int → Option (List Int)
  | 0, _, _, _ => none
  | k + 1, x0, x3, x4 => if 0 ≤ x4 then (if (shr .i64 x0 x4) > 0 then (if (Go.bits .and .i64 (shr .i64 x0 x4) 1) = 1 then (if x3.length < 17592186044416 then (fetch_list.l0 k x0 (x3 ++ [x4]) (wrap64 (x4 + 1))) else (none)) else (fetch_list.l0 k x0 x3 (wrap64 (x4 + 1)))) else (some x3)) else (none)
def fetch_list.f (k : Nat) (a0 : Int) : Option (List Int) := fetch_list.l0 k a0 ([] : List Int) 0
theorem fetch_list.mono_l : ∀ k, (∀ y0 y1 y2, LeO (fetch_list.l0 k y0 y1 y2) (fetch_list.l0 (k + 1) y0 y1 y2))
  | 0 => fun _ _ _ r h => by simp [fetch_list.l0] at h
  | k + 1 => by
    have ih0 := fetch_list.mono_l k
    · intro y0 y1 y2
      unfold fetch_list.l0
      with_reducible repeat' first | exact ih0 _ _ _ | exact LeO.refl _ | exact LeO.none _ | refine LeO.ite ?_ ?_ | refine LeO.bind ?_ (fun _ => ?_)
theorem fetch_list.mono : ∀ a0 k, LeO (fetch_list.f k a0) (fetch_list.f (k + 1) a0) := by
  intro a0 k
  have ih0 := fetch_list.mono_l k
  unfold fetch_list.f
  with_reducible repeat' first | exact ih0 _ _ _ | exact LeO.refl _ | exact LeO.none _ | refine LeO.ite ?_ ?_ | refine LeO.bind ?_ (fun _ => ?_)
set_option maxHeartbeats 8000000 in
set_option maxRecDepth 100000 in
theorem fetch_list.calls (k : Nat) (a0 : Int) (r : List Int) (w : World) (h : fetch_list.f k a0 = some r) :
    Calls Tryd.prog 25 #[.int .i64 a0] w fun e w' => ∃ v0_ : Value, e = .returned (v0_) ∧ Kd.R (Kd.int .i64) 3 w' w.heap.size (fun _ => True) v0_ r ∧ Below w.heap.size w w' := by
 have HB := Aside0.mk (Below.refl w.heap.size w)
 have H : (fetch_list.l0 k a0 ([] : List Int) 0) = some r := h
 clear h
 have H' := Aside0.mk H
 clear H
 go_enter Tryd.func25, Tryd.ntmps25
 go_wp2
 go_loopg [3, 4] k (fun kq v3 v4 w' => ∃ (x3_1 : List Int) (x4_1 : Int), v4 = .int .i64 x4_1 ∧ Aside0 (fetch_list.l0 kq a0 x3_1 x4_1 = some r) ∧ Aside0 (kq ≤ k) ∧ Aside0 (Kd.R (Kd.int .i64) 3 w' w.heap.size (fun _ => True) v3 x3_1) ∧ Aside0 (Below w.heap.size w w'))
 case atStart => exact ⟨(([] : List Int)), (0), rs_, H', ⟨Nat.le_refl _⟩, ⟨by first | exact Kd.R_nil _ _ _ _ _ | exact Kd.N_nil _ _ _ _ _ | exact Kd.V_nil _ _ _ _ _ | exact Kd.Q_nil _ _ _ _ _ | exact Kd.S_nil _ _ _ _ _⟩, ⟨bl_⟩⟩
 case round =>
  clear H'
  obtain ⟨x3_1, x4_1, rfl, HA, HK1, HO_3, HB⟩ := hrel
  cases gk with
  | zero => exact absurd HA.out (by simp [fetch_list.l0])
  | succ k1 =>
   have H := HA.out
   clear HA
   simp only [fetch_list.l0] at H
   have c2 : 0 ≤ x4_1 := fl_ fun c2 => by rw [if_neg c2] at H; exact absurd H (by simp)
   rw [if_pos c2] at H
   have c2b0 := eq_true c2
   have c2b1 : decide (0 ≤ x4_1) = true := decide_eq_true c2
   clear c2
   obtain ⟨ji3, hji3⟩ : ∃ j_ : Int, (shr .i64 a0 x4_1) = j_ := ⟨_, rfl⟩
   replace H : (if (ji3) > 0 then (if (Go.bits .and .i64 (ji3) 1) = 1 then (if x3_1.length < 17592186044416 then (fetch_list.l0 k1 a0 (x3_1 ++ [x4_1]) (wrap64 (x4_1 + 1))) else (none)) else (fetch_list.l0 k1 a0 x3_1 (wrap64 (x4_1 + 1)))) else (some x3_1)) = some r := by first | (rw [hji3] at H; exact H) | (simp only [hji3] at H ⊢; exact H)
   have hji3_ : (a0 / 2 ^ min x4_1.toNat 64) = ji3 := hji3
   have hji3z : x4_1 ≤ 64 → (a0 / 2 ^ x4_1.toNat) = ji3 := shr_small hji3
   by_cases c4 : (ji3) > 0
   ·rw [if_pos c4] at H
    have c4b0 : decide (0 < (ji3)) = true := decide_eq_true c4
    clear c4
    have c5b0 := eq_true (od_ : 0 ≤ x4_1)
    by_cases c7 : (Go.bits .and .i64 (ji3) 1) = 1
    ·rw [if_pos c7] at H
     have c7b0 : ((Go.bits .and .i64 (ji3) 1) == 1) = true := beq_iff_eq.mpr c7
     have c7b1 : ((Go.bits .and .i64 (ji3) 1) != 1) = false := bne_eq_false_iff_eq.mpr c7
     clear c7
     have c8 : x3_1.length < 17592186044416 := fl_ fun c8 => by rw [if_neg c8] at H; exact absurd H (by simp)
     rw [if_pos c8] at H
     have LMc8 := Aside0.mk c8
     clear c8
     obtain ⟨y122, hy122⟩ : ∃ y_ : List Int, y_ = (x3_1 ++ [x4_1]) := ⟨_, rfl⟩
     replace H : (fetch_list.l0 k1 a0 y122 (wrap64 (x4_1 + 1))) = some r := by first | (rw [hy122]; with_reducible exact H) | (have H2_ := (Option.bind_some _ _).symm.trans H; rw [hy122]; with_reducible exact H2_) | (have H2_ := (Option.bind_some _ _).symm.trans H; with_reducible exact H2_) | with_reducible exact H | (rw [hy122]; exact H) | exact H
     have Ny122 := Aside0.mk hy122
     clear hy122
     have H' := Aside0.mk H
     clear H
     go_wp2_with (first | ((with_reducible refine gate_builtin (b := .append) (xs := #[.tmp 16, .tmp 18]) rfl ?_); at_builtin; refine Kd.R_append (Kd.int .i64) (w0 := w) w.heap.size rfl (.tmp 16) (.tmp 18) 29 3 (.int .i64 0) 8 rfl Tryd.underlying29 info3 rfl (by decide) (by omega) u3 x3_1 x4_1 [.int .i64 x4_1] (fun _ => True) (fun _ => False) rfl rfl ?aP (fun _ hk => hk.elim) ?aF ?aO ?aB ?aS ?aL ?_; (case aP => exact rfl); (case aB => exact (bl_)); (case aF => exact (fun _ _ => trivial)); (case aO => exact (kr_ HO_3.out)); (case aS => exact (below_size (bl_))); (case aL => have := LMc8.out; omega); intro v123 w9 ho hb hg hat; rw [← Ny122.out] at ho; replace HB := Aside0.mk (hb); have HO124 := Aside0.mk (ho); clear HO_3; clear ho hb hg hat))
     go_roundg k1
     case measure => have := HK1.out; omega
     case rel => exact ⟨(y122), (wrap64 (x4_1 + 1)), rs_, H', ⟨by have := HK1.out; omega⟩, ⟨kr_ HO124.out⟩, ⟨bl_⟩⟩
    ·rw [if_neg c7] at H
     have c7b0 : ((Go.bits .and .i64 (ji3) 1) == 1) = false := beq_eq_false_iff_ne.mpr c7
     have c7b1 : ((Go.bits .and .i64 (ji3) 1) != 1) = true := bne_iff_ne.mpr c7
     have H' := Aside0.mk H
     clear H
     go_wp2
     go_roundg k1
     case measure => have := HK1.out; omega
     case rel => exact ⟨(x3_1), (wrap64 (x4_1 + 1)), rs_, H', ⟨by have := HK1.out; omega⟩, ⟨kr_ HO_3.out⟩, ⟨bl_⟩⟩
   ·rw [if_neg c4] at H
    have c4b0 : decide (0 < (ji3)) = false := decide_eq_false c4
    clear c4
    obtain rfl := Option.some.inj H
    go_wp2
    go_ret
    exact ⟨_, by first | rfl | (simp [errW_none, errW_some] <;> rfl) | (simp only [← hji3]; first | rfl | (simp [errW_none, errW_some] <;> rfl)) | (simp [*, errW_none, errW_some] <;> rfl), by refine kr_ ?_; exact HO_3.out, bl_⟩

/-! ### fetch_finder_1_1: function 38 -/
def fetch_finder_1_1.f (a0 : Int) (a1 : Int) : Option (Bool) := some ((Go.bits .and .i64 a0 a1) == 0)
set_option maxHeartbeats 8000000 in
set_option maxRecDepth 100000 in
theorem fetch_finder_1_1.calls (a0 : Int) (a1 : Int) (r : Bool) (w : World) (gs : Nat) (hs : w.heap[gs]? = some (.cells #[.int .i64 a1] 3 (0, 0))) (h : fetch_finder_1_1.f a0 a1 = some r) :
    Calls Tryd.prog 38 #[.int .i64 a0, .pointer (some ⟨gs, 0, none⟩)] w fun e w' => e = .returned (.bool r) ∧ Drawn0 w w' := by
 have H : (some ((Go.bits .and .i64 a0 a1) == 0)) = some r := h
 clear h
 obtain rfl := Option.some.inj H
 have hcs_ := bc_ (Aside0.mk hs) 0 (.int .i64 a1)
 go_enter Tryd.func38, Tryd.ntmps38
 go_wp2
 go_ret
 exact ⟨by first | rfl | (simp; done) | (simp [*]; done), by repeat (first | exact Drawn0.refl _ | apply Drawn0.step)⟩

/-! ### slices_IndexFunc_int_int: function 49 -/
def slices_IndexFunc_int_int.l0 : Nat → List Int → Int → Int → Int → Option (Int)
  | 0, _, _, _, _ => none
  | k + 1, x0, x1, x7, x8 => if x8 < x7 then (if 0 ≤ x8 then (if x8 < (x0.length : Int) then ((fetch_finder_1_1.f (rd x0 x8) x1).bind fun t126 => (if t126 = true then (some x8) else (slices_IndexFunc_int_int.l0 k x0 x1 x7 (wrap64 (x8 + 1))))) else (none)) else (none)) else (some (-1))
def slices_IndexFunc_int_int.f (k : Nat) (l0 : List Int) (a1 : Int) : Option (Int) := slices_IndexFunc_int_int.l0 k l0 a1 (l0.length : Int) 0
theorem slices_IndexFunc_int_int.mono_l : ∀ k, (∀ y0 y1 y2 y3, LeO (slices_IndexFunc_int_int.l0 k y0 y1 y2 y3) (slices_IndexFunc_int_int.l0 (k + 1) y0 y1 y2 y3))
  | 0 => fun _ _ _ _ r h => by simp [slices_IndexFunc_int_int.l0] at h
  | k + 1 => by
    have ih0 := slices_IndexFunc_int_int.mono_l k
    · intro y0 y1 y2 y3
      unfold slices_IndexFunc_int_int.l0
      with_reducible repeat' first | exact ih0 _ _ _ _ | exact LeO.refl _ | exact LeO.none _ | refine LeO.ite ?_ ?_ | refine LeO.bind ?_ (fun _ => ?_)
theorem slices_IndexFunc_int_int.mono : ∀ a0 a1 k, LeO (slices_IndexFunc_int_int.f k a0 a1) (slices_IndexFunc_int_int.f (k + 1) a0 a1) := by
  intro a0 a1 k
  have ih0 := slices_IndexFunc_int_int.mono_l k
  unfold slices_IndexFunc_int_int.f
  with_reducible repeat' first | exact ih0 _ _ _ _ | exact LeO.refl _ | exact LeO.none _ | refine LeO.ite ?_ ?_ | refine LeO.bind ?_ (fun _ => ?_)
set_option maxHeartbeats 8000000 in
set_option maxRecDepth 100000 in
theorem slices_IndexFunc_int_int.calls (k : Nat) (A0 : Option Addr) (c0 : Nat) (l0 : List Int) (a1 : Int) (r : Int) (w : World) (hr0 : Kd.C (Kd.int .i64) w A0 l0.length l0) (hc0 : l0.length ≤ c0) (gs : Nat) (hs : w.heap[gs]? = some (.cells #[.int .i64 a1] 3 (0, 0))) (h : slices_IndexFunc_int_int.f k l0 a1 = some r) :
    Calls Tryd.prog 49 #[.slice A0 l0.length c0, .func (.func 38) #[] #[.pointer (some ⟨gs, 0, none⟩)]] w fun e w' => e = .returned (.int .i64 r) ∧ Drawn0 w w' := by
 have HR0 := Aside0.mk hr0
 have HC0 := Aside0.mk hc0
 clear hr0 hc0
 have H : (slices_IndexFunc_int_int.l0 k l0 a1 (l0.length : Int) 0) = some r := h
 clear h
 have H' := Aside0.mk H
 clear H
 go_enter Tryd.func49, Tryd.ntmps49
 go_wp2
 go_loopg [8] k (fun kq v8 w' => ∃ (x8_1 : Int), v8 = .int .i64 x8_1 ∧ Aside0 (slices_IndexFunc_int_int.l0 kq l0 a1 (l0.length : Int) x8_1 = some r) ∧ Aside0 (kq ≤ k) ∧ Drawn0 w w')
 case atStart => exact ⟨(0), rs_, H', ⟨Nat.le_refl _⟩, by repeat (first | exact Drawn0.refl _ | apply Drawn0.step)⟩
 case round =>
  clear H'
  try clear p2
  obtain ⟨x8_1, rfl, HA, HK1, ⟨m1, rfl⟩⟩ := hrel
  cases gk with
  | zero => exact absurd HA.out (by simp [slices_IndexFunc_int_int.l0])
  | succ k1 =>
   have H := HA.out
   clear HA
   simp only [slices_IndexFunc_int_int.l0] at H
   by_cases c3 : x8_1 < (l0.length : Int)
   ·rw [if_pos c3] at H
    have c3b0 : decide (x8_1 < (l0.length : Int)) = true := decide_eq_true c3
    clear c3
    obtain ⟨c4b0, H⟩ := fp_ H
    obtain ⟨c5b0, H⟩ := fp_ H
    obtain ⟨t126, A6, H⟩ := bi_ H
    replace H : (if t126 = true then (some x8_1) else (slices_IndexFunc_int_int.l0 k1 l0 a1 (l0.length : Int) (wrap64 (x8_1 + 1)))) = some r := H
    by_cases c7 : t126 = true
    ·subst c7
     have H1 : (some x8_1) = some r := by rw [if_pos rfl] at H; exact H
     clear H
     have H := H1
     clear H1
     obtain rfl := Option.some.inj H
     obtain ⟨ad125, e125, hx125_0, p125, q125⟩ := ai_ HR0.out x8_1
     cases e125
     go_wp2_with (first | ((with_reducible refine gate_dst (N := 16) rfl ?_); refine goesV_ (some 16) rfl rfl rfl rfl Tryd.func38 (by kernel_rfl) rfl #[.int .i64 (rd l0 x8_1), .pointer (some ⟨gs, 0, none⟩)] (as_) ?_; (with_reducible refine (fetch_finder_1_1.calls (rd l0 x8_1) a1 true _ gs (bk_ hs) A6.out).mono ?_); rintro e w' ⟨rfl, ⟨nd, rfl⟩⟩; refine ⟨_, rfl, ?_⟩))
     go_ret
     exact ⟨by first | rfl | (simp; done) | (simp [*]; done), by repeat (first | exact Drawn0.refl _ | apply Drawn0.step)⟩
    ·replace c7 := Bool.eq_false_iff.mpr c7
     subst c7
     have H1 : (slices_IndexFunc_int_int.l0 k1 l0 a1 (l0.length : Int) (wrap64 (x8_1 + 1))) = some r := by rw [if_neg (show ¬ (false = true) by decide)] at H; exact H
     clear H
     have H := H1
     clear H1
     have H' := Aside0.mk H
     clear H
     obtain ⟨ad125, e125, hx125_0, p125, q125⟩ := ai_ HR0.out x8_1
     cases e125
     go_wp2_with (first | ((with_reducible refine gate_dst (N := 16) rfl ?_); refine goesV_ (some 16) rfl rfl rfl rfl Tryd.func38 (by kernel_rfl) rfl #[.int .i64 (rd l0 x8_1), .pointer (some ⟨gs, 0, none⟩)] (as_) ?_; (with_reducible refine (fetch_finder_1_1.calls (rd l0 x8_1) a1 false _ gs (bk_ hs) A6.out).mono ?_); rintro e w' ⟨rfl, ⟨nd, rfl⟩⟩; refine ⟨_, rfl, ?_⟩))
     go_roundg k1
     case measure => have := HK1.out; omega
     case rel => exact ⟨(wrap64 (x8_1 + 1)), rs_, H', ⟨by have := HK1.out; omega⟩, by repeat (first | exact Drawn0.refl _ | apply Drawn0.step)⟩
   ·rw [if_neg c3] at H
    have c3b0 : decide (x8_1 < (l0.length : Int)) = false := decide_eq_false c3
    clear c3
    obtain rfl := Option.some.inj H
    go_wp2
    go_ret
    exact ⟨by first | rfl | (simp; done) | (simp [*]; done), by repeat (first | exact Drawn0.refl _ | apply Drawn0.step)⟩

/-! ### slices_ContainsFunc_int_int: function 37 -/
def slices_ContainsFunc_int_int.f (k : Nat) (l0 : List Int) (a1 : Int) : Option (Bool) := (slices_IndexFunc_int_int.f k l0 a1).bind fun t127 => (some (decide (t127 ≥ 0)))
theorem slices_ContainsFunc_int_int.mono : ∀ a0 a1 k, LeO (slices_ContainsFunc_int_int.f k a0 a1) (slices_ContainsFunc_int_int.f (k + 1) a0 a1) := by
  intro a0 a1 k
  unfold slices_ContainsFunc_int_int.f
  with_reducible repeat' first | exact slices_IndexFunc_int_int.mono _ _ _ | exact LeO.refl _ | exact LeO.none _ | refine LeO.ite ?_ ?_ | refine LeO.bind ?_ (fun _ => ?_)
set_option maxHeartbeats 8000000 in
set_option maxRecDepth 100000 in
theorem slices_ContainsFunc_int_int.calls (k : Nat) (A0 : Option Addr) (c0 : Nat) (l0 : List Int) (a1 : Int) (r : Bool) (w : World) (hr0 : Kd.C (Kd.int .i64) w A0 l0.length l0) (hc0 : l0.length ≤ c0) (gs : Nat) (hs : w.heap[gs]? = some (.cells #[.int .i64 a1] 3 (0, 0))) (h : slices_ContainsFunc_int_int.f k l0 a1 = some r) :
    Calls Tryd.prog 37 #[.slice A0 l0.length c0, .func (.func 38) #[] #[.pointer (some ⟨gs, 0, none⟩)]] w fun e w' => e = .returned (.bool r) ∧ Drawn0 w w' := by
 have HR0 := Aside0.mk hr0
 have HC0 := Aside0.mk hc0
 clear hr0 hc0
 have H : ((slices_IndexFunc_int_int.f k l0 a1).bind fun t127 => (some (decide (t127 ≥ 0)))) = some r := h
 clear h
 obtain ⟨t127, A3, H⟩ := bi_ H
 replace H : (some (decide (t127 ≥ 0))) = some r := H
 obtain rfl := Option.some.inj H
 go_enter Tryd.func37, Tryd.ntmps37
 go_wp2_with (first | ((with_reducible refine gate_callee (f := 49) rfl ?_); refine goesL_ (some 7) rfl rfl Tryd.func49 (by kernel_rfl) rfl #[.slice A0 l0.length c0, .func (.func 38) #[] #[.pointer (some ⟨gs, 0, none⟩)]] rfl (as_) ?_; (with_reducible refine (slices_IndexFunc_int_int.calls k _ _ l0 a1 t127 _ ?side1 ?side2 gs (bk_ hs) A3.out).mono ?_); (case side1 => repeat (first | exact HR0.out | (with_reducible refine Kd.C_alloc ?_ _) | (with_reducible refine Kd.C_drewN ?_ _) | (with_reducible refine Kd.C_drew ?_))); (case side2 => exact HC0.out); rintro e w' ⟨rfl, ⟨nd, rfl⟩⟩; refine ⟨_, rfl, ?_⟩))
 go_ret
 exact ⟨by first | rfl | (simp; done) | (simp [*]; done), by repeat (first | exact Drawn0.refl _ | apply Drawn0.step)⟩

/-! ### cmp_isNaN_int: function 55 -/
def cmp_isNaN_int.f (a0 : Int) : Option (Bool) := some (a0 != a0)
set_option maxHeartbeats 8000000 in
set_option maxRecDepth 100000 in
theorem cmp_isNaN_int.calls (a0 : Int) (r : Bool) (w : World) (h : cmp_isNaN_int.f a0 = some r) :
    Calls Tryd.prog 55 #[.int .i64 a0] w fun e w' => e = .returned (.bool r) ∧ Drawn0 w w' := by
 have H : (some (a0 != a0)) = some r := h
 clear h
 obtain rfl := Option.some.inj H
 go_enter Tryd.func55, Tryd.ntmps55
 go_wp2
 go_ret
 exact ⟨by first | rfl | (simp; done) | (simp [*]; done), by repeat (first | exact Drawn0.refl _ | apply Drawn0.step)⟩

end Go.Proofs.YtlcgoacmlbeliaaDoor.P
