-- Written by wip/tools/myprint.py of this session's repo, over the kit's printer and hand texts.
import Derived.Test.YtgobffgogmnmpaaDoorPx0
import Derived.Test.YtgobffgogmnmpaaDoorPre
import Derived.Test.YtgobffgogmnmpaaDoorPx4
import Derived.Test.YtgobffgogmnmpaaDoorPx9
import Derived.Test.YtgobffgogmnmpaaDoorPx10
import Derived.Test.YtgobffgogmnmpaaDoorPx16
import Derived.Test.YtgobffgogmnmpaaDoorPx18
namespace Go.Proofs.YtgobffgogmnmpaaDoor.P
open Go.RowKit Go.Proofs.YtgobffgogmnmpaaDoorW.PrintWords Go.Proofs.YtgobffgogmnmpaaDoorW.PrintLast Go.Proofs.YtgobffgogmnmpaaDoorW.PrintMore
attribute [local go_sem] max2_int min2_int max_two min_two max_three min_three max_four min_four   -- for this text's walks alone
set_option linter.unusedVariables false
set_option linter.unusedSimpArgs false

/-! ### trishawlaw01_TurnTijdeman: function 6 -/
mutual
def trishawlaw01_TurnTijdeman.j0 : Nat → List Int → Int → Bool → Option (Bool)
  | 0, _, _, _ => none
  | k + 1, x0, x1, x24 => if x24 = true then ((trishawlaw01_alive.f k).bind fun t494 => (some t494)) else ((turn_Fair.f k x0 (Int.tmod (wrap64 (x1)) 401)).bind fun bt495 => ((turn_Deviation.f k x0 bt495.1).bind fun bt499 => ((turn_Quota.f k x0 bt495.1).bind fun bt503 => (if bt495.2 = 0 then (if bt499.2.2 = 0 then (if bt503.2 = 0 then ((trishawlaw01_small.f bt499.1 bt499.2.1).bind fun t505 => (if t505 = true then (if bt503.1 = true then (trishawlaw01_TurnTijdeman.j1 k x0 ((bt495.1.length : Int) != (Int.tmod (wrap64 (x1)) 401)) bt499.1 bt499.2.1) else (trishawlaw01_TurnTijdeman.j1 k x0 true bt499.1 bt499.2.1)) else (trishawlaw01_TurnTijdeman.j1 k x0 true bt499.1 bt499.2.1))) else (trishawlaw01_TurnTijdeman.j1 k x0 true bt499.1 bt499.2.1)) else (trishawlaw01_TurnTijdeman.j1 k x0 true bt499.1 bt499.2.1)) else (trishawlaw01_TurnTijdeman.j1 k x0 true bt499.1 bt499.2.1)))))
def trishawlaw01_TurnTijdeman.j1 : Nat → List Int → Bool → Int → Int → Option (Bool)
  | 0, _, _, _, _ => none
  | k + 1, x0, x72, x503000, x503001 => if x72 = true then (some false) else (if (x0.length : Int) = 1 then (if x503000 = 0 then ((trishawlaw01_alive.f k).bind fun t506 => (some t506)) else (some false)) else ((trishawlaw01_atMost.f x503000 x503001 (wrap64 ((wrap64 (2 * (x0.length : Int))) - 3)) (wrap64 ((wrap64 (2 * (x0.length : Int))) - 2))).bind fun t507 => (if t507 = true then ((trishawlaw01_alive.f k).bind fun t508 => (some t508)) else (some false))))
end
def trishawlaw01_TurnTijdeman.f (k : Nat) (l0 : List Int) (a1 : Int) : Option (Bool) := (trishawref01_Shares.f k l0).bind fun bt492 => (if (l0.length : Int) > 30 then (trishawlaw01_TurnTijdeman.j0 k l0 a1 true) else (trishawlaw01_TurnTijdeman.j0 k l0 a1 (bt492.2 != 0)))
theorem trishawlaw01_TurnTijdeman.mono_l : ∀ k, (∀ y0 y1 y2, LeO (trishawlaw01_TurnTijdeman.j0 k y0 y1 y2) (trishawlaw01_TurnTijdeman.j0 (k + 1) y0 y1 y2)) ∧ (∀ y0 y1 y2 y3, LeO (trishawlaw01_TurnTijdeman.j1 k y0 y1 y2 y3) (trishawlaw01_TurnTijdeman.j1 (k + 1) y0 y1 y2 y3))
  | 0 => ⟨fun _ _ _ r h => by simp [trishawlaw01_TurnTijdeman.j0] at h, fun _ _ _ _ r h => by simp [trishawlaw01_TurnTijdeman.j1] at h⟩
  | k + 1 => by
    obtain ⟨ih0, ih1⟩ := trishawlaw01_TurnTijdeman.mono_l k
    refine ⟨?_, ?_⟩
    · intro y0 y1 y2
      unfold trishawlaw01_TurnTijdeman.j0
      repeat' first
      | (with_reducible exact ih0 _ _ _)
      | (with_reducible exact ih1 _ _ _ _)
      | (with_reducible exact trishawlaw01_alive.mono _)
      | (with_reducible exact trishawref01_Shares.mono _ _)
      | (with_reducible exact turn_Deviation.mono _ _ _)
      | (with_reducible exact turn_Fair.mono _ _ _)
      | (with_reducible exact turn_Quota.mono _ _ _)
      | (with_reducible exact LeO.refl _)
      | (with_reducible exact LeO.none _)
      | (with_reducible refine LeO.ite ?_ ?_)
      | (with_reducible refine LeO.bind ?_ (fun _ => ?_))
      | exact ih0 _ _ _
      | exact ih1 _ _ _ _
      | exact trishawlaw01_alive.mono _
      | exact trishawref01_Shares.mono _ _
      | exact turn_Deviation.mono _ _ _
      | exact turn_Fair.mono _ _ _
      | exact turn_Quota.mono _ _ _
      | exact LeO.none _
      | refine LeO.ite ?_ ?_
      | refine LeO.bind ?_ (fun _ => ?_)
    · intro y0 y1 y2 y3
      unfold trishawlaw01_TurnTijdeman.j1
      repeat' first
      | (with_reducible exact ih0 _ _ _)
      | (with_reducible exact ih1 _ _ _ _)
      | (with_reducible exact trishawlaw01_alive.mono _)
      | (with_reducible exact trishawref01_Shares.mono _ _)
      | (with_reducible exact turn_Deviation.mono _ _ _)
      | (with_reducible exact turn_Fair.mono _ _ _)
      | (with_reducible exact turn_Quota.mono _ _ _)
      | (with_reducible exact LeO.refl _)
      | (with_reducible exact LeO.none _)
      | (with_reducible refine LeO.ite ?_ ?_)
      | (with_reducible refine LeO.bind ?_ (fun _ => ?_))
      | exact ih0 _ _ _
      | exact ih1 _ _ _ _
      | exact trishawlaw01_alive.mono _
      | exact trishawref01_Shares.mono _ _
      | exact turn_Deviation.mono _ _ _
      | exact turn_Fair.mono _ _ _
      | exact turn_Quota.mono _ _ _
      | exact LeO.none _
      | refine LeO.ite ?_ ?_
      | refine LeO.bind ?_ (fun _ => ?_)
theorem trishawlaw01_TurnTijdeman.mono : ∀ a0 a1 k, LeO (trishawlaw01_TurnTijdeman.f k a0 a1) (trishawlaw01_TurnTijdeman.f (k + 1) a0 a1) := by
  intro a0 a1 k
  obtain ⟨ih0, ih1⟩ := trishawlaw01_TurnTijdeman.mono_l k
  unfold trishawlaw01_TurnTijdeman.f
  repeat' first
      | (with_reducible exact ih0 _ _ _)
      | (with_reducible exact ih1 _ _ _ _)
      | (with_reducible exact trishawlaw01_alive.mono _)
      | (with_reducible exact trishawref01_Shares.mono _ _)
      | (with_reducible exact turn_Deviation.mono _ _ _)
      | (with_reducible exact turn_Fair.mono _ _ _)
      | (with_reducible exact turn_Quota.mono _ _ _)
      | (with_reducible exact LeO.refl _)
      | (with_reducible exact LeO.none _)
      | (with_reducible refine LeO.ite ?_ ?_)
      | (with_reducible refine LeO.bind ?_ (fun _ => ?_))
      | exact ih0 _ _ _
      | exact ih1 _ _ _ _
      | exact trishawlaw01_alive.mono _
      | exact trishawref01_Shares.mono _ _
      | exact turn_Deviation.mono _ _ _
      | exact turn_Fair.mono _ _ _
      | exact turn_Quota.mono _ _ _
      | exact LeO.none _
      | refine LeO.ite ?_ ?_
      | refine LeO.bind ?_ (fun _ => ?_)
set_option maxHeartbeats 8000000 in
set_option maxRecDepth 100000 in
theorem trishawlaw01_TurnTijdeman.calls (k : Nat) (A0 : Option Addr) (c0 : Nat) (l0 : List Int) (a1 : Int) (r : Bool) (w : World) (hr0 : Kd.C (Kd.int .i64) w A0 l0.length l0) (hc0 : l0.length ≤ c0) (h : trishawlaw01_TurnTijdeman.f k l0 a1 = some r) (hN0 : NoneLaid w) (hr_ : r = true) :
    Calls Tryd.prog 6 #[.slice A0 l0.length c0, .int .u16 a1] w fun e w' => e = .returned (.bool r) ∧ Below w.heap.size w w' := by
 have HN := Aside0.mk hN0
 clear hN0
 have hr := Aside0.mk hr_
 clear hr_
 have hu26 := Tryd.underlying26
 have HR0 := Aside0.mk hr0
 have HC0 := Aside0.mk hc0
 clear hr0 hc0
 have HB := Aside0.mk (Below.refl w.heap.size w)
 have H : ((trishawref01_Shares.f k l0).bind fun bt492 => (if (l0.length : Int) > 30 then (trishawlaw01_TurnTijdeman.j0 k l0 a1 true) else (trishawlaw01_TurnTijdeman.j0 k l0 a1 (bt492.2 != 0)))) = some r := h
 clear h
 replace H := Option.bind_eq_some_iff.mp H
 obtain ⟨⟨t492, t493⟩, A30, H⟩ := H
 replace H : (if (l0.length : Int) > 30 then (trishawlaw01_TurnTijdeman.j0 k l0 a1 true) else (trishawlaw01_TurnTijdeman.j0 k l0 a1 (t493 != 0))) = some r := H
 have A3 := Aside0.mk A30
 clear A30
 have HC4 := Aside0.mk H
 clear H
 go_enter Tryd.func6, Tryd.ntmps6
 go_upto_region 2 with (first | ((with_reducible refine gate_callee (f := 23) rfl ?_); refine goesL_ (some 15) rfl rfl Tryd.func23 (by kernel_rfl) rfl #[.slice A0 l0.length c0] rfl (as_) ?_; (with_reducible refine (trishawref01_Shares.calls k _ _ l0 t492 t493 _ ?side1 ?side2 A3.out).mono ?_); (case side1 => repeat (first | exact HR0.out | (with_reducible refine Kd.C_alloc ?_ _) | (with_reducible refine Kd.C_drewN ?_ _) | (with_reducible refine Kd.C_drew ?_))); (case side2 => exact HC0.out); rintro e w' ⟨rfl, ⟨nd, rfl⟩⟩; refine ⟨_, rfl, ?_⟩))
 (try simp only [Act.put, List.setIfInBounds_toArray, List.set_cons_zero, List.set_cons_succ])
 go_cut [24] (fun v24 wc => ∃ (kq : Nat) (x24_3 : Bool), v24 = .bool x24_3 ∧ Aside0 (trishawlaw01_TurnTijdeman.j0 kq l0 a1 x24_3 = some r) ∧ Aside0 (kq ≤ k) ∧ Aside0 (Below w.heap.size w wc))
 case first =>
  have H := HC4.out
  clear HC4
  by_cases c5 : (l0.length : Int) > 30
  ·rw [if_pos c5] at H
   have c5b0 : decide (30 < (l0.length : Int)) = true := decide_eq_true c5
   have c5b1 : decide (30 < l0.length) = true := decide_eq_true (by omega)
   clear c5
   (first | rw [c5b0] | (simp only [i64_w, i32_w]; rw [c5b0]) | skip)
   have H' := Aside0.mk H
   clear H
   go_wp2
   go_meet
   case rel => exact ⟨_, (true), (by first | rfl | (simp; done) | (simp [*]; done)), H', ⟨by first | omega | exact Nat.le_refl _⟩, ⟨bl_⟩⟩
  ·rw [if_neg c5] at H
   have c5b0 : decide (30 < (l0.length : Int)) = false := decide_eq_false c5
   have c5b1 : decide (30 < l0.length) = false := decide_eq_false (by omega)
   clear c5
   (first | rw [c5b0] | (simp only [i64_w, i32_w]; rw [c5b0]) | skip)
   have H' := Aside0.mk H
   clear H
   go_wp2
   go_meet
   case rel => exact ⟨_, ((t493 != 0)), (by first | rfl | (simp; done) | (simp [*]; done)), H', ⟨by first | omega | exact Nat.le_refl _⟩, ⟨bl_⟩⟩
 case rest =>
  clear HC4
  try clear c2
  try clear p2
  try clear c5
  try clear c5b0
  try clear c5b1
  obtain ⟨kq, x24_3, rfl, HA, HJ3, HB⟩ := hcut
  cases kq with
  | zero => exact absurd HA.out (by simp [trishawlaw01_TurnTijdeman.j0])
  | succ kj3 =>
   have H := HA.out
   clear HA
   simp only [trishawlaw01_TurnTijdeman.j0] at H
   by_cases c6 : x24_3 = true
   ·subst c6
    have H1 : ((trishawlaw01_alive.f kj3).bind fun t494 => (some t494)) = some r := by rw [if_pos rfl] at H; exact H
    clear H
    have H := H1
    clear H1
    replace H := Option.bind_eq_some_iff.mp H
    obtain ⟨t494, A70, H⟩ := H
    replace H : (some t494) = some r := H
    have A7 := Aside0.mk A70
    clear A70
    obtain rfl := Option.some.inj H
    go_wp2_with (first | ((with_reducible refine gate_callee (f := 17) rfl ?_); refine goesL_ (some 25) rfl rfl Tryd.func17 (by kernel_rfl) rfl #[] rfl (as_) ?_; (with_reducible refine (trishawlaw01_alive.calls kj3  t494 _ A7.out (HN.out.of (bl_))).mono ?_); rintro e w8 ⟨rfl, hb⟩; refine ⟨_, rfl, ?_⟩; have n0_ := Aside0.mk (below_step (bl_) hb); clear HB; have HB := n0_; clear n0_; (try clear hb); (try clear hb2); (try clear hk); (try clear hi)))
    go_ret
    exact ⟨by first | rfl | (simp [errW_none, errW_some] <;> rfl) | (simp [*, errW_none, errW_some] <;> rfl), bl_⟩
   ·replace c6 := Bool.eq_false_iff.mpr c6
    subst c6
    have H1 : ((turn_Fair.f kj3 l0 (Int.tmod (wrap64 (a1)) 401)).bind fun bt495 => ((turn_Deviation.f kj3 l0 bt495.1).bind fun bt499 => ((turn_Quota.f kj3 l0 bt495.1).bind fun bt503 => (if bt495.2 = 0 then (if bt499.2.2 = 0 then (if bt503.2 = 0 then ((trishawlaw01_small.f bt499.1 bt499.2.1).bind fun t505 => (if t505 = true then (if bt503.1 = true then (trishawlaw01_TurnTijdeman.j1 kj3 l0 ((bt495.1.length : Int) != (Int.tmod (wrap64 (a1)) 401)) bt499.1 bt499.2.1) else (trishawlaw01_TurnTijdeman.j1 kj3 l0 true bt499.1 bt499.2.1)) else (trishawlaw01_TurnTijdeman.j1 kj3 l0 true bt499.1 bt499.2.1))) else (trishawlaw01_TurnTijdeman.j1 kj3 l0 true bt499.1 bt499.2.1)) else (trishawlaw01_TurnTijdeman.j1 kj3 l0 true bt499.1 bt499.2.1)) else (trishawlaw01_TurnTijdeman.j1 kj3 l0 true bt499.1 bt499.2.1))))) = some r := by rw [if_neg (show ¬ (false = true) by decide)] at H; exact H
    clear H
    have H := H1
    clear H1
    replace H := Option.bind_eq_some_iff.mp H
    obtain ⟨⟨t495, t496⟩, A90, H⟩ := H
    replace H : ((turn_Deviation.f kj3 l0 t495).bind fun bt499 => ((turn_Quota.f kj3 l0 t495).bind fun bt503 => (if t496 = 0 then (if bt499.2.2 = 0 then (if bt503.2 = 0 then ((trishawlaw01_small.f bt499.1 bt499.2.1).bind fun t505 => (if t505 = true then (if bt503.1 = true then (trishawlaw01_TurnTijdeman.j1 kj3 l0 ((t495.length : Int) != (Int.tmod (wrap64 (a1)) 401)) bt499.1 bt499.2.1) else (trishawlaw01_TurnTijdeman.j1 kj3 l0 true bt499.1 bt499.2.1)) else (trishawlaw01_TurnTijdeman.j1 kj3 l0 true bt499.1 bt499.2.1))) else (trishawlaw01_TurnTijdeman.j1 kj3 l0 true bt499.1 bt499.2.1)) else (trishawlaw01_TurnTijdeman.j1 kj3 l0 true bt499.1 bt499.2.1)) else (trishawlaw01_TurnTijdeman.j1 kj3 l0 true bt499.1 bt499.2.1)))) = some r := H
    have A9 := Aside0.mk A90
    clear A90
    replace H := Option.bind_eq_some_iff.mp H
    obtain ⟨⟨t499, t500, t501⟩, A100, H⟩ := H
    replace H : ((turn_Quota.f kj3 l0 t495).bind fun bt503 => (if t496 = 0 then (if t501 = 0 then (if bt503.2 = 0 then ((trishawlaw01_small.f t499 t500).bind fun t505 => (if t505 = true then (if bt503.1 = true then (trishawlaw01_TurnTijdeman.j1 kj3 l0 ((t495.length : Int) != (Int.tmod (wrap64 (a1)) 401)) t499 t500) else (trishawlaw01_TurnTijdeman.j1 kj3 l0 true t499 t500)) else (trishawlaw01_TurnTijdeman.j1 kj3 l0 true t499 t500))) else (trishawlaw01_TurnTijdeman.j1 kj3 l0 true t499 t500)) else (trishawlaw01_TurnTijdeman.j1 kj3 l0 true t499 t500)) else (trishawlaw01_TurnTijdeman.j1 kj3 l0 true t499 t500))) = some r := H
    have A10 := Aside0.mk A100
    clear A100
    replace H := Option.bind_eq_some_iff.mp H
    obtain ⟨⟨t503, t504⟩, A110, H⟩ := H
    replace H : (if t496 = 0 then (if t501 = 0 then (if t504 = 0 then ((trishawlaw01_small.f t499 t500).bind fun t505 => (if t505 = true then (if t503 = true then (trishawlaw01_TurnTijdeman.j1 kj3 l0 ((t495.length : Int) != (Int.tmod (wrap64 (a1)) 401)) t499 t500) else (trishawlaw01_TurnTijdeman.j1 kj3 l0 true t499 t500)) else (trishawlaw01_TurnTijdeman.j1 kj3 l0 true t499 t500))) else (trishawlaw01_TurnTijdeman.j1 kj3 l0 true t499 t500)) else (trishawlaw01_TurnTijdeman.j1 kj3 l0 true t499 t500)) else (trishawlaw01_TurnTijdeman.j1 kj3 l0 true t499 t500)) = some r := H
    have A11 := Aside0.mk A110
    clear A110
    have HC12 := Aside0.mk H
    clear H
    go_upto_region 7 with (first | ((with_reducible refine gate_callee (f := 31) rfl ?_); refine goesL_ (some 31) rfl rfl Tryd.func31 (by kernel_rfl) rfl #[.slice A0 l0.length c0, .int .i64 (Int.tmod (wrap64 (a1)) 401)] rfl (as_) ?_; (with_reducible refine (turn_Fair.calls kj3 _ _ l0 (Int.tmod (wrap64 (a1)) 401) t495 t496 _ ?side1 ?side2 A9.out).mono ?_); (case side1 => repeat (first | exact (Kd.C_below HR0.out HB.out) | (with_reducible refine Kd.C_alloc ?_ _) | (with_reducible refine Kd.C_drewN ?_ _) | (with_reducible refine Kd.C_drew ?_))); (case side2 => exact HC0.out); rintro e w13 ⟨v497, rfl, ho0, hb⟩; refine ⟨_, rfl, ?_⟩; have n0_ := Aside0.mk (Kd.R_lower ho0 (below_size (bl_))); have n1_ := Aside0.mk (below_step (bl_) hb); clear HB; have HO498 := n0_; have HB := n1_; clear n0_ n1_; (try clear hb); (try clear hb2); (try clear hk); (try clear hi); (try clear ho0); obtain ⟨Ao14, co14, eo14⟩ := Kd.R_slice HO498.out; subst eo14) | ((with_reducible refine gate_callee (f := 25) rfl ?_); refine goesL_ (some 37) rfl rfl Tryd.func25 (by kernel_rfl) rfl #[.slice A0 l0.length c0, .slice Ao14 t495.length co14] rfl (as_) ?_; (with_reducible refine (turn_Deviation.calls kj3 _ _ l0 _ _ t495 t499 t500 t501 _ ?side1 ?side2 ?side3 ?side4 A10.out).mono ?_); (case side1 => repeat (first | exact (Kd.C_below HR0.out HB.out) | (with_reducible refine Kd.C_alloc ?_ _) | (with_reducible refine Kd.C_drewN ?_ _) | (with_reducible refine Kd.C_drew ?_))); (case side2 => exact HC0.out); (case side3 => repeat (first | exact (Kd.R_reads' HO498.out).2.2 | (with_reducible refine Kd.C_alloc ?_ _) | (with_reducible refine Kd.C_drewN ?_ _) | (with_reducible refine Kd.C_drew ?_))); (case side4 => exact (Kd.R_reads' HO498.out).2.1); rintro e w15 ⟨rfl, hb⟩; refine ⟨_, rfl, ?_⟩; have n0_ := Aside0.mk (Kd.R_below (kr_ HO498.out) hb); have n1_ := Aside0.mk (below_step (bl_) hb); clear HO498; clear HB; have HO498 := n0_; have HB := n1_; clear n0_ n1_; (try clear hb); (try clear hb2); (try clear hk); (try clear hi)) | ((with_reducible refine gate_dst (N := 9) rfl ?_); (try (refine gate_guard (by rfl) ?_; dsimp only)); refine box_event ?hg (N := 9) ?hd (cs := #[.int .i64 0, .int .i64 0]) (t := 26) ?hr ?_; (case hd => rfl); (case hg => rfl); (case hr => first | (go_simp; done) | (go_simp; rfl)); intro gb502 hg w16 hbox hb; have n0_ := Aside0.mk (Kd.R_below (kr_ HO498.out) hb); have n1_ := Aside0.mk (below_step (bl_) hb); have n2_ := Aside0.mk (hbox); have n3_ := Aside0.mk ((by rw [hg]; exact (below_size (bl_)) : w.heap.size ≤ gb502)); have n4_ := Aside0.mk ((by rw [hg]; exact (below_size (bl_)) : w.heap.size ≤ gb502)); clear HO498; clear HB; have HO498 := n0_; have HB := n1_; have BK502 := n2_; have GW502 := n3_; have GE502 := n4_; clear n0_ n1_ n2_ n3_ n4_; clear hb hbox hg; have hcz17_0 : w16.cell? ⟨gb502, 0, none⟩ = some (.int .i64 0) := (blk_cell BK502.out 0).trans rfl; have hcz17_1 : w16.cell? ⟨gb502, 1, none⟩ = some (.int .i64 0) := (blk_cell BK502.out 1).trans rfl; have hfz17_0 := blk_frozen BK502.out 0; have hfz17_1 := blk_frozen BK502.out 1) | ((with_reducible refine gate_callee (f := 29) rfl ?_); refine goesL_ (some 43) rfl rfl Tryd.func29 (by kernel_rfl) rfl #[.slice A0 l0.length c0, .slice Ao14 t495.length co14] rfl (as_) ?_; (with_reducible refine (turn_Quota.calls kj3 _ _ l0 _ _ t495 t503 t504 _ ?side1 ?side2 ?side3 ?side4 A11.out).mono ?_); (case side1 => exact Kd.C_below HR0.out (bl_)); (case side2 => exact HC0.out); (case side3 => refine (Kd.R_reads' (e := 3) (base := w.heap.size) (ok := fun k_ => True) (n := t495.length) (c := co14) ?_).2.2; exact (by (with_reducible repeat (first | apply Kd.R_alloc | apply Kd.R_drewN | apply Kd.R_drew)); exact (Kd.R_mono (Kd.R_far (p := ⟨gb502, 1, none⟩) (Kd.R_far (p := ⟨gb502, 0, none⟩) (Kd.R_types HO498.out BK502.out (by decide)) (fun _ hk => hk.2) (.int .i64 t499)) (fun _ hk => hk.2) (.int .i64 t500)) (fun _ h_ => h_.1)))); (case side4 => exact (Kd.R_reads' HO498.out).2.1); rintro e w18 ⟨rfl, hb⟩; refine ⟨_, rfl, ?_⟩; have n0_ := Aside0.mk (Kd.R_below (by (with_reducible repeat (first | apply Kd.R_alloc | apply Kd.R_drewN | apply Kd.R_drew)); exact (Kd.R_mono (Kd.R_far (p := ⟨gb502, 1, none⟩) (Kd.R_far (p := ⟨gb502, 0, none⟩) (Kd.R_types HO498.out BK502.out (by decide)) (fun _ hk => hk.2) (.int .i64 t499)) (fun _ hk => hk.2) (.int .i64 t500)) (fun _ h_ => h_.1))) hb); have n1_ := Aside0.mk (blk_below (g := gb502) (o := .cells #[.int .i64 t499, .int .i64 t500] 26 (0, 0)) (by (with_reducible repeat (first | refine blk_drewN ?_ _ | refine blk_drew ?_ | refine blk_alloc ?_ _)); refine blk_put (cs := #[.int .i64 t499, .int .i64 0]) ?_ 1 _ rfl; (with_reducible repeat (first | refine blk_drewN ?_ _ | refine blk_drew ?_ | refine blk_alloc ?_ _)); refine blk_put (cs := #[.int .i64 0, .int .i64 0]) ?_ 0 _ rfl; (with_reducible repeat (first | refine blk_drewN ?_ _ | refine blk_drew ?_ | refine blk_alloc ?_ _)); exact BK502.out) hb); have n2_ := Aside0.mk (below_step (bl_) hb); clear HO498; clear BK502; clear HB; have HO498 := n0_; have BK502 := n1_; have HB := n2_; clear n0_ n1_ n2_; (try clear hb); (try clear hb2); (try clear hk); (try clear hi)))
    (try simp only [Act.put, List.setIfInBounds_toArray, List.set_cons_zero, List.set_cons_succ])
    go_cut [72] (fun v72 wc => ∃ (kq : Nat) (x72_11 : Bool), v72 = .bool x72_11 ∧ Aside0 (trishawlaw01_TurnTijdeman.j1 kq l0 x72_11 t499 t500 = some r) ∧ Aside0 (kq ≤ kj3) ∧ Aside0 (wc.heap[gb502]? = some (.cells #[.int .i64 t499, .int .i64 t500] 26 (0, 0))) ∧ Aside0 (Below w.heap.size w wc))
    case first =>
     have H := HC12.out
     clear HC12
     by_cases c19 : t496 = 0
     ·rw [if_pos c19] at H
      have c19b0 : (t496 == 0) = true := beq_iff_eq.mpr c19
      have c19b1 : (t496 != 0) = false := bne_eq_false_iff_eq.mpr c19
      clear c19
      (first | rw [c19b0] | (simp only [i64_w, i32_w]; rw [c19b0]) | skip)
      by_cases c20 : t501 = 0
      ·rw [if_pos c20] at H
       have c20b0 : (t501 == 0) = true := beq_iff_eq.mpr c20
       have c20b1 : (t501 != 0) = false := bne_eq_false_iff_eq.mpr c20
       clear c20
       by_cases c21 : t504 = 0
       ·rw [if_pos c21] at H
        have c21b0 : (t504 == 0) = true := beq_iff_eq.mpr c21
        have c21b1 : (t504 != 0) = false := bne_eq_false_iff_eq.mpr c21
        clear c21
        replace H := Option.bind_eq_some_iff.mp H
        obtain ⟨t505, A220, H⟩ := H
        replace H : (if t505 = true then (if t503 = true then (trishawlaw01_TurnTijdeman.j1 kj3 l0 ((t495.length : Int) != (Int.tmod (wrap64 (a1)) 401)) t499 t500) else (trishawlaw01_TurnTijdeman.j1 kj3 l0 true t499 t500)) else (trishawlaw01_TurnTijdeman.j1 kj3 l0 true t499 t500)) = some r := H
        have A22 := Aside0.mk A220
        clear A220
        by_cases c23 : t505 = true
        ·subst c23
         have H1 : (if t503 = true then (trishawlaw01_TurnTijdeman.j1 kj3 l0 ((t495.length : Int) != (Int.tmod (wrap64 (a1)) 401)) t499 t500) else (trishawlaw01_TurnTijdeman.j1 kj3 l0 true t499 t500)) = some r := by rw [if_pos rfl] at H; exact H
         clear H
         have H := H1
         clear H1
         by_cases c24 : t503 = true
         ·subst c24
          have H1 : (trishawlaw01_TurnTijdeman.j1 kj3 l0 ((t495.length : Int) != (Int.tmod (wrap64 (a1)) 401)) t499 t500) = some r := by rw [if_pos rfl] at H; exact H
          clear H
          have H := H1
          clear H1
          have H' := Aside0.mk H
          clear H
          have hcz25_0 : w18.cell? ⟨gb502, 0, none⟩ = some (.int .i64 t499) := (blk_cell BK502.out 0).trans rfl
          have hcz25_1 : w18.cell? ⟨gb502, 1, none⟩ = some (.int .i64 t500) := (blk_cell BK502.out 1).trans rfl
          have hfz25_0 := blk_frozen BK502.out 0
          have hfz25_1 := blk_frozen BK502.out 1
          go_wp2_with (first | (go_at_call 26; (with_reducible refine (trishawlaw01_small.calls t499 t500 true _ A22.out).mono ?_); rintro e w26 ⟨rfl, hb⟩; have n0_ := Aside0.mk (Kd.R_below (kr_ HO498.out) hb); have n1_ := Aside0.mk (blk_below (g := gb502) (o := .cells #[.int .i64 t499, .int .i64 t500] 26 (0, 0)) (bk_ BK502.out) hb); have n2_ := Aside0.mk (below_step (bl_) hb); clear HO498; clear BK502; clear HB; have HO498 := n0_; have BK502 := n1_; have HB := n2_; clear n0_ n1_ n2_; (try clear hb); (try clear hb2); (try clear hk); (try clear hi)))
          go_meet
          case rel => exact ⟨_, (((t495.length : Int) != (Int.tmod (wrap64 (a1)) 401))), (by first | rfl | (simp; done) | (simp [*]; done)), H', ⟨by have := HJ3.out; first | omega | exact Nat.le_refl _⟩, ⟨bk_ BK502.out⟩, ⟨bl_⟩⟩
         ·replace c24 := Bool.eq_false_iff.mpr c24
          subst c24
          have H1 : (trishawlaw01_TurnTijdeman.j1 kj3 l0 true t499 t500) = some r := by rw [if_neg (show ¬ (false = true) by decide)] at H; exact H
          clear H
          have H := H1
          clear H1
          have H' := Aside0.mk H
          clear H
          have hcz27_0 : w18.cell? ⟨gb502, 0, none⟩ = some (.int .i64 t499) := (blk_cell BK502.out 0).trans rfl
          have hcz27_1 : w18.cell? ⟨gb502, 1, none⟩ = some (.int .i64 t500) := (blk_cell BK502.out 1).trans rfl
          have hfz27_0 := blk_frozen BK502.out 0
          have hfz27_1 := blk_frozen BK502.out 1
          go_wp2_with (first | (go_at_call 26; (with_reducible refine (trishawlaw01_small.calls t499 t500 true _ A22.out).mono ?_); rintro e w28 ⟨rfl, hb⟩; have n0_ := Aside0.mk (Kd.R_below (kr_ HO498.out) hb); have n1_ := Aside0.mk (blk_below (g := gb502) (o := .cells #[.int .i64 t499, .int .i64 t500] 26 (0, 0)) (bk_ BK502.out) hb); have n2_ := Aside0.mk (below_step (bl_) hb); clear HO498; clear BK502; clear HB; have HO498 := n0_; have BK502 := n1_; have HB := n2_; clear n0_ n1_ n2_; (try clear hb); (try clear hb2); (try clear hk); (try clear hi)))
          go_meet
          case rel => exact ⟨_, (true), (by first | rfl | (simp; done) | (simp [*]; done)), H', ⟨by have := HJ3.out; first | omega | exact Nat.le_refl _⟩, ⟨bk_ BK502.out⟩, ⟨bl_⟩⟩
        ·replace c23 := Bool.eq_false_iff.mpr c23
         subst c23
         have H1 : (trishawlaw01_TurnTijdeman.j1 kj3 l0 true t499 t500) = some r := by rw [if_neg (show ¬ (false = true) by decide)] at H; exact H
         clear H
         have H := H1
         clear H1
         have H' := Aside0.mk H
         clear H
         have hcz29_0 : w18.cell? ⟨gb502, 0, none⟩ = some (.int .i64 t499) := (blk_cell BK502.out 0).trans rfl
         have hcz29_1 : w18.cell? ⟨gb502, 1, none⟩ = some (.int .i64 t500) := (blk_cell BK502.out 1).trans rfl
         have hfz29_0 := blk_frozen BK502.out 0
         have hfz29_1 := blk_frozen BK502.out 1
         go_wp2_with (first | (go_at_call 26; (with_reducible refine (trishawlaw01_small.calls t499 t500 false _ A22.out).mono ?_); rintro e w30 ⟨rfl, hb⟩; have n0_ := Aside0.mk (Kd.R_below (kr_ HO498.out) hb); have n1_ := Aside0.mk (blk_below (g := gb502) (o := .cells #[.int .i64 t499, .int .i64 t500] 26 (0, 0)) (bk_ BK502.out) hb); have n2_ := Aside0.mk (below_step (bl_) hb); clear HO498; clear BK502; clear HB; have HO498 := n0_; have BK502 := n1_; have HB := n2_; clear n0_ n1_ n2_; (try clear hb); (try clear hb2); (try clear hk); (try clear hi)))
         go_meet
         case rel => exact ⟨_, (true), (by first | rfl | (simp; done) | (simp [*]; done)), H', ⟨by have := HJ3.out; first | omega | exact Nat.le_refl _⟩, ⟨bk_ BK502.out⟩, ⟨bl_⟩⟩
       ·rw [if_neg c21] at H
        have c21b0 : (t504 == 0) = false := beq_eq_false_iff_ne.mpr c21
        have c21b1 : (t504 != 0) = true := bne_iff_ne.mpr c21
        have H' := Aside0.mk H
        clear H
        go_wp2
        go_meet
        case rel => exact ⟨_, (true), (by first | rfl | (simp; done) | (simp [*]; done)), H', ⟨by have := HJ3.out; first | omega | exact Nat.le_refl _⟩, ⟨bk_ BK502.out⟩, ⟨bl_⟩⟩
      ·rw [if_neg c20] at H
       have c20b0 : (t501 == 0) = false := beq_eq_false_iff_ne.mpr c20
       have c20b1 : (t501 != 0) = true := bne_iff_ne.mpr c20
       have H' := Aside0.mk H
       clear H
       go_wp2
       go_meet
       case rel => exact ⟨_, (true), (by first | rfl | (simp; done) | (simp [*]; done)), H', ⟨by have := HJ3.out; first | omega | exact Nat.le_refl _⟩, ⟨bk_ BK502.out⟩, ⟨bl_⟩⟩
     ·rw [if_neg c19] at H
      have c19b0 : (t496 == 0) = false := beq_eq_false_iff_ne.mpr c19
      have c19b1 : (t496 != 0) = true := bne_iff_ne.mpr c19
      (first | rw [c19b0] | (simp only [i64_w, i32_w]; rw [c19b0]) | skip)
      have H' := Aside0.mk H
      clear H
      go_wp2
      go_meet
      case rel => exact ⟨_, (true), (by first | rfl | (simp; done) | (simp [*]; done)), H', ⟨by have := HJ3.out; first | omega | exact Nat.le_refl _⟩, ⟨bk_ BK502.out⟩, ⟨bl_⟩⟩
    case rest =>
     clear HC12
     try clear c1
     try clear c2
     try clear p2
     try clear c3
     try clear c5
     try clear c5b0
     try clear c5b1
     try clear c6
     try clear p6
     try clear c17
     try clear c19
     try clear c19b0
     try clear c19b1
     try clear c20
     try clear c20b0
     try clear c20b1
     try clear c21
     try clear c21b0
     try clear c21b1
     try clear c23
     try clear c24
     try clear c25
     try clear c29
     try clear hcz17_0
     try clear hcz17_1
     try clear hcz25_0
     try clear hcz25_1
     try clear hcz27_0
     try clear hcz27_1
     try clear hcz29_0
     try clear hcz29_1
     try clear hfz17_0
     try clear hfz17_1
     try clear hfz25_0
     try clear hfz25_1
     try clear hfz27_0
     try clear hfz27_1
     try clear hfz29_0
     try clear hfz29_1
     try clear p2
     obtain ⟨kq, x72_11, rfl, HA, HJ11, BK502, HB⟩ := hcut
     cases kq with
     | zero => exact absurd HA.out (by simp [trishawlaw01_TurnTijdeman.j1])
     | succ kj11 =>
      have H := HA.out
      clear HA
      simp only [trishawlaw01_TurnTijdeman.j1] at H
      by_cases c31 : x72_11 = true
      ·subst c31
       have H1 : (some false) = some r := by rw [if_pos rfl] at H; exact H
       clear H
       have H := H1
       clear H1
       exact absurd (Option.some.inj (H.trans (congrArg some hr.out))) (by decide)
      ·replace c31 := Bool.eq_false_iff.mpr c31
       subst c31
       have H1 : (if (l0.length : Int) = 1 then (if t499 = 0 then ((trishawlaw01_alive.f kj11).bind fun t506 => (some t506)) else (some false)) else ((trishawlaw01_atMost.f t499 t500 (wrap64 ((wrap64 (2 * (l0.length : Int))) - 3)) (wrap64 ((wrap64 (2 * (l0.length : Int))) - 2))).bind fun t507 => (if t507 = true then ((trishawlaw01_alive.f kj11).bind fun t508 => (some t508)) else (some false)))) = some r := by rw [if_neg (show ¬ (false = true) by decide)] at H; exact H
       clear H
       have H := H1
       clear H1
       by_cases c32 : (l0.length : Int) = 1
       ·rw [if_pos c32] at H
        have c32b0 : ((l0.length : Int) == 1) = true := beq_iff_eq.mpr c32
        have c32b1 : ((l0.length : Int) != 1) = false := bne_eq_false_iff_eq.mpr c32
        clear c32
        by_cases c33 : t499 = 0
        ·rw [if_pos c33] at H
         have c33b0 : (t499 == 0) = true := beq_iff_eq.mpr c33
         have c33b1 : (t499 != 0) = false := bne_eq_false_iff_eq.mpr c33
         clear c33
         replace H := Option.bind_eq_some_iff.mp H
         obtain ⟨t506, A340, H⟩ := H
         replace H : (some t506) = some r := H
         have A34 := Aside0.mk A340
         clear A340
         obtain rfl := Option.some.inj H
         have hcz35_0 : wc.cell? ⟨gb502, 0, none⟩ = some (.int .i64 t499) := (blk_cell BK502.out 0).trans rfl
         have hcz35_1 : wc.cell? ⟨gb502, 1, none⟩ = some (.int .i64 t500) := (blk_cell BK502.out 1).trans rfl
         have hfz35_0 := blk_frozen BK502.out 0
         have hfz35_1 := blk_frozen BK502.out 1
         go_wp2_with (first | (go_at_call 17; (with_reducible refine (trishawlaw01_alive.calls kj11  t506 _ A34.out (HN.out.of (bl_))).mono ?_); rintro e w36 ⟨rfl, hb⟩; have n0_ := Aside0.mk (blk_below (g := gb502) (o := .cells #[.int .i64 t499, .int .i64 t500] 26 (0, 0)) (bk_ BK502.out) hb); have n1_ := Aside0.mk (below_step (bl_) hb); clear BK502; clear HB; have BK502 := n0_; have HB := n1_; clear n0_ n1_; (try clear hb); (try clear hb2); (try clear hk); (try clear hi)))
         go_ret
         exact ⟨by first | rfl | (simp [errW_none, errW_some] <;> rfl) | (simp [*, errW_none, errW_some] <;> rfl), bl_⟩
        ·rw [if_neg c33] at H
         have c33b0 : (t499 == 0) = false := beq_eq_false_iff_ne.mpr c33
         have c33b1 : (t499 != 0) = true := bne_iff_ne.mpr c33
         exact absurd (Option.some.inj (H.trans (congrArg some hr.out))) (by decide)
       ·rw [if_neg c32] at H
        have c32b0 : ((l0.length : Int) == 1) = false := beq_eq_false_iff_ne.mpr c32
        have c32b1 : ((l0.length : Int) != 1) = true := bne_iff_ne.mpr c32
        replace H := Option.bind_eq_some_iff.mp H
        obtain ⟨t507, A380, H⟩ := H
        replace H : (if t507 = true then ((trishawlaw01_alive.f kj11).bind fun t508 => (some t508)) else (some false)) = some r := H
        have A38 := Aside0.mk A380
        clear A380
        by_cases c39 : t507 = true
        ·subst c39
         have H1 : ((trishawlaw01_alive.f kj11).bind fun t508 => (some t508)) = some r := by rw [if_pos rfl] at H; exact H
         clear H
         have H := H1
         clear H1
         replace H := Option.bind_eq_some_iff.mp H
         obtain ⟨t508, A400, H⟩ := H
         replace H : (some t508) = some r := H
         have A40 := Aside0.mk A400
         clear A400
         obtain rfl := Option.some.inj H
         have hcz41_0 : wc.cell? ⟨gb502, 0, none⟩ = some (.int .i64 t499) := (blk_cell BK502.out 0).trans rfl
         have hcz41_1 : wc.cell? ⟨gb502, 1, none⟩ = some (.int .i64 t500) := (blk_cell BK502.out 1).trans rfl
         have hfz41_0 := blk_frozen BK502.out 0
         have hfz41_1 := blk_frozen BK502.out 1
         go_wp2_with (first | ((with_reducible refine gate_callee (f := 27) rfl ?_); refine goesL_ (some 92) rfl rfl Tryd.func27 (by kernel_rfl) rfl #[.agg #[.int .i64 t499, .int .i64 t500], .agg #[.int .i64 (wrap64 ((wrap64 (2 * (l0.length : Int))) - 3)), .int .i64 (wrap64 ((wrap64 (2 * (l0.length : Int))) - 2))]] rfl (as_) ?_; (with_reducible refine (trishawlaw01_atMost.calls t499 t500 (wrap64 ((wrap64 (2 * (l0.length : Int))) - 3)) (wrap64 ((wrap64 (2 * (l0.length : Int))) - 2)) true _ A38.out).mono ?_); rintro e w42 ⟨rfl, hb⟩; refine ⟨_, rfl, ?_⟩; have n0_ := Aside0.mk (blk_below (g := gb502) (o := .cells #[.int .i64 t499, .int .i64 t500] 26 (0, 0)) (bk_ BK502.out) hb); have n1_ := Aside0.mk (below_step (bl_) hb); clear BK502; clear HB; have BK502 := n0_; have HB := n1_; clear n0_ n1_; (try clear hb); (try clear hb2); (try clear hk); (try clear hi)) | (go_at_call 17; (with_reducible refine (trishawlaw01_alive.calls kj11  t508 _ A40.out (HN.out.of (bl_))).mono ?_); rintro e w43 ⟨rfl, hb⟩; have n0_ := Aside0.mk (blk_below (g := gb502) (o := .cells #[.int .i64 t499, .int .i64 t500] 26 (0, 0)) (bk_ BK502.out) hb); have n1_ := Aside0.mk (below_step (bl_) hb); clear BK502; clear HB; have BK502 := n0_; have HB := n1_; clear n0_ n1_; (try clear hb); (try clear hb2); (try clear hk); (try clear hi)))
         go_ret
         exact ⟨by first | rfl | (simp [errW_none, errW_some] <;> rfl) | (simp [*, errW_none, errW_some] <;> rfl), bl_⟩
        ·replace c39 := Bool.eq_false_iff.mpr c39
         subst c39
         have H1 : (some false) = some r := by rw [if_neg (show ¬ (false = true) by decide)] at H; exact H
         clear H
         have H := H1
         clear H1
         exact absurd (Option.some.inj (H.trans (congrArg some hr.out))) (by decide)
/-- THE ONE PURE STATEMENT of trishawlaw01_TurnTijdeman: yours. -/
def trishawlaw01_TurnTijdeman.Pure : Prop := ∀ (l0 : List Int) (a1 : Int), l0.length ≤ maxLen → l0.length * 8 ≤ 140737488351232 → (∀ x ∈ l0, (Lit.int .i64 x).wf = true) → (Lit.int .u16 a1).wf = true → ∃ k, trishawlaw01_TurnTijdeman.f k l0 a1 = some true
theorem trishawlaw01_TurnTijdeman.walk (P : trishawlaw01_TurnTijdeman.Pure) (a0 : Option Addr) (len0 cap0 : Nat) (z0 : List Int) (a1 : Int) (w : World) (w0 : (a0 = none ∧ len0 = 0 ∧ cap0 = 0 ∧ z0 = []) ∨ ∃ x, a0 = some x ∧ len0 ≤ cap0 ∧ cap0 ≤ maxLen ∧ z0.length = cap0 ∧ (∀ i, i < z0.length → w.cell? (x.add i) = some (.int .i64 (z0.getD i 0))) ∧ ∀ n ∈ z0, (Lit.int .i64 n).wf = true) (y0 : len0 * 8 ≤ 140737488351232) (w1 : (Lit.int .u16 a1).wf = true) (hN0 : NoneLaid w) :
    Calls Tryd.prog 6 #[.slice a0 len0 cap0, .int .u16 a1] w fun e w' => e = .returned (.bool true) ∧ Below w.heap.size w w' := by
 obtain ⟨l0, rfl, hr0, hm0, hw0, hc0⟩ := ReadsInt.ofRowC w0
 obtain ⟨k, h⟩ := P l0 a1 hm0 y0 hw0 w1
 refine (trishawlaw01_TurnTijdeman.calls k _ _ l0 a1 true w (Kd.C_of_reads (d := (0 : Int)) (h1 := fun _ => rfl) hr0) hc0 h hN0 rfl).mono ?_
 rintro e w' ⟨rfl, hd⟩
 exact ⟨rfl, hd⟩

end Go.Proofs.YtgobffgogmnmpaaDoor.P
