-- Written by wip/tools/myprint.py of this session's repo, over the kit's printer and hand texts.
import Derived.Test.YtlcgoacmlbeliaaPx0
import Derived.Test.YtlcgoacmlbeliaaPre
import Derived.Test.YtlcgoacmlbeliaaPx2
import Derived.Test.YtlcgoacmlbeliaaPx7
import Derived.Test.YtlcgoacmlbeliaaPx9
namespace Go.Proofs.Ytlcgoacmlbeliaa.P
open Go.RowKit Go.Proofs.YtlcgoacmlbeliaaW.PrintWords Go.Proofs.YtlcgoacmlbeliaaW.PrintLast Go.Proofs.YtlcgoacmlbeliaaW.PrintMore
attribute [local go_sem] max2_int min2_int max_two min_two max_three min_three max_four min_four   -- for this text's walks alone
set_option linter.unusedVariables false
set_option linter.unusedSimpArgs false

/-! ### trishawtop_TopTrees: function 3 -/
mutual
def trishawtop_TopTrees.j0 : Nat → Int → List (S37) → Int → Bool → Option (Bool)
  | 0, _, _, _, _ => none
  | k + 1, x0, x1, x2, x21 => if x21 = true then ((trishawtop_streets.f k).bind fun t290 => (some t290)) else ((oneway_Bridges.f k x0 x1).bind fun bt291 => (if bt291.2 = 0 then ((trishawtop_trees.f k x0 x1 (-1)).bind fun bt296 => (if bt296.2 = 0 then (if bt296.1 < 0 then (trishawtop_TopTrees.j1 k x0 x1 x2 bt291.1 bt296.1 true) else (if (bt291.1.length : Int) = (wrap64 (x0 - 1)) then (if (x1.length : Int) = (wrap64 (x0 - 1)) then (trishawtop_TopTrees.j1 k x0 x1 x2 bt291.1 bt296.1 (bt296.1 != 1)) else (trishawtop_TopTrees.j1 k x0 x1 x2 bt291.1 bt296.1 false)) else (trishawtop_TopTrees.j1 k x0 x1 x2 bt291.1 bt296.1 false))) else (trishawtop_TopTrees.j1 k x0 x1 x2 bt291.1 bt296.1 true))) else (if (bt291.1.length : Int) = 0 then ((trishawtop_streets.f k).bind fun t295 => (some t295)) else (some false))))
def trishawtop_TopTrees.j1 : Nat → Int → List (S37) → Int → List Int → Int → Bool → Option (Bool)
  | 0, _, _, _, _, _, _ => none
  | k + 1, x0, x1, x2, x7, x9, x66 => if x66 = true then (some false) else (if (x1.length : Int) = 0 then (if x9 = 0 then ((trishawtop_streets.f k).bind fun t298 => (some t298)) else (some false)) else ((trishawtop_trees.f k x0 x1 (Int.tmod (wrap64 (x2)) (x1.length : Int))).bind fun bt299 => (trishawtop_TopTrees.l0 k x7 x9 bt299.2 (Int.tmod (wrap64 (x2)) (x1.length : Int)) bt299.1 false 0)))
def trishawtop_TopTrees.l0 : Nat → List Int → Int → Int → Int → Int → Bool → Int → Option (Bool)
  | 0, _, _, _, _, _, _, _ => none
  | k + 1, x7, x9, x10, x11, x12, x13, x14 => if x14 < (x7.length : Int) then (if x13 = true then (trishawtop_TopTrees.l0 k x7 x9 x10 x11 x12 true (wrap64 (x14 + 1))) else (if 0 ≤ x14 then (trishawtop_TopTrees.l0 k x7 x9 x10 x11 x12 ((rd x7 x14) == x11) (wrap64 (x14 + 1))) else (none))) else (if x10 = 0 then (if x12 ≤ x9 then (if x9 = 0 then ((trishawtop_streets.f k).bind fun t302 => (some t302)) else (if (x13 == (x12 == 0)) = true then ((trishawtop_streets.f k).bind fun t303 => (some t303)) else (some false))) else (some false)) else (some false))
end
def trishawtop_TopTrees.f (k : Nat) (a0 : Int) (l1 : List (S37)) (a2 : Int) : Option (Bool) := if (l1.length : Int) > 14 then (trishawtop_TopTrees.j0 k a0 l1 a2 true) else (trishawtop_TopTrees.j0 k a0 l1 a2 (decide (a0 < 2)))
theorem trishawtop_TopTrees.mono_l : ∀ k, (∀ y0 y1 y2 y3, LeO (trishawtop_TopTrees.j0 k y0 y1 y2 y3) (trishawtop_TopTrees.j0 (k + 1) y0 y1 y2 y3)) ∧ (∀ y0 y1 y2 y3 y4 y5, LeO (trishawtop_TopTrees.j1 k y0 y1 y2 y3 y4 y5) (trishawtop_TopTrees.j1 (k + 1) y0 y1 y2 y3 y4 y5)) ∧ (∀ y0 y1 y2 y3 y4 y5 y6, LeO (trishawtop_TopTrees.l0 k y0 y1 y2 y3 y4 y5 y6) (trishawtop_TopTrees.l0 (k + 1) y0 y1 y2 y3 y4 y5 y6))
  | 0 => ⟨fun _ _ _ _ r h => by simp [trishawtop_TopTrees.j0] at h, fun _ _ _ _ _ _ r h => by simp [trishawtop_TopTrees.j1] at h, fun _ _ _ _ _ _ _ r h => by simp [trishawtop_TopTrees.l0] at h⟩
  | k + 1 => by
    obtain ⟨ih0, ih1, ih2⟩ := trishawtop_TopTrees.mono_l k
    refine ⟨?_, ?_, ?_⟩
    · intro y0 y1 y2 y3
      unfold trishawtop_TopTrees.j0
      with_reducible repeat' first | exact ih0 _ _ _ _ | exact ih1 _ _ _ _ _ _ | exact ih2 _ _ _ _ _ _ _ | exact oneway_Bridges.mono _ _ _ | exact trishawtop_streets.mono _ | exact trishawtop_trees.mono _ _ _ _ | exact LeO.refl _ | exact LeO.none _ | refine LeO.ite ?_ ?_ | refine LeO.bind ?_ (fun _ => ?_)
    · intro y0 y1 y2 y3 y4 y5
      unfold trishawtop_TopTrees.j1
      with_reducible repeat' first | exact ih0 _ _ _ _ | exact ih1 _ _ _ _ _ _ | exact ih2 _ _ _ _ _ _ _ | exact oneway_Bridges.mono _ _ _ | exact trishawtop_streets.mono _ | exact trishawtop_trees.mono _ _ _ _ | exact LeO.refl _ | exact LeO.none _ | refine LeO.ite ?_ ?_ | refine LeO.bind ?_ (fun _ => ?_)
    · intro y0 y1 y2 y3 y4 y5 y6
      unfold trishawtop_TopTrees.l0
      with_reducible repeat' first | exact ih0 _ _ _ _ | exact ih1 _ _ _ _ _ _ | exact ih2 _ _ _ _ _ _ _ | exact oneway_Bridges.mono _ _ _ | exact trishawtop_streets.mono _ | exact trishawtop_trees.mono _ _ _ _ | exact LeO.refl _ | exact LeO.none _ | refine LeO.ite ?_ ?_ | refine LeO.bind ?_ (fun _ => ?_)
theorem trishawtop_TopTrees.mono : ∀ a0 a1 a2 k, LeO (trishawtop_TopTrees.f k a0 a1 a2) (trishawtop_TopTrees.f (k + 1) a0 a1 a2) := by
  intro a0 a1 a2 k
  obtain ⟨ih0, ih1, ih2⟩ := trishawtop_TopTrees.mono_l k
  unfold trishawtop_TopTrees.f
  with_reducible repeat' first | exact ih0 _ _ _ _ | exact ih1 _ _ _ _ _ _ | exact ih2 _ _ _ _ _ _ _ | exact oneway_Bridges.mono _ _ _ | exact trishawtop_streets.mono _ | exact trishawtop_trees.mono _ _ _ _ | exact LeO.refl _ | exact LeO.none _ | refine LeO.ite ?_ ?_ | refine LeO.bind ?_ (fun _ => ?_)
set_option maxHeartbeats 8000000 in
set_option maxRecDepth 100000 in
theorem trishawtop_TopTrees.calls (k : Nat) (a0 : Int) (A1 : Option Addr) (c1 : Nat) (l1 : List (S37)) (a2 : Int) (r : Bool) (w : World) (hr1 : Kd.C k37 w A1 l1.length l1) (hc1 : l1.length ≤ c1) (h : trishawtop_TopTrees.f k a0 l1 a2 = some r) :
    Calls Try.prog 3 #[.int .i64 a0, .slice A1 l1.length c1, .int .u8 a2] w fun e w' => e = .returned (.bool r) ∧ Below w.heap.size w w' := by
 have HR1 := Aside0.mk hr1
 have HC1 := Aside0.mk hc1
 clear hr1 hc1
 have HB := Aside0.mk (Below.refl w.heap.size w)
 have H : (if (l1.length : Int) > 14 then (trishawtop_TopTrees.j0 k a0 l1 a2 true) else (trishawtop_TopTrees.j0 k a0 l1 a2 (decide (a0 < 2)))) = some r := h
 clear h
 have HC4 := Aside0.mk H
 clear H
 go_enter Try.func3, Try.ntmps3
 go_upto_region 1 with (fail)
 go_cut [21] (fun v21 wc => ∃ (kq : Nat) (x21_3 : Bool), v21 = .bool x21_3 ∧ Aside0 (trishawtop_TopTrees.j0 kq a0 l1 a2 x21_3 = some r) ∧ Aside0 (kq ≤ k) ∧ Aside0 (Below w.heap.size w wc))
 case first =>
  have H := HC4.out
  clear HC4
  by_cases c5 : (l1.length : Int) > 14
  ·rw [if_pos c5] at H
   have c5b0 : decide (14 < (l1.length : Int)) = true := decide_eq_true c5
   have c5b1 : decide (14 < l1.length) = true := decide_eq_true (by omega)
   clear c5
   (first | rw [c5b0] | (simp only [i64_w, i32_w]; rw [c5b0]) | skip)
   have H' := Aside0.mk H
   clear H
   go_wp2
   go_meet
   case rel => exact ⟨_, (true), rs_, H', ⟨by first | omega | exact Nat.le_refl _⟩, ⟨bl_⟩⟩
  ·rw [if_neg c5] at H
   have c5b0 : decide (14 < (l1.length : Int)) = false := decide_eq_false c5
   have c5b1 : decide (14 < l1.length) = false := decide_eq_false (by omega)
   clear c5
   (first | rw [c5b0] | (simp only [i64_w, i32_w]; rw [c5b0]) | skip)
   have H' := Aside0.mk H
   clear H
   go_wp2
   go_meet
   case rel => exact ⟨_, (decide (a0 < 2)), rs_, H', ⟨by first | omega | exact Nat.le_refl _⟩, ⟨bl_⟩⟩
 case rest =>
  clear HC4
  try clear c1
  try clear p2
  try clear c3
  try clear c5
  try clear c5b0
  try clear c5b1
  obtain ⟨kq, x21_3, rfl, HA, HJ3, HB⟩ := hcut
  cases kq with
  | zero => exact absurd HA.out (by simp [trishawtop_TopTrees.j0])
  | succ kj3 =>
   have H := HA.out
   clear HA
   simp only [trishawtop_TopTrees.j0] at H
   by_cases c6 : x21_3 = true
   ·subst c6
    have H1 : ((trishawtop_streets.f kj3).bind fun t290 => (some t290)) = some r := by rw [if_pos rfl] at H; exact H
    clear H
    have H := H1
    clear H1
    obtain ⟨t290, A7, H⟩ := bi_ H
    replace H : (some t290) = some r := H
    obtain rfl := Option.some.inj H
    go_wp2_with (first | ((with_reducible refine gate_callee (f := 4) rfl ?_); refine goesL_ (some 22) rfl rfl Try.func4 (by kernel_rfl) rfl #[] rfl (as_) ?_; (with_reducible refine (trishawtop_streets.calls kj3  t290 _ A7.out).mono ?_); rintro e w8 ⟨rfl, hb⟩; refine ⟨_, rfl, ?_⟩; replace HB := hb_ hb; clear hb))
    go_ret
    exact ⟨er_, bl_⟩
   ·replace c6 := Bool.eq_false_iff.mpr c6
    subst c6
    have H1 : ((oneway_Bridges.f kj3 a0 l1).bind fun bt291 => (if bt291.2 = 0 then ((trishawtop_trees.f kj3 a0 l1 (-1)).bind fun bt296 => (if bt296.2 = 0 then (if bt296.1 < 0 then (trishawtop_TopTrees.j1 kj3 a0 l1 a2 bt291.1 bt296.1 true) else (if (bt291.1.length : Int) = (wrap64 (a0 - 1)) then (if (l1.length : Int) = (wrap64 (a0 - 1)) then (trishawtop_TopTrees.j1 kj3 a0 l1 a2 bt291.1 bt296.1 (bt296.1 != 1)) else (trishawtop_TopTrees.j1 kj3 a0 l1 a2 bt291.1 bt296.1 false)) else (trishawtop_TopTrees.j1 kj3 a0 l1 a2 bt291.1 bt296.1 false))) else (trishawtop_TopTrees.j1 kj3 a0 l1 a2 bt291.1 bt296.1 true))) else (if (bt291.1.length : Int) = 0 then ((trishawtop_streets.f kj3).bind fun t295 => (some t295)) else (some false)))) = some r := by rw [if_neg (show ¬ (false = true) by decide)] at H; exact H
    clear H
    have H := H1
    clear H1
    obtain ⟨⟨t291, t292⟩, A9, H⟩ := bi_ H
    replace H : (if t292 = 0 then ((trishawtop_trees.f kj3 a0 l1 (-1)).bind fun bt296 => (if bt296.2 = 0 then (if bt296.1 < 0 then (trishawtop_TopTrees.j1 kj3 a0 l1 a2 t291 bt296.1 true) else (if (t291.length : Int) = (wrap64 (a0 - 1)) then (if (l1.length : Int) = (wrap64 (a0 - 1)) then (trishawtop_TopTrees.j1 kj3 a0 l1 a2 t291 bt296.1 (bt296.1 != 1)) else (trishawtop_TopTrees.j1 kj3 a0 l1 a2 t291 bt296.1 false)) else (trishawtop_TopTrees.j1 kj3 a0 l1 a2 t291 bt296.1 false))) else (trishawtop_TopTrees.j1 kj3 a0 l1 a2 t291 bt296.1 true))) else (if (t291.length : Int) = 0 then ((trishawtop_streets.f kj3).bind fun t295 => (some t295)) else (some false))) = some r := H
    by_cases c10 : t292 = 0
    ·rw [if_pos c10] at H
     have c10b0 : (t292 == 0) = true := beq_iff_eq.mpr c10
     have c10b1 : (t292 != 0) = false := bne_eq_false_iff_eq.mpr c10
     clear c10
     obtain ⟨⟨t296, t297⟩, A11, H⟩ := bi_ H
     replace H : (if t297 = 0 then (if t296 < 0 then (trishawtop_TopTrees.j1 kj3 a0 l1 a2 t291 t296 true) else (if (t291.length : Int) = (wrap64 (a0 - 1)) then (if (l1.length : Int) = (wrap64 (a0 - 1)) then (trishawtop_TopTrees.j1 kj3 a0 l1 a2 t291 t296 (t296 != 1)) else (trishawtop_TopTrees.j1 kj3 a0 l1 a2 t291 t296 false)) else (trishawtop_TopTrees.j1 kj3 a0 l1 a2 t291 t296 false))) else (trishawtop_TopTrees.j1 kj3 a0 l1 a2 t291 t296 true)) = some r := H
     have HC12 := Aside0.mk H
     clear H
     go_upto_region 7 with (first | ((with_reducible refine gate_callee (f := 5) rfl ?_); refine goesL_ (some 26) rfl rfl Try.func5 (by kernel_rfl) rfl #[.int .i64 a0, .slice A1 l1.length c1] rfl (as_) ?_; (with_reducible refine (oneway_Bridges.calls kj3 a0 _ _ l1 t291 t292 _ ?side1 ?side2 A9.out).mono ?_); (case side1 => exact cb_ HR1.out); (case side2 => exact HC1.out); rintro e w13 ⟨v293, rfl, ho0, hb⟩; refine ⟨_, rfl, ?_⟩; have HO294 := rl_ ho0; replace HB := hb_ hb; clear hb ho0) | ((with_reducible refine gate_callee (f := 6) rfl ?_); refine goesL_ (some 40) rfl rfl Try.func6 (by kernel_rfl) rfl #[.int .i64 a0, .slice A1 l1.length c1, .int .i64 (-1)] rfl (as_) ?_; (with_reducible refine (trishawtop_trees.calls kj3 a0 _ _ l1 (-1) t296 t297 _ ?side1 ?side2 A11.out).mono ?_); (case side1 => exact cb_ HR1.out); (case side2 => exact HC1.out); rintro e w14 ⟨rfl, hb⟩; refine ⟨_, rfl, ?_⟩; replace HO294 := rb_ HO294 hb; replace HB := hb_ hb; clear hb))
     (try simp only [Act.put, List.setIfInBounds_toArray, List.set_cons_zero, List.set_cons_succ])
     go_cut [66] (fun v66 wc => ∃ (kq : Nat) (x66_11 : Bool), v66 = .bool x66_11 ∧ Aside0 (trishawtop_TopTrees.j1 kq a0 l1 a2 t291 t296 x66_11 = some r) ∧ Aside0 (kq ≤ kj3) ∧ Aside0 (Kd.R (Kd.int .i64) 3 wc w.heap.size (fun _ => True) v293 t291) ∧ Aside0 (Below w.heap.size w wc))
     case first =>
      have H := HC12.out
      clear HC12
      by_cases c15 : t297 = 0
      ·rw [if_pos c15] at H
       have c15b0 : (t297 == 0) = true := beq_iff_eq.mpr c15
       have c15b1 : (t297 != 0) = false := bne_eq_false_iff_eq.mpr c15
       clear c15
       (first | rw [c15b0] | (simp only [i64_w, i32_w]; rw [c15b0]) | skip)
       by_cases c16 : t296 < 0
       ·rw [if_pos c16] at H
        have c16b0 : decide (t296 < 0) = true := decide_eq_true c16
        clear c16
        have H' := Aside0.mk H
        clear H
        go_wp2
        go_meet
        case rel => exact ⟨_, (true), rs_, H', ⟨by have := HJ3.out; first | omega | exact Nat.le_refl _⟩, ⟨kr_ HO294.out⟩, ⟨bl_⟩⟩
       ·rw [if_neg c16] at H
        have c16b0 : decide (t296 < 0) = false := decide_eq_false c16
        clear c16
        by_cases c17 : (t291.length : Int) = (wrap64 (a0 - 1))
        ·rw [if_pos c17] at H
         have c17b0 : ((t291.length : Int) == (wrap64 (a0 - 1))) = true := beq_iff_eq.mpr c17
         have c17b1 : ((t291.length : Int) != (wrap64 (a0 - 1))) = false := bne_eq_false_iff_eq.mpr c17
         clear c17
         by_cases c18 : (l1.length : Int) = (wrap64 (a0 - 1))
         ·rw [if_pos c18] at H
          have c18b0 : ((l1.length : Int) == (wrap64 (a0 - 1))) = true := beq_iff_eq.mpr c18
          have c18b1 : ((l1.length : Int) != (wrap64 (a0 - 1))) = false := bne_eq_false_iff_eq.mpr c18
          clear c18
          have H' := Aside0.mk H
          clear H
          obtain ⟨Ao19, co19, eo19⟩ := Kd.R_slice HO294.out
          subst eo19
          go_wp2
          go_meet
          case rel => exact ⟨_, ((t296 != 1)), rs_, H', ⟨by have := HJ3.out; first | omega | exact Nat.le_refl _⟩, ⟨kr_ HO294.out⟩, ⟨bl_⟩⟩
         ·rw [if_neg c18] at H
          have c18b0 : ((l1.length : Int) == (wrap64 (a0 - 1))) = false := beq_eq_false_iff_ne.mpr c18
          have c18b1 : ((l1.length : Int) != (wrap64 (a0 - 1))) = true := bne_iff_ne.mpr c18
          have H' := Aside0.mk H
          clear H
          obtain ⟨Ao20, co20, eo20⟩ := Kd.R_slice HO294.out
          subst eo20
          go_wp2
          go_meet
          case rel => exact ⟨_, (false), rs_, H', ⟨by have := HJ3.out; first | omega | exact Nat.le_refl _⟩, ⟨kr_ HO294.out⟩, ⟨bl_⟩⟩
        ·rw [if_neg c17] at H
         have c17b0 : ((t291.length : Int) == (wrap64 (a0 - 1))) = false := beq_eq_false_iff_ne.mpr c17
         have c17b1 : ((t291.length : Int) != (wrap64 (a0 - 1))) = true := bne_iff_ne.mpr c17
         have H' := Aside0.mk H
         clear H
         obtain ⟨Ao21, co21, eo21⟩ := Kd.R_slice HO294.out
         subst eo21
         go_wp2
         go_meet
         case rel => exact ⟨_, (false), rs_, H', ⟨by have := HJ3.out; first | omega | exact Nat.le_refl _⟩, ⟨kr_ HO294.out⟩, ⟨bl_⟩⟩
      ·rw [if_neg c15] at H
       have c15b0 : (t297 == 0) = false := beq_eq_false_iff_ne.mpr c15
       have c15b1 : (t297 != 0) = true := bne_iff_ne.mpr c15
       (first | rw [c15b0] | (simp only [i64_w, i32_w]; rw [c15b0]) | skip)
       have H' := Aside0.mk H
       clear H
       go_wp2
       go_meet
       case rel => exact ⟨_, (true), rs_, H', ⟨by have := HJ3.out; first | omega | exact Nat.le_refl _⟩, ⟨kr_ HO294.out⟩, ⟨bl_⟩⟩
     case rest =>
      clear HC12
      try clear c1
      try clear p2
      try clear c3
      try clear c4
      try clear c5
      try clear c5b0
      try clear c5b1
      try clear c6
      try clear p6
      try clear c10
      try clear c10b0
      try clear c10b1
      try clear c15
      try clear c15b0
      try clear c15b1
      try clear c16
      try clear c16b0
      try clear c17
      try clear c17b0
      try clear c17b1
      try clear c18
      try clear c18b0
      try clear c18b1
      try clear p2
      obtain ⟨kq, x66_11, rfl, HA, HJ11, HO_7, HB⟩ := hcut
      cases kq with
      | zero => exact absurd HA.out (by simp [trishawtop_TopTrees.j1])
      | succ kj11 =>
       have H := HA.out
       clear HA
       simp only [trishawtop_TopTrees.j1] at H
       by_cases c22 : x66_11 = true
       ·subst c22
        have H1 : (some false) = some r := by rw [if_pos rfl] at H; exact H
        clear H
        have H := H1
        clear H1
        obtain rfl := Option.some.inj H
        go_wp2
        go_ret
        exact ⟨er_, bl_⟩
       ·replace c22 := Bool.eq_false_iff.mpr c22
        subst c22
        have H1 : (if (l1.length : Int) = 0 then (if t296 = 0 then ((trishawtop_streets.f kj11).bind fun t298 => (some t298)) else (some false)) else ((trishawtop_trees.f kj11 a0 l1 (Int.tmod (wrap64 (a2)) (l1.length : Int))).bind fun bt299 => (trishawtop_TopTrees.l0 kj11 t291 t296 bt299.2 (Int.tmod (wrap64 (a2)) (l1.length : Int)) bt299.1 false 0))) = some r := by rw [if_neg (show ¬ (false = true) by decide)] at H; exact H
        clear H
        have H := H1
        clear H1
        by_cases c23 : (l1.length : Int) = 0
        ·rw [if_pos c23] at H
         have c23b0 : ((l1.length : Int) == 0) = true := beq_iff_eq.mpr c23
         have c23b1 : ((l1.length : Int) != 0) = false := bne_eq_false_iff_eq.mpr c23
         clear c23
         by_cases c24 : t296 = 0
         ·rw [if_pos c24] at H
          have c24b0 : (t296 == 0) = true := beq_iff_eq.mpr c24
          have c24b1 : (t296 != 0) = false := bne_eq_false_iff_eq.mpr c24
          clear c24
          obtain ⟨t298, A25, H⟩ := bi_ H
          replace H : (some t298) = some r := H
          obtain rfl := Option.some.inj H
          go_wp2_with (first | (go_at_call 4; (with_reducible refine (trishawtop_streets.calls kj11  t298 _ A25.out).mono ?_); rintro e w26 ⟨rfl, hb⟩; replace HO_7 := rb_ HO_7 hb; replace HB := hb_ hb; clear hb))
          go_ret
          exact ⟨er_, bl_⟩
         ·rw [if_neg c24] at H
          have c24b0 : (t296 == 0) = false := beq_eq_false_iff_ne.mpr c24
          have c24b1 : (t296 != 0) = true := bne_iff_ne.mpr c24
          obtain rfl := Option.some.inj H
          go_wp2
          go_ret
          exact ⟨er_, bl_⟩
        ·rw [if_neg c23] at H
         have c23b0 : ((l1.length : Int) == 0) = false := beq_eq_false_iff_ne.mpr c23
         have c23b1 : ((l1.length : Int) != 0) = true := bne_iff_ne.mpr c23
         have c23b2 : ¬ (l1 = []) := fun h_ => c23 (by rw [h_]; rfl)
         obtain ⟨⟨t299, t300⟩, A27, H⟩ := bi_ H
         replace H : (trishawtop_TopTrees.l0 kj11 t291 t296 t300 (Int.tmod (wrap64 (a2)) (l1.length : Int)) t299 false 0) = some r := H
         have H' := Aside0.mk H
         clear H
         go_wp2_with (first | ((with_reducible refine gate_callee (f := 6) rfl ?_); refine goesL_ (some 84) rfl rfl Try.func6 (by kernel_rfl) rfl #[.int .i64 a0, .slice A1 l1.length c1, .int .i64 (Int.tmod (wrap64 (a2)) (l1.length : Int))] rfl (as_) ?_; (with_reducible refine (trishawtop_trees.calls kj11 a0 _ _ l1 (Int.tmod (wrap64 (a2)) (l1.length : Int)) t299 t300 _ ?side1 ?side2 A27.out).mono ?_); (case side1 => exact cb_ HR1.out); (case side2 => exact HC1.out); rintro e w28 ⟨rfl, hb⟩; refine ⟨_, rfl, ?_⟩; replace HO_7 := rb_ HO_7 hb; replace HB := hb_ hb; clear hb))
         go_loopg [13, 14] kj11 (fun kq v13 v14 w' => ∃ (x13_3 : Bool) (x14_3 : Int), v13 = .bool x13_3 ∧ v14 = .int .i64 x14_3 ∧ Aside0 (trishawtop_TopTrees.l0 kq t291 t296 t300 (Int.tmod (wrap64 (a2)) (l1.length : Int)) t299 x13_3 x14_3 = some r) ∧ Aside0 (kq ≤ kj11) ∧ Aside0 (Kd.R (Kd.int .i64) 3 w' w.heap.size (fun _ => True) v293 t291) ∧ Aside0 (Below w.heap.size w w'))
         case atStart => exact ⟨(false), (0), rs_, rs_, H', ⟨Nat.le_refl _⟩, ⟨kr_ HO_7.out⟩, ⟨bl_⟩⟩
         case round =>
          clear H'
          try clear c1
          try clear c2
          try clear p2
          try clear c3
          try clear c4
          try clear c5
          try clear c5b0
          try clear c5b1
          try clear c6
          try clear p6
          try clear c10
          try clear c10b0
          try clear c10b1
          try clear c15
          try clear c15b0
          try clear c15b1
          try clear c16
          try clear c16b0
          try clear c17
          try clear c17b0
          try clear c17b1
          try clear c18
          try clear c18b0
          try clear c18b1
          try clear c22
          try clear c23
          try clear c23b0
          try clear c23b1
          try clear c23b2
          try clear c24
          try clear c24b0
          try clear c24b1
          try clear p2
          try clear p6
          obtain ⟨x13_3, x14_3, rfl, rfl, HA, HK3, HO_7, HB⟩ := hrel
          cases gk with
          | zero => exact absurd HA.out (by simp [trishawtop_TopTrees.l0])
          | succ k3 =>
           have H := HA.out
           clear HA
           simp only [trishawtop_TopTrees.l0] at H
           by_cases c29 : x14_3 < (t291.length : Int)
           ·rw [if_pos c29] at H
            have c29b0 : decide (x14_3 < (t291.length : Int)) = true := decide_eq_true c29
            clear c29
            by_cases c30 : x13_3 = true
            ·subst c30
             have H1 : (trishawtop_TopTrees.l0 k3 t291 t296 t300 (Int.tmod (wrap64 (a2)) (l1.length : Int)) t299 true (wrap64 (x14_3 + 1))) = some r := by rw [if_pos rfl] at H; exact H
             clear H
             have H := H1
             clear H1
             have H' := Aside0.mk H
             clear H
             obtain ⟨Ao31, co31, eo31⟩ := Kd.R_slice HO_7.out
             subst eo31
             go_wp2
             go_roundg k3
             case measure => have := HJ3.out; have := HJ11.out; have := HK3.out; omega
             case rel => exact ⟨(true), (wrap64 (x14_3 + 1)), rs_, rs_, H', ⟨by have := HJ3.out; have := HJ11.out; have := HK3.out; omega⟩, ⟨kr_ HO_7.out⟩, ⟨bl_⟩⟩
            ·replace c30 := Bool.eq_false_iff.mpr c30
             subst c30
             have H1 : (if 0 ≤ x14_3 then (trishawtop_TopTrees.l0 k3 t291 t296 t300 (Int.tmod (wrap64 (a2)) (l1.length : Int)) t299 ((rd t291 x14_3) == (Int.tmod (wrap64 (a2)) (l1.length : Int))) (wrap64 (x14_3 + 1))) else (none)) = some r := by rw [if_neg (show ¬ (false = true) by decide)] at H; exact H
             clear H
             have H := H1
             clear H1
             obtain ⟨c32b0, H⟩ := fp_ H
             have H' := Aside0.mk H
             clear H
             obtain ⟨Ao33, co33, eo33⟩ := Kd.R_slice HO_7.out
             subst eo33
             obtain ⟨ad301, e301, hx301_0, p301, q301⟩ := ai_ (Kd.R_reads' HO_7.out).2.2 x14_3
             cases e301
             go_wp2
             go_roundg k3
             case measure => have := HJ3.out; have := HJ11.out; have := HK3.out; omega
             case rel => exact ⟨(((rd t291 x14_3) == (Int.tmod (wrap64 (a2)) (l1.length : Int)))), (wrap64 (x14_3 + 1)), rs_, rs_, H', ⟨by have := HJ3.out; have := HJ11.out; have := HK3.out; omega⟩, ⟨kr_ HO_7.out⟩, ⟨bl_⟩⟩
           ·rw [if_neg c29] at H
            have c29b0 : decide (x14_3 < (t291.length : Int)) = false := decide_eq_false c29
            clear c29
            by_cases c34 : t300 = 0
            ·rw [if_pos c34] at H
             have c34b0 : (t300 == 0) = true := beq_iff_eq.mpr c34
             have c34b1 : (t300 != 0) = false := bne_eq_false_iff_eq.mpr c34
             clear c34
             by_cases c35 : t299 ≤ t296
             ·rw [if_pos c35] at H
              have c35b0 : decide (t299 ≤ t296) = true := decide_eq_true c35
              clear c35
              by_cases c36 : t296 = 0
              ·rw [if_pos c36] at H
               have c36b0 : (t296 == 0) = true := beq_iff_eq.mpr c36
               have c36b1 : (t296 != 0) = false := bne_eq_false_iff_eq.mpr c36
               clear c36
               obtain ⟨t302, A37, H⟩ := bi_ H
               replace H : (some t302) = some r := H
               obtain rfl := Option.some.inj H
               obtain ⟨Ao38, co38, eo38⟩ := Kd.R_slice HO_7.out
               subst eo38
               go_wp2_with (first | (go_at_call 4; (with_reducible refine (trishawtop_streets.calls k3  t302 _ A37.out).mono ?_); rintro e w39 ⟨rfl, hb⟩; replace HO_7 := rb_ HO_7 hb; replace HB := hb_ hb; clear hb))
               go_ret
               exact ⟨er_, bl_⟩
              ·rw [if_neg c36] at H
               have c36b0 : (t296 == 0) = false := beq_eq_false_iff_ne.mpr c36
               have c36b1 : (t296 != 0) = true := bne_iff_ne.mpr c36
               by_cases c40 : (x13_3 == (t299 == 0)) = true
               ·rw [if_pos c40] at H
                have c40b0 : (x13_3 == (t299 == 0)) = true := c40
                (try (have c40b1 : decide (x13_3 = (t299 == 0)) = true := by simpa using c40))
                (try (have c40b2 : (x13_3 == (t299 == 0)) = true := by simpa using c40))
                clear c40
                obtain ⟨t303, A41, H⟩ := bi_ H
                replace H : (some t303) = some r := H
                obtain rfl := Option.some.inj H
                obtain ⟨Ao42, co42, eo42⟩ := Kd.R_slice HO_7.out
                subst eo42
                go_wp2_with (first | (go_at_call 4; (with_reducible refine (trishawtop_streets.calls k3  t303 _ A41.out).mono ?_); rintro e w43 ⟨rfl, hb⟩; replace HO_7 := rb_ HO_7 hb; replace HB := hb_ hb; clear hb))
                go_ret
                exact ⟨er_, bl_⟩
               ·rw [if_neg c40] at H
                have c40b0 : (x13_3 == (t299 == 0)) = false := by simpa using c40
                (try (have c40b1 : decide (x13_3 = (t299 == 0)) = false := by simpa using c40))
                (try (have c40b2 : (x13_3 == (t299 == 0)) = false := by simpa using c40))
                (try (have c40b3 : ¬ (x13_3 = (t299 == 0)) := by simpa using c40))
                clear c40
                obtain rfl := Option.some.inj H
                obtain ⟨Ao44, co44, eo44⟩ := Kd.R_slice HO_7.out
                subst eo44
                go_wp2
                go_ret
                exact ⟨er_, bl_⟩
             ·rw [if_neg c35] at H
              have c35b0 : decide (t299 ≤ t296) = false := decide_eq_false c35
              clear c35
              obtain rfl := Option.some.inj H
              obtain ⟨Ao45, co45, eo45⟩ := Kd.R_slice HO_7.out
              subst eo45
              go_wp2
              go_ret
              exact ⟨er_, bl_⟩
            ·rw [if_neg c34] at H
             have c34b0 : (t300 == 0) = false := beq_eq_false_iff_ne.mpr c34
             have c34b1 : (t300 != 0) = true := bne_iff_ne.mpr c34
             obtain rfl := Option.some.inj H
             obtain ⟨Ao46, co46, eo46⟩ := Kd.R_slice HO_7.out
             subst eo46
             go_wp2
             go_ret
             exact ⟨er_, bl_⟩
    ·rw [if_neg c10] at H
     have c10b0 : (t292 == 0) = false := beq_eq_false_iff_ne.mpr c10
     have c10b1 : (t292 != 0) = true := bne_iff_ne.mpr c10
     by_cases c47 : (t291.length : Int) = 0
     ·rw [if_pos c47] at H
      have c47b0 : ((t291.length : Int) == 0) = true := beq_iff_eq.mpr c47
      have c47b1 : ((t291.length : Int) != 0) = false := bne_eq_false_iff_eq.mpr c47
      clear c47
      obtain ⟨t295, A48, H⟩ := bi_ H
      replace H : (some t295) = some r := H
      obtain rfl := Option.some.inj H
      go_wp2_with (first | ((with_reducible refine gate_callee (f := 5) rfl ?_); refine goesL_ (some 26) rfl rfl Try.func5 (by kernel_rfl) rfl #[.int .i64 a0, .slice A1 l1.length c1] rfl (as_) ?_; (with_reducible refine (oneway_Bridges.calls kj3 a0 _ _ l1 t291 t292 _ ?side1 ?side2 A9.out).mono ?_); (case side1 => exact cb_ HR1.out); (case side2 => exact HC1.out); rintro e w49 ⟨v293, rfl, ho0, hb⟩; refine ⟨_, rfl, ?_⟩; have HO294 := rl_ ho0; replace HB := hb_ hb; clear hb ho0; obtain ⟨Ao50, co50, eo50⟩ := Kd.R_slice HO294.out; subst eo50) | (go_at_call 4; (with_reducible refine (trishawtop_streets.calls kj3  t295 _ A48.out).mono ?_); rintro e w51 ⟨rfl, hb⟩; replace HO294 := rb_ HO294 hb; replace HB := hb_ hb; clear hb))
      go_ret
      exact ⟨er_, bl_⟩
     ·rw [if_neg c47] at H
      have c47b0 : ((t291.length : Int) == 0) = false := beq_eq_false_iff_ne.mpr c47
      have c47b1 : ((t291.length : Int) != 0) = true := bne_iff_ne.mpr c47
      have c47b2 : ¬ (t291 = []) := fun h_ => c47 (by rw [h_]; rfl)
      obtain rfl := Option.some.inj H
      go_wp2_with (first | ((with_reducible refine gate_callee (f := 5) rfl ?_); refine goesL_ (some 26) rfl rfl Try.func5 (by kernel_rfl) rfl #[.int .i64 a0, .slice A1 l1.length c1] rfl (as_) ?_; (with_reducible refine (oneway_Bridges.calls kj3 a0 _ _ l1 t291 t292 _ ?side1 ?side2 A9.out).mono ?_); (case side1 => exact cb_ HR1.out); (case side2 => exact HC1.out); rintro e w52 ⟨v293, rfl, ho0, hb⟩; refine ⟨_, rfl, ?_⟩; have HO294 := rl_ ho0; replace HB := hb_ hb; clear hb ho0; obtain ⟨Ao53, co53, eo53⟩ := Kd.R_slice HO294.out; subst eo53))
      go_ret
      exact ⟨er_, bl_⟩

end Go.Proofs.Ytlcgoacmlbeliaa.P
