-- Written by wip/tools/myprint.py of this session's repo, over the kit's printer and hand texts.
import Derived.Test.YtlcgoacmlbeliaaDoorPx0
import Derived.Test.YtlcgoacmlbeliaaDoorPre
import Derived.Test.YtlcgoacmlbeliaaDoorMap
import Derived.Test.YtlcgoacmlbeliaaDoorPx1
import Derived.Test.YtlcgoacmlbeliaaDoorPx2
namespace Go.Proofs.YtlcgoacmlbeliaaDoor.P
open Go.RowKit Go.Proofs.YtlcgoacmlbeliaaDoorW.PrintWords Go.Proofs.YtlcgoacmlbeliaaDoorW.PrintLast Go.Proofs.YtlcgoacmlbeliaaDoorW.PrintMore
attribute [local go_sem] max2_int min2_int max_two min_two max_three min_three max_four min_four   -- for this text's walks alone
set_option linter.unusedVariables false
set_option linter.unusedSimpArgs false

/-! ### cmp_Compare_int: function 50 -/
def cmp_Compare_int.f (a0 : Int) (a1 : Int) : Option (Int) := (cmp_isNaN_int.f a0).bind fun t128 => ((cmp_isNaN_int.f a1).bind fun t129 => (if t128 = true then (if t129 = true then (some 0) else (some (-1))) else (if t129 = true then (some 1) else (if a0 < a1 then (some (-1)) else (if a0 > a1 then (some 1) else (some 0))))))
set_option maxHeartbeats 8000000 in
set_option maxRecDepth 100000 in
theorem cmp_Compare_int.calls (a0 : Int) (a1 : Int) (r : Int) (w : World) (h : cmp_Compare_int.f a0 a1 = some r) :
    Calls Tryd.prog 50 #[.int .i64 a0, .int .i64 a1] w fun e w' => e = .returned (.int .i64 r) ∧ Drawn0 w w' := by
 have H : ((cmp_isNaN_int.f a0).bind fun t128 => ((cmp_isNaN_int.f a1).bind fun t129 => (if t128 = true then (if t129 = true then (some 0) else (some (-1))) else (if t129 = true then (some 1) else (if a0 < a1 then (some (-1)) else (if a0 > a1 then (some 1) else (some 0))))))) = some r := h
 clear h
 obtain ⟨t128, A3, H⟩ := bi_ H
 replace H : ((cmp_isNaN_int.f a1).bind fun t129 => (if t128 = true then (if t129 = true then (some 0) else (some (-1))) else (if t129 = true then (some 1) else (if a0 < a1 then (some (-1)) else (if a0 > a1 then (some 1) else (some 0)))))) = some r := H
 obtain ⟨t129, A4, H⟩ := bi_ H
 replace H : (if t128 = true then (if t129 = true then (some 0) else (some (-1))) else (if t129 = true then (some 1) else (if a0 < a1 then (some (-1)) else (if a0 > a1 then (some 1) else (some 0))))) = some r := H
 by_cases c5 : t128 = true
 ·subst c5
  have H1 : (if t129 = true then (some 0) else (some (-1))) = some r := by rw [if_pos rfl] at H; exact H
  clear H
  have H := H1
  clear H1
  by_cases c6 : t129 = true
  ·subst c6
   have H1 : (some 0) = some r := by rw [if_pos rfl] at H; exact H
   clear H
   have H := H1
   clear H1
   obtain rfl := Option.some.inj H
   go_enter Tryd.func50, Tryd.ntmps50
   go_wp2_with (first | ((with_reducible refine gate_callee (f := 55) rfl ?_); refine goesL_ (some 8) rfl rfl Tryd.func55 (by kernel_rfl) rfl #[.int .i64 a0] rfl (as_) ?_; (with_reducible refine (cmp_isNaN_int.calls a0 true _ A3.out).mono ?_); rintro e w' ⟨rfl, ⟨nd, rfl⟩⟩; refine ⟨_, rfl, ?_⟩) | ((with_reducible refine gate_callee (f := 55) rfl ?_); refine goesL_ (some 10) rfl rfl Tryd.func55 (by kernel_rfl) rfl #[.int .i64 a1] rfl (as_) ?_; (with_reducible refine (cmp_isNaN_int.calls a1 true _ A4.out).mono ?_); rintro e w' ⟨rfl, ⟨nd, rfl⟩⟩; refine ⟨_, rfl, ?_⟩))
   go_ret
   exact ⟨by first | rfl | (simp; done) | (simp [*]; done), by repeat (first | exact Drawn0.refl _ | apply Drawn0.step)⟩
  ·replace c6 := Bool.eq_false_iff.mpr c6
   subst c6
   have H1 : (some (-1)) = some r := by rw [if_neg (show ¬ (false = true) by decide)] at H; exact H
   clear H
   have H := H1
   clear H1
   obtain rfl := Option.some.inj H
   go_enter Tryd.func50, Tryd.ntmps50
   go_wp2_with (first | ((with_reducible refine gate_callee (f := 55) rfl ?_); refine goesL_ (some 8) rfl rfl Tryd.func55 (by kernel_rfl) rfl #[.int .i64 a0] rfl (as_) ?_; (with_reducible refine (cmp_isNaN_int.calls a0 true _ A3.out).mono ?_); rintro e w' ⟨rfl, ⟨nd, rfl⟩⟩; refine ⟨_, rfl, ?_⟩) | ((with_reducible refine gate_callee (f := 55) rfl ?_); refine goesL_ (some 10) rfl rfl Tryd.func55 (by kernel_rfl) rfl #[.int .i64 a1] rfl (as_) ?_; (with_reducible refine (cmp_isNaN_int.calls a1 false _ A4.out).mono ?_); rintro e w' ⟨rfl, ⟨nd, rfl⟩⟩; refine ⟨_, rfl, ?_⟩))
   go_ret
   exact ⟨by first | rfl | (simp; done) | (simp [*]; done), by repeat (first | exact Drawn0.refl _ | apply Drawn0.step)⟩
 ·replace c5 := Bool.eq_false_iff.mpr c5
  subst c5
  have H1 : (if t129 = true then (some 1) else (if a0 < a1 then (some (-1)) else (if a0 > a1 then (some 1) else (some 0)))) = some r := by rw [if_neg (show ¬ (false = true) by decide)] at H; exact H
  clear H
  have H := H1
  clear H1
  by_cases c7 : t129 = true
  ·subst c7
   have H1 : (some 1) = some r := by rw [if_pos rfl] at H; exact H
   clear H
   have H := H1
   clear H1
   obtain rfl := Option.some.inj H
   go_enter Tryd.func50, Tryd.ntmps50
   go_wp2_with (first | ((with_reducible refine gate_callee (f := 55) rfl ?_); refine goesL_ (some 8) rfl rfl Tryd.func55 (by kernel_rfl) rfl #[.int .i64 a0] rfl (as_) ?_; (with_reducible refine (cmp_isNaN_int.calls a0 false _ A3.out).mono ?_); rintro e w' ⟨rfl, ⟨nd, rfl⟩⟩; refine ⟨_, rfl, ?_⟩) | ((with_reducible refine gate_callee (f := 55) rfl ?_); refine goesL_ (some 10) rfl rfl Tryd.func55 (by kernel_rfl) rfl #[.int .i64 a1] rfl (as_) ?_; (with_reducible refine (cmp_isNaN_int.calls a1 true _ A4.out).mono ?_); rintro e w' ⟨rfl, ⟨nd, rfl⟩⟩; refine ⟨_, rfl, ?_⟩))
   go_ret
   exact ⟨by first | rfl | (simp; done) | (simp [*]; done), by repeat (first | exact Drawn0.refl _ | apply Drawn0.step)⟩
  ·replace c7 := Bool.eq_false_iff.mpr c7
   subst c7
   have H1 : (if a0 < a1 then (some (-1)) else (if a0 > a1 then (some 1) else (some 0))) = some r := by rw [if_neg (show ¬ (false = true) by decide)] at H; exact H
   clear H
   have H := H1
   clear H1
   by_cases c8 : a0 < a1
   ·rw [if_pos c8] at H
    have c8b0 : decide (a0 < a1) = true := decide_eq_true c8
    clear c8
    obtain rfl := Option.some.inj H
    go_enter Tryd.func50, Tryd.ntmps50
    go_wp2_with (first | ((with_reducible refine gate_callee (f := 55) rfl ?_); refine goesL_ (some 8) rfl rfl Tryd.func55 (by kernel_rfl) rfl #[.int .i64 a0] rfl (as_) ?_; (with_reducible refine (cmp_isNaN_int.calls a0 false _ A3.out).mono ?_); rintro e w' ⟨rfl, ⟨nd, rfl⟩⟩; refine ⟨_, rfl, ?_⟩) | ((with_reducible refine gate_callee (f := 55) rfl ?_); refine goesL_ (some 10) rfl rfl Tryd.func55 (by kernel_rfl) rfl #[.int .i64 a1] rfl (as_) ?_; (with_reducible refine (cmp_isNaN_int.calls a1 false _ A4.out).mono ?_); rintro e w' ⟨rfl, ⟨nd, rfl⟩⟩; refine ⟨_, rfl, ?_⟩))
    go_ret
    exact ⟨by first | rfl | (simp; done) | (simp [*]; done), by repeat (first | exact Drawn0.refl _ | apply Drawn0.step)⟩
   ·rw [if_neg c8] at H
    have c8b0 : decide (a0 < a1) = false := decide_eq_false c8
    clear c8
    by_cases c9 : a0 > a1
    ·rw [if_pos c9] at H
     have c9b0 : decide (a1 < a0) = true := decide_eq_true c9
     clear c9
     obtain rfl := Option.some.inj H
     go_enter Tryd.func50, Tryd.ntmps50
     go_wp2_with (first | ((with_reducible refine gate_callee (f := 55) rfl ?_); refine goesL_ (some 8) rfl rfl Tryd.func55 (by kernel_rfl) rfl #[.int .i64 a0] rfl (as_) ?_; (with_reducible refine (cmp_isNaN_int.calls a0 false _ A3.out).mono ?_); rintro e w' ⟨rfl, ⟨nd, rfl⟩⟩; refine ⟨_, rfl, ?_⟩) | ((with_reducible refine gate_callee (f := 55) rfl ?_); refine goesL_ (some 10) rfl rfl Tryd.func55 (by kernel_rfl) rfl #[.int .i64 a1] rfl (as_) ?_; (with_reducible refine (cmp_isNaN_int.calls a1 false _ A4.out).mono ?_); rintro e w' ⟨rfl, ⟨nd, rfl⟩⟩; refine ⟨_, rfl, ?_⟩))
     go_ret
     exact ⟨by first | rfl | (simp; done) | (simp [*]; done), by repeat (first | exact Drawn0.refl _ | apply Drawn0.step)⟩
    ·rw [if_neg c9] at H
     have c9b0 : decide (a1 < a0) = false := decide_eq_false c9
     clear c9
     obtain rfl := Option.some.inj H
     go_enter Tryd.func50, Tryd.ntmps50
     go_wp2_with (first | ((with_reducible refine gate_callee (f := 55) rfl ?_); refine goesL_ (some 8) rfl rfl Tryd.func55 (by kernel_rfl) rfl #[.int .i64 a0] rfl (as_) ?_; (with_reducible refine (cmp_isNaN_int.calls a0 false _ A3.out).mono ?_); rintro e w' ⟨rfl, ⟨nd, rfl⟩⟩; refine ⟨_, rfl, ?_⟩) | ((with_reducible refine gate_callee (f := 55) rfl ?_); refine goesL_ (some 10) rfl rfl Tryd.func55 (by kernel_rfl) rfl #[.int .i64 a1] rfl (as_) ?_; (with_reducible refine (cmp_isNaN_int.calls a1 false _ A4.out).mono ?_); rintro e w' ⟨rfl, ⟨nd, rfl⟩⟩; refine ⟨_, rfl, ?_⟩))
     go_ret
     exact ⟨by first | rfl | (simp; done) | (simp [*]; done), by repeat (first | exact Drawn0.refl _ | apply Drawn0.step)⟩

/-! ### slices_Compare_int_int: function 39 -/
def slices_Compare_int_int.l0 : Nat → List Int → List Int → List Int → Int → Int → Option (Int)
  | 0, _, _, _, _, _ => none
  | k + 1, x0, x1, x9, x10, x11 => if x11 < x10 then (if 0 ≤ x11 then (if x11 < (x9.length : Int) then (if x11 ≥ (x1.length : Int) then (some 1) else (if x11 < (x1.length : Int) then ((cmp_Compare_int.f (rd x9 x11) (rd x1 x11)).bind fun t132 => (if t132 = 0 then (slices_Compare_int_int.l0 k x0 x1 x9 x10 (wrap64 (x11 + 1))) else (some t132))) else (none))) else (none)) else (none)) else (if (x0.length : Int) < (x1.length : Int) then (some (-1)) else (some 0))
def slices_Compare_int_int.f (k : Nat) (l0 : List Int) (l1 : List Int) : Option (Int) := slices_Compare_int_int.l0 k l0 l1 l0 (l0.length : Int) 0
theorem slices_Compare_int_int.mono_l : ∀ k, (∀ y0 y1 y2 y3 y4, LeO (slices_Compare_int_int.l0 k y0 y1 y2 y3 y4) (slices_Compare_int_int.l0 (k + 1) y0 y1 y2 y3 y4))
  | 0 => fun _ _ _ _ _ r h => by simp [slices_Compare_int_int.l0] at h
  | k + 1 => by
    have ih0 := slices_Compare_int_int.mono_l k
    · intro y0 y1 y2 y3 y4
      unfold slices_Compare_int_int.l0
      with_reducible repeat' first | exact ih0 _ _ _ _ _ | exact LeO.refl _ | exact LeO.none _ | refine LeO.ite ?_ ?_ | refine LeO.bind ?_ (fun _ => ?_)
theorem slices_Compare_int_int.mono : ∀ a0 a1 k, LeO (slices_Compare_int_int.f k a0 a1) (slices_Compare_int_int.f (k + 1) a0 a1) := by
  intro a0 a1 k
  have ih0 := slices_Compare_int_int.mono_l k
  unfold slices_Compare_int_int.f
  with_reducible repeat' first | exact ih0 _ _ _ _ _ | exact LeO.refl _ | exact LeO.none _ | refine LeO.ite ?_ ?_ | refine LeO.bind ?_ (fun _ => ?_)
set_option maxHeartbeats 8000000 in
set_option maxRecDepth 100000 in
theorem slices_Compare_int_int.calls (k : Nat) (A0 : Option Addr) (c0 : Nat) (l0 : List Int) (A1 : Option Addr) (c1 : Nat) (l1 : List Int) (r : Int) (w : World) (hr0 : Kd.C (Kd.int .i64) w A0 l0.length l0) (hc0 : l0.length ≤ c0) (hr1 : Kd.C (Kd.int .i64) w A1 l1.length l1) (hc1 : l1.length ≤ c1) (h : slices_Compare_int_int.f k l0 l1 = some r) :
    Calls Tryd.prog 39 #[.slice A0 l0.length c0, .slice A1 l1.length c1] w fun e w' => e = .returned (.int .i64 r) ∧ Drawn0 w w' := by
 have HR0 := Aside0.mk hr0
 have HC0 := Aside0.mk hc0
 clear hr0 hc0
 have HR1 := Aside0.mk hr1
 have HC1 := Aside0.mk hc1
 clear hr1 hc1
 have H : (slices_Compare_int_int.l0 k l0 l1 l0 (l0.length : Int) 0) = some r := h
 clear h
 have H' := Aside0.mk H
 clear H
 go_enter Tryd.func39, Tryd.ntmps39
 go_wp2
 go_loopg [11] k (fun kq v11 w' => ∃ (x11_1 : Int), v11 = .int .i64 x11_1 ∧ Aside0 (slices_Compare_int_int.l0 kq l0 l1 l0 (l0.length : Int) x11_1 = some r) ∧ Aside0 (kq ≤ k) ∧ Drawn0 w w')
 case atStart => exact ⟨(0), rs_, H', ⟨Nat.le_refl _⟩, by repeat (first | exact Drawn0.refl _ | apply Drawn0.step)⟩
 case round =>
  clear H'
  try clear c1
  try clear p2
  obtain ⟨x11_1, rfl, HA, HK1, ⟨m1, rfl⟩⟩ := hrel
  cases gk with
  | zero => exact absurd HA.out (by simp [slices_Compare_int_int.l0])
  | succ k1 =>
   have H := HA.out
   clear HA
   simp only [slices_Compare_int_int.l0] at H
   by_cases c3 : x11_1 < (l0.length : Int)
   ·rw [if_pos c3] at H
    have c3b0 : decide (x11_1 < (l0.length : Int)) = true := decide_eq_true c3
    clear c3
    obtain ⟨c4b0, H⟩ := fp_ H
    obtain ⟨c5b0, H⟩ := fp_ H
    by_cases c6 : x11_1 ≥ (l1.length : Int)
    ·rw [if_pos c6] at H
     have c6b0 : decide ((l1.length : Int) ≤ x11_1) = true := decide_eq_true c6
     clear c6
     obtain rfl := Option.some.inj H
     obtain ⟨ad130, e130, hx130_0, p130, q130⟩ := ai_ HR0.out x11_1
     cases e130
     go_wp2
     go_ret
     exact ⟨by first | rfl | (simp; done) | (simp [*]; done), by repeat (first | exact Drawn0.refl _ | apply Drawn0.step)⟩
    ·rw [if_neg c6] at H
     have c6b0 : decide ((l1.length : Int) ≤ x11_1) = false := decide_eq_false c6
     clear c6
     obtain ⟨c7b0, H⟩ := fp_ H
     obtain ⟨t132, A8, H⟩ := bi_ H
     replace H : (if t132 = 0 then (slices_Compare_int_int.l0 k1 l0 l1 l0 (l0.length : Int) (wrap64 (x11_1 + 1))) else (some t132)) = some r := H
     by_cases c9 : t132 = 0
     ·rw [if_pos c9] at H
      have c9b0 : (t132 == 0) = true := beq_iff_eq.mpr c9
      have c9b1 : (t132 != 0) = false := bne_eq_false_iff_eq.mpr c9
      clear c9
      have H' := Aside0.mk H
      clear H
      obtain ⟨ad130, e130, hx130_0, p130, q130⟩ := ai_ HR0.out x11_1
      cases e130
      obtain ⟨ad131, e131, hx131_0, p131, q131⟩ := ai_ HR1.out x11_1
      cases e131
      go_wp2_with (first | ((with_reducible refine gate_callee (f := 50) rfl ?_); refine goesL_ (some 26) rfl rfl Tryd.func50 (by kernel_rfl) rfl #[.int .i64 (rd l0 x11_1), .int .i64 (rd l1 x11_1)] rfl (as_) ?_; (with_reducible refine (cmp_Compare_int.calls (rd l0 x11_1) (rd l1 x11_1) t132 _ A8.out).mono ?_); rintro e w' ⟨rfl, ⟨nd, rfl⟩⟩; refine ⟨_, rfl, ?_⟩))
      go_roundg k1
      case measure => have := HK1.out; omega
      case rel => exact ⟨(wrap64 (x11_1 + 1)), rs_, H', ⟨by have := HK1.out; omega⟩, by repeat (first | exact Drawn0.refl _ | apply Drawn0.step)⟩
     ·rw [if_neg c9] at H
      have c9b0 : (t132 == 0) = false := beq_eq_false_iff_ne.mpr c9
      have c9b1 : (t132 != 0) = true := bne_iff_ne.mpr c9
      obtain rfl := Option.some.inj H
      obtain ⟨ad130, e130, hx130_0, p130, q130⟩ := ai_ HR0.out x11_1
      cases e130
      obtain ⟨ad131, e131, hx131_0, p131, q131⟩ := ai_ HR1.out x11_1
      cases e131
      go_wp2_with (first | ((with_reducible refine gate_callee (f := 50) rfl ?_); refine goesL_ (some 26) rfl rfl Tryd.func50 (by kernel_rfl) rfl #[.int .i64 (rd l0 x11_1), .int .i64 (rd l1 x11_1)] rfl (as_) ?_; (with_reducible refine (cmp_Compare_int.calls (rd l0 x11_1) (rd l1 x11_1) t132 _ A8.out).mono ?_); rintro e w' ⟨rfl, ⟨nd, rfl⟩⟩; refine ⟨_, rfl, ?_⟩))
      go_ret
      exact ⟨by first | rfl | (simp; done) | (simp [*]; done), by repeat (first | exact Drawn0.refl _ | apply Drawn0.step)⟩
   ·rw [if_neg c3] at H
    have c3b0 : decide (x11_1 < (l0.length : Int)) = false := decide_eq_false c3
    clear c3
    by_cases c10 : (l0.length : Int) < (l1.length : Int)
    ·rw [if_pos c10] at H
     have c10b0 : decide ((l0.length : Int) < (l1.length : Int)) = true := decide_eq_true c10
     have c10b1 : decide (l0.length < l1.length) = true := decide_eq_true (Int.ofNat_lt.mp c10)
     clear c10
     obtain rfl := Option.some.inj H
     go_wp2
     go_ret
     exact ⟨by first | rfl | (simp; done) | (simp [*]; done), by repeat (first | exact Drawn0.refl _ | apply Drawn0.step)⟩
    ·rw [if_neg c10] at H
     have c10b0 : decide ((l0.length : Int) < (l1.length : Int)) = false := decide_eq_false c10
     have c10b1 : decide (l0.length < l1.length) = false := decide_eq_false (fun h => c10 (Int.ofNat_lt.mpr h))
     clear c10
     obtain rfl := Option.some.inj H
     go_wp2
     go_ret
     exact ⟨by first | rfl | (simp; done) | (simp [*]; done), by repeat (first | exact Drawn0.refl _ | apply Drawn0.step)⟩

/-! ### fetch_finder_1: function 36 -/
def fetch_finder_1.j0 : Nat → Bool → List Int → Int → List Int → Bool → Option (List Int × Int × Bool)
  | 0, _, _, _, _, _ => none
  | k + 1, x2, x3, x4, x6, x12 => if x12 = true then (some (x6, 1, true)) else (if (x6.length : Int) = (x3.length : Int) then ((slices_Compare_int_int.f k x6 x3).bind fun t137 => (if t137 < 0 then (some (x6, wrap64 (x4 + 1), x2)) else (some (x3, wrap64 (x4 + 1), x2)))) else (some (x3, x4, x2)))
def fetch_finder_1.f (k : Nat) (a0 : Int) (l1 : List Int) (a2 : Bool) (l3 : List Int) (a4 : Int) : Option (List Int × Int × Bool) := (slices_ContainsFunc_int_int.f k l1 a0).bind fun t133 => (if t133 = true then (some (l3, a4, a2)) else ((fetch_list.f k a0).bind fun t134 => (if a2 = true then (fetch_finder_1.j0 k a2 l3 a4 t134 (decide ((t134.length : Int) < (l3.length : Int)))) else (fetch_finder_1.j0 k a2 l3 a4 t134 true))))
theorem fetch_finder_1.mono_l : ∀ k, (∀ y0 y1 y2 y3 y4, LeO (fetch_finder_1.j0 k y0 y1 y2 y3 y4) (fetch_finder_1.j0 (k + 1) y0 y1 y2 y3 y4))
  | 0 => fun _ _ _ _ _ r h => by simp [fetch_finder_1.j0] at h
  | k + 1 => by
    have ih0 := fetch_finder_1.mono_l k
    · intro y0 y1 y2 y3 y4
      unfold fetch_finder_1.j0
      with_reducible repeat' first | exact ih0 _ _ _ _ _ | exact fetch_list.mono _ _ | exact slices_Compare_int_int.mono _ _ _ | exact slices_ContainsFunc_int_int.mono _ _ _ | exact LeO.refl _ | exact LeO.none _ | refine LeO.ite ?_ ?_ | refine LeO.bind ?_ (fun _ => ?_)
theorem fetch_finder_1.mono : ∀ a0 a1 a2 a3 a4 k, LeO (fetch_finder_1.f k a0 a1 a2 a3 a4) (fetch_finder_1.f (k + 1) a0 a1 a2 a3 a4) := by
  intro a0 a1 a2 a3 a4 k
  have ih0 := fetch_finder_1.mono_l k
  unfold fetch_finder_1.f
  with_reducible repeat' first | exact ih0 _ _ _ _ _ | exact fetch_list.mono _ _ | exact slices_Compare_int_int.mono _ _ _ | exact slices_ContainsFunc_int_int.mono _ _ _ | exact LeO.refl _ | exact LeO.none _ | refine LeO.ite ?_ ?_ | refine LeO.bind ?_ (fun _ => ?_)
set_option maxHeartbeats 8000000 in
set_option maxRecDepth 100000 in
theorem fetch_finder_1.calls (k : Nat) (a0 : Int) (A1 : Option Addr) (c1 : Nat) (l1 : List Int) (a2 : Bool) (P3_ : Nat → Prop) (A3 : Option Addr) (c3 : Nat) (l3 : List Int) (a4 : Int) (r1 : List Int) (r2 : Int) (r3 : Bool) (w : World) (hr1 : Kd.C (Kd.int .i64) w A1 l1.length l1) (hc1 : l1.length ≤ c1) (hs3 : Kd.V (Kd.int .i64) 3 w w.heap.size (fun k_ => P3_ k_) (.slice A3 l3.length c3) l3) (gA gF gB gM : Nat) (hA : w.heap[gA]? = some (.cells #[.slice A1 l1.length c1] 29 (0, 0))) (hF : w.heap[gF]? = some (.cells #[.bool a2] 4 (0, 0))) (hB : w.heap[gB]? = some (.cells #[.slice A3 l3.length c3] 29 (0, 0))) (hM : w.heap[gM]? = some (.cells #[.int .i64 a4] 3 (0, 0))) (hP : ∀ k_, P3_ k_ → k_ ≠ gB ∧ k_ ≠ gM ∧ k_ ≠ gF) (h : fetch_finder_1.f k a0 l1 a2 l3 a4 = some (r1, r2, r3)) :
    Calls Tryd.prog 36 #[.int .i64 a0, .pointer (some ⟨gA, 0, none⟩), .pointer (some ⟨gF, 0, none⟩), .pointer (some ⟨gB, 0, none⟩), .pointer (some ⟨gM, 0, none⟩)] w fun e w' => e = .returned (.tuple #[]) ∧ Told3 gF gB gM P3_ w w' r1 r2 r3 := by
 have HR1 := Aside0.mk hr1
 have HC1 := Aside0.mk hc1
 clear hr1 hc1
 have HO3 := Aside0.mk (show Kd.V (Kd.int .i64) 3 w w.heap.size (fun k_ => (P3_ k_ ∨ w.heap.size ≤ k_)) (.slice A3 l3.length c3) l3 from Kd.V_mono hs3 (fun k_ hk => .inl hk))
 have HB := Aside0.mk (Below.refl w.heap.size w)
 have H : ((slices_ContainsFunc_int_int.f k l1 a0).bind fun t133 => (if t133 = true then (some (l3, a4, a2)) else ((fetch_list.f k a0).bind fun t134 => (if a2 = true then (fetch_finder_1.j0 k a2 l3 a4 t134 (decide ((t134.length : Int) < (l3.length : Int)))) else (fetch_finder_1.j0 k a2 l3 a4 t134 true))))) = some (r1, r2, r3) := h
 clear h
 obtain ⟨t133, A6, H⟩ := bi_ H
 replace H : (if t133 = true then (some (l3, a4, a2)) else ((fetch_list.f k a0).bind fun t134 => (if a2 = true then (fetch_finder_1.j0 k a2 l3 a4 t134 (decide ((t134.length : Int) < (l3.length : Int)))) else (fetch_finder_1.j0 k a2 l3 a4 t134 true)))) = some (r1, r2, r3) := H
 by_cases c7 : t133 = true
 ·subst c7
  have H1 : (some (l3, a4, a2)) = some (r1, r2, r3) := by rw [if_pos rfl] at H; exact H
  clear H
  have H := H1
  clear H1
  simp only [Option.some.injEq, Prod.mk.injEq] at H
  obtain ⟨rfl, rfl, rfl⟩ := H
  have hn1_ := blk_ne hB hM (by decide)
  have hn2_ := blk_ne hB hF (by decide)
  have hn3_ := blk_ne hM hF (by decide)
  have hn4_ := hn1_.symm
  have hn5_ := hn2_.symm
  have hn6_ := hn3_.symm
  have hG_ : ∀ k_, w.heap.size ≤ k_ → k_ ≠ gB ∧ k_ ≠ gM ∧ k_ ≠ gF := fun k_ h_ => by have a_ := blk_lt hB; have b_ := blk_lt hM; have c_ := blk_lt hF; refine ⟨?_, ?_, ?_⟩ <;> omega
  go_enter Tryd.func36, Tryd.ntmps36
  go_wp2_with (first | ((with_reducible refine gate_dst (N := 5) rfl ?_); refine be_ #[.int .i64 a0] 3 ?_; intro gs hg ws_ hbox hb; have BKs := Aside0.mk (hbox); replace HO3 := Aside0.mk (Kd.V_below (kv_ HO3.out) hb); replace HB := hb_ hb; clear hb hbox hg; have hcs_ := bc_ BKs 0 (.int .i64 a0); have hcA_ := bc_ (Aside0.mk (tw_ hA)) 0 _; have hcF_ := bc_ (Aside0.mk (tw_ hF)) 0 _; have hcB_ := bc_ (Aside0.mk (tw_ hB)) 0 _; have hcM_ := bc_ (Aside0.mk (tw_ hM)) 0 _; have hfB_ := bz_ (Aside0.mk (tw_ hB)) 0; have hfM_ := bz_ (Aside0.mk (tw_ hM)) 0; have hfF_ := bz_ (Aside0.mk (tw_ hF)) 0) | ((with_reducible refine gate_callee (f := 37) rfl ?_); refine goesL_ (some 9) rfl rfl Tryd.func37 (by kernel_rfl) rfl #[.slice A1 l1.length c1, .func (.func 38) #[] #[.pointer (some ⟨gs, 0, none⟩)]] rfl (as_) ?_; (with_reducible refine (slices_ContainsFunc_int_int.calls k _ _ l1 a0 true _ ?side1 ?side2 gs (bk_ BKs.out) A6.out).mono ?_); (case side1 => exact cb_ HR1.out); (case side2 => exact HC1.out); rintro e w' ⟨rfl, ⟨nd, rfl⟩⟩; refine ⟨_, rfl, ?_⟩))
  first | go_end0 | ((try simp only [Exit.inBlock, Exit.then]); refine bodyPost_ret (results_none rfl _ _ _) rfl ?_)
  exact ⟨rfl, ⟨_, tw_ hB, tw_ hM, tw_ hF, kv_ HO3.out, KeptBy.of_below bl_⟩⟩
 ·replace c7 := Bool.eq_false_iff.mpr c7
  subst c7
  have H1 : ((fetch_list.f k a0).bind fun t134 => (if a2 = true then (fetch_finder_1.j0 k a2 l3 a4 t134 (decide ((t134.length : Int) < (l3.length : Int)))) else (fetch_finder_1.j0 k a2 l3 a4 t134 true))) = some (r1, r2, r3) := by rw [if_neg (show ¬ (false = true) by decide)] at H; exact H
  clear H
  have H := H1
  clear H1
  obtain ⟨t134, A8, H⟩ := bi_ H
  replace H : (if a2 = true then (fetch_finder_1.j0 k a2 l3 a4 t134 (decide ((t134.length : Int) < (l3.length : Int)))) else (fetch_finder_1.j0 k a2 l3 a4 t134 true)) = some (r1, r2, r3) := H
  have HC9 := Aside0.mk H
  clear H
  have hn1_ := blk_ne hB hM (by decide)
  have hn2_ := blk_ne hB hF (by decide)
  have hn3_ := blk_ne hM hF (by decide)
  have hn4_ := hn1_.symm
  have hn5_ := hn2_.symm
  have hn6_ := hn3_.symm
  have hG_ : ∀ k_, w.heap.size ≤ k_ → k_ ≠ gB ∧ k_ ≠ gM ∧ k_ ≠ gF := fun k_ h_ => by have a_ := blk_lt hB; have b_ := blk_lt hM; have c_ := blk_lt hF; refine ⟨?_, ?_, ?_⟩ <;> omega
  go_enter Tryd.func36, Tryd.ntmps36
  go_upto_region 3 with (first | ((with_reducible refine gate_dst (N := 5) rfl ?_); refine be_ #[.int .i64 a0] 3 ?_; intro gs hg ws_ hbox hb; have BKs := Aside0.mk (hbox); replace HO3 := Aside0.mk (Kd.V_below (kv_ HO3.out) hb); replace HB := hb_ hb; clear hb hbox hg; have hcs_ := bc_ BKs 0 (.int .i64 a0); have hcA_ := bc_ (Aside0.mk (tw_ hA)) 0 _; have hcF_ := bc_ (Aside0.mk (tw_ hF)) 0 _; have hcB_ := bc_ (Aside0.mk (tw_ hB)) 0 _; have hcM_ := bc_ (Aside0.mk (tw_ hM)) 0 _; have hfB_ := bz_ (Aside0.mk (tw_ hB)) 0; have hfM_ := bz_ (Aside0.mk (tw_ hM)) 0; have hfF_ := bz_ (Aside0.mk (tw_ hF)) 0) | ((with_reducible refine gate_callee (f := 37) rfl ?_); refine goesL_ (some 9) rfl rfl Tryd.func37 (by kernel_rfl) rfl #[.slice A1 l1.length c1, .func (.func 38) #[] #[.pointer (some ⟨gs, 0, none⟩)]] rfl (as_) ?_; (with_reducible refine (slices_ContainsFunc_int_int.calls k _ _ l1 a0 false _ ?side1 ?side2 gs (bk_ BKs.out) A6.out).mono ?_); (case side1 => exact cb_ HR1.out); (case side2 => exact HC1.out); rintro e w' ⟨rfl, ⟨nd, rfl⟩⟩; refine ⟨_, rfl, ?_⟩) | ((with_reducible refine gate_callee (f := 25) rfl ?_); refine goesL_ (some 11) rfl rfl Tryd.func25 (by kernel_rfl) rfl #[.int .i64 a0] rfl (as_) ?_; (with_reducible refine (fetch_list.calls k a0 t134 _ A8.out).mono ?_); rintro e w10 ⟨v135, rfl, ho0, hb⟩; refine ⟨_, rfl, ?_⟩; replace HO3 := Aside0.mk (Kd.V_elder' (kv_ HO3.out) (Kd.R_base ho0) hb); have HO136 := Aside0.mk (Kd.R_lower (Kd.R_newM (M := fun k_ => (w.heap.size ≤ k_)) ho0 (below_size (bl_)) (fun k_ h_ => h_)) (below_size (bl_))); replace HB := hb_ hb; replace BKs := bb_ BKs hb; have hcA_ := bc_ (Aside0.mk (tw_ hA)) 0 _; have hcF_ := bc_ (Aside0.mk (tw_ hF)) 0 _; have hcB_ := bc_ (Aside0.mk (tw_ hB)) 0 _; have hcM_ := bc_ (Aside0.mk (tw_ hM)) 0 _; have hfB_ := bz_ (Aside0.mk (tw_ hB)) 0; have hfM_ := bz_ (Aside0.mk (tw_ hM)) 0; have hfF_ := bz_ (Aside0.mk (tw_ hF)) 0; clear hb ho0))
  (try simp only [Act.put, List.setIfInBounds_toArray, List.set_cons_zero, List.set_cons_succ])
  go_cut [12] (fun v12 wc => ∃ (kq : Nat) (x12_8 : Bool), v12 = .bool x12_8 ∧ Aside0 (fetch_finder_1.j0 kq a2 l3 a4 t134 x12_8 = some (r1, r2, r3)) ∧ Aside0 (kq ≤ k) ∧ Aside0 (Kd.V (Kd.int .i64) 3 wc w.heap.size (fun k_ => (P3_ k_ ∨ w.heap.size ≤ k_) ∧ some k_ ≠ (v135 : Value).ownBlock) (.slice A3 l3.length c3) l3) ∧ Aside0 (Kd.R (Kd.int .i64) 3 wc w.heap.size (fun k_ => (w.heap.size ≤ k_)) v135 t134) ∧ Aside0 (Below w.heap.size w wc))
  case first =>
   have H := HC9.out
   clear HC9
   by_cases c11 : a2 = true
   ·subst c11
    have H1 : (fetch_finder_1.j0 k true l3 a4 t134 (decide ((t134.length : Int) < (l3.length : Int)))) = some (r1, r2, r3) := by rw [if_pos rfl] at H; exact H
    clear H
    have H := H1
    clear H1
    have H' := Aside0.mk H
    clear H
    obtain ⟨Ao12, co12, eo12⟩ := Kd.R_slice HO136.out
    subst eo12
    have hcA_ := bc_ (Aside0.mk (tw_ hA)) 0 _
    have hcF_ := bc_ (Aside0.mk (tw_ hF)) 0 _
    have hcB_ := bc_ (Aside0.mk (tw_ hB)) 0 _
    have hcM_ := bc_ (Aside0.mk (tw_ hM)) 0 _
    have hfB_ := bz_ (Aside0.mk (tw_ hB)) 0
    have hfM_ := bz_ (Aside0.mk (tw_ hM)) 0
    have hfF_ := bz_ (Aside0.mk (tw_ hF)) 0
    go_wp2
    go_meet
    case rel => exact ⟨_, (decide ((t134.length : Int) < (l3.length : Int))), rs_, H', ⟨by first | omega | exact Nat.le_refl _⟩, ⟨kv_ HO3.out⟩, ⟨by refine kr_ ?_; exact Kd.R_mono HO136.out (fun _ hk => hk.1)⟩, ⟨bl_⟩⟩
   ·replace c11 := Bool.eq_false_iff.mpr c11
    subst c11
    have H1 : (fetch_finder_1.j0 k false l3 a4 t134 true) = some (r1, r2, r3) := by rw [if_neg (show ¬ (false = true) by decide)] at H; exact H
    clear H
    have H := H1
    clear H1
    have H' := Aside0.mk H
    clear H
    have hcA_ := bc_ (Aside0.mk (tw_ hA)) 0 _
    have hcF_ := bc_ (Aside0.mk (tw_ hF)) 0 _
    have hcB_ := bc_ (Aside0.mk (tw_ hB)) 0 _
    have hcM_ := bc_ (Aside0.mk (tw_ hM)) 0 _
    have hfB_ := bz_ (Aside0.mk (tw_ hB)) 0
    have hfM_ := bz_ (Aside0.mk (tw_ hM)) 0
    have hfF_ := bz_ (Aside0.mk (tw_ hF)) 0
    go_wp2
    go_meet
    case rel => exact ⟨_, (true), rs_, H', ⟨by first | omega | exact Nat.le_refl _⟩, ⟨kv_ HO3.out⟩, ⟨by refine kr_ ?_; exact Kd.R_mono HO136.out (fun _ hk => hk.1)⟩, ⟨bl_⟩⟩
  case rest =>
   clear HC9
   try clear c1
   try clear c2
   try clear p2
   try clear c3
   try clear c7
   try clear c11
   obtain ⟨kq, x12_8, rfl, HA, HJ8, HO_3, HO_6, HB⟩ := hcut
   cases kq with
   | zero => exact absurd HA.out (by simp [fetch_finder_1.j0])
   | succ kj8 =>
    have H := HA.out
    clear HA
    simp only [fetch_finder_1.j0] at H
    by_cases c13 : x12_8 = true
    ·subst c13
     have H1 : (some (t134, 1, true)) = some (r1, r2, r3) := by rw [if_pos rfl] at H; exact H
     clear H
     have H := H1
     clear H1
     simp only [Option.some.injEq, Prod.mk.injEq] at H
     obtain ⟨rfl, rfl, rfl⟩ := H
     obtain ⟨Aq_, cq_, eq_⟩ := Kd.R_slice HO_6.out
     subst eq_
     have hcA_ := bc_ (Aside0.mk (tw_ hA)) 0 _
     have hcF_ := bc_ (Aside0.mk (tw_ hF)) 0 _
     have hcB_ := bc_ (Aside0.mk (tw_ hB)) 0 _
     have hcM_ := bc_ (Aside0.mk (tw_ hM)) 0 _
     have hfB_ := bz_ (Aside0.mk (tw_ hB)) 0
     have hfM_ := bz_ (Aside0.mk (tw_ hM)) 0
     have hfF_ := bz_ (Aside0.mk (tw_ hF)) 0
     go_wp2
     first | go_end0 | ((try simp only [Exit.inBlock, Exit.then]); refine bodyPost_ret (results_none rfl _ _ _) rfl ?_)
     exact ⟨rfl, ⟨_, blk_far (blk_far (blk_put (tw_ hB) 0 _ rfl) hn1_ _) hn2_ _, blk_far (blk_put (blk_far (tw_ hM) hn4_ _) 0 _ rfl) hn3_ _, blk_put (blk_far (blk_far (tw_ hF) hn5_ _) hn6_ _) 0 _ rfl, Kd.V_mono (Kd.V_far (p := ⟨gF, 0, none⟩) (Kd.V_far (p := ⟨gM, 0, none⟩) (Kd.V_far (p := ⟨gB, 0, none⟩) (Kd.R_V HO_6.out) (fun k_ hk_ => (hG_ k_ hk_).1) _) (fun k_ hk_ => (hG_ k_ hk_).2.1) _) (fun k_ hk_ => (hG_ k_ hk_).2.2) _) (fun _ hk => .inr hk), (((KeptBy.of_below HB.out).set (.inl (.inl rfl)) _).set (.inl (.inr (.inl rfl))) _).set (.inl (.inr (.inr rfl))) _⟩⟩
    ·replace c13 := Bool.eq_false_iff.mpr c13
     subst c13
     have H1 : (if (t134.length : Int) = (l3.length : Int) then ((slices_Compare_int_int.f kj8 t134 l3).bind fun t137 => (if t137 < 0 then (some (t134, wrap64 (a4 + 1), a2)) else (some (l3, wrap64 (a4 + 1), a2)))) else (some (l3, a4, a2))) = some (r1, r2, r3) := by rw [if_neg (show ¬ (false = true) by decide)] at H; exact H
     clear H
     have H := H1
     clear H1
     by_cases c14 : (t134.length : Int) = (l3.length : Int)
     ·rw [if_pos c14] at H
      have c14b0 : ((t134.length : Int) == (l3.length : Int)) = true := beq_iff_eq.mpr c14
      have c14b1 : ((t134.length : Int) != (l3.length : Int)) = false := bne_eq_false_iff_eq.mpr c14
      have c14b2 : (t134.length == l3.length) = true := by first | simpa using c14 | (simp at c14 ⊢; omega)
      clear c14
      obtain ⟨t137, A15, H⟩ := bi_ H
      replace H : (if t137 < 0 then (some (t134, wrap64 (a4 + 1), a2)) else (some (l3, wrap64 (a4 + 1), a2))) = some (r1, r2, r3) := H
      by_cases c16 : t137 < 0
      ·rw [if_pos c16] at H
       have c16b0 : decide (t137 < 0) = true := decide_eq_true c16
       clear c16
       simp only [Option.some.injEq, Prod.mk.injEq] at H
       obtain ⟨rfl, rfl, rfl⟩ := H
       obtain ⟨Ao17, co17, eo17⟩ := Kd.R_slice HO_6.out
       subst eo17
       have hcA_ := bc_ (Aside0.mk (tw_ hA)) 0 _
       have hcF_ := bc_ (Aside0.mk (tw_ hF)) 0 _
       have hcB_ := bc_ (Aside0.mk (tw_ hB)) 0 _
       have hcM_ := bc_ (Aside0.mk (tw_ hM)) 0 _
       have hfB_ := bz_ (Aside0.mk (tw_ hB)) 0
       have hfM_ := bz_ (Aside0.mk (tw_ hM)) 0
       have hfF_ := bz_ (Aside0.mk (tw_ hF)) 0
       go_wp2_with (first | ((with_reducible refine gate_callee (f := 39) rfl ?_); refine goesL_ (some 33) rfl rfl Tryd.func39 (by kernel_rfl) rfl #[.slice Ao17 t134.length co17, .slice A3 l3.length c3] rfl (as_) ?_; (with_reducible refine (slices_Compare_int_int.calls kj8 _ _ t134 _ _ l3 t137 _ ?side1 ?side2 ?side3 ?side4 A15.out).mono ?_); (case side1 => exact (Kd.R_reads' (Kd.R_far HO_6.out (p := ⟨gM, 0, none⟩) (fun k_ hk_ => (hG_ k_ hk_).2.1) _)).2.2); (case side2 => exact (Kd.R_reads' HO_6.out).2.1); (case side3 => exact (Kd.V_reads' (Kd.V_far HO_3.out (p := ⟨gM, 0, none⟩) (fun k_ hk_ => hk_.1.elim (fun h_ => (hP k_ h_).2.1) (fun h_ => (hG_ k_ h_).2.1)) _)).2.2); (case side4 => exact (Kd.V_reads' HO_3.out).2.1); rintro e w' ⟨rfl, ⟨nd, rfl⟩⟩; refine ⟨_, rfl, ?_⟩))
       first | go_end0 | ((try simp only [Exit.inBlock, Exit.then]); refine bodyPost_ret (results_none rfl _ _ _) rfl ?_)
       exact ⟨rfl, ⟨_, blk_put (blk_drewN (blk_far (tw_ hB) hn1_ _) _) 0 _ rfl, blk_far (blk_drewN (blk_put (tw_ hM) 0 _ rfl) _) hn4_ _, blk_far (blk_drewN (blk_far (tw_ hF) hn6_ _) _) hn5_ _, Kd.V_mono (Kd.V_far (p := ⟨gB, 0, none⟩) (Kd.V_drewN (Kd.V_far (p := ⟨gM, 0, none⟩) (Kd.R_V HO_6.out) (fun k_ hk_ => (hG_ k_ hk_).2.1) _) _) (fun k_ hk_ => (hG_ k_ hk_).1) _) (fun _ hk => .inr hk), (((KeptBy.of_below HB.out).set (.inl (.inr (.inl rfl))) _).drewN _).set (.inl (.inl rfl)) _⟩⟩
      ·rw [if_neg c16] at H
       have c16b0 : decide (t137 < 0) = false := decide_eq_false c16
       clear c16
       simp only [Option.some.injEq, Prod.mk.injEq] at H
       obtain ⟨rfl, rfl, rfl⟩ := H
       obtain ⟨Ao18, co18, eo18⟩ := Kd.R_slice HO_6.out
       subst eo18
       have hcA_ := bc_ (Aside0.mk (tw_ hA)) 0 _
       have hcF_ := bc_ (Aside0.mk (tw_ hF)) 0 _
       have hcB_ := bc_ (Aside0.mk (tw_ hB)) 0 _
       have hcM_ := bc_ (Aside0.mk (tw_ hM)) 0 _
       have hfB_ := bz_ (Aside0.mk (tw_ hB)) 0
       have hfM_ := bz_ (Aside0.mk (tw_ hM)) 0
       have hfF_ := bz_ (Aside0.mk (tw_ hF)) 0
       go_wp2_with (first | ((with_reducible refine gate_callee (f := 39) rfl ?_); refine goesL_ (some 33) rfl rfl Tryd.func39 (by kernel_rfl) rfl #[.slice Ao18 t134.length co18, .slice A3 l3.length c3] rfl (as_) ?_; (with_reducible refine (slices_Compare_int_int.calls kj8 _ _ t134 _ _ l3 t137 _ ?side1 ?side2 ?side3 ?side4 A15.out).mono ?_); (case side1 => exact (Kd.R_reads' (Kd.R_far HO_6.out (p := ⟨gM, 0, none⟩) (fun k_ hk_ => (hG_ k_ hk_).2.1) _)).2.2); (case side2 => exact (Kd.R_reads' HO_6.out).2.1); (case side3 => exact (Kd.V_reads' (Kd.V_far HO_3.out (p := ⟨gM, 0, none⟩) (fun k_ hk_ => hk_.1.elim (fun h_ => (hP k_ h_).2.1) (fun h_ => (hG_ k_ h_).2.1)) _)).2.2); (case side4 => exact (Kd.V_reads' HO_3.out).2.1); rintro e w' ⟨rfl, ⟨nd, rfl⟩⟩; refine ⟨_, rfl, ?_⟩))
       first | go_end0 | ((try simp only [Exit.inBlock, Exit.then]); refine bodyPost_ret (results_none rfl _ _ _) rfl ?_)
       exact ⟨rfl, ⟨_, blk_drewN (blk_far (tw_ hB) hn1_ _) _, blk_drewN (blk_put (tw_ hM) 0 _ rfl) _, blk_drewN (blk_far (tw_ hF) hn6_ _) _, Kd.V_mono (Kd.V_drewN (Kd.V_far (p := ⟨gM, 0, none⟩) HO_3.out (fun k_ hk_ => hk_.1.elim (fun h_ => (hP k_ h_).2.1) (fun h_ => (hG_ k_ h_).2.1)) _) _) (fun _ hk => hk.1), ((KeptBy.of_below HB.out).set (.inl (.inr (.inl rfl))) _).drewN _⟩⟩
     ·rw [if_neg c14] at H
      have c14b0 : ((t134.length : Int) == (l3.length : Int)) = false := beq_eq_false_iff_ne.mpr c14
      have c14b1 : ((t134.length : Int) != (l3.length : Int)) = true := bne_iff_ne.mpr c14
      have c14b2 : (t134.length == l3.length) = false := by first | simpa using c14 | (simp at c14 ⊢; omega)
      simp only [Option.some.injEq, Prod.mk.injEq] at H
      obtain ⟨rfl, rfl, rfl⟩ := H
      obtain ⟨Ao19, co19, eo19⟩ := Kd.R_slice HO_6.out
      subst eo19
      have hcA_ := bc_ (Aside0.mk (tw_ hA)) 0 _
      have hcF_ := bc_ (Aside0.mk (tw_ hF)) 0 _
      have hcB_ := bc_ (Aside0.mk (tw_ hB)) 0 _
      have hcM_ := bc_ (Aside0.mk (tw_ hM)) 0 _
      have hfB_ := bz_ (Aside0.mk (tw_ hB)) 0
      have hfM_ := bz_ (Aside0.mk (tw_ hM)) 0
      have hfF_ := bz_ (Aside0.mk (tw_ hF)) 0
      go_wp2
      first | go_end0 | ((try simp only [Exit.inBlock, Exit.then]); refine bodyPost_ret (results_none rfl _ _ _) rfl ?_)
      exact ⟨rfl, ⟨_, tw_ hB, tw_ hM, tw_ hF, Kd.V_mono HO_3.out (fun _ hk => hk.1), KeptBy.of_below HB.out⟩⟩

/-! ### fetch_quarter_fewest: function 15 -/
mutual
def fetch_quarter_fewest.l0 : Nat → List Int → List Int → Int → Int → Int → List (S39) → Option (List Int × Int)
  | 0, _, _, _, _, _, _ => none
  | k + 1, x4, x11, x12, x13, x139000, x139001 => if x13 < x12 then (if 0 ≤ x13 then (if x13 < (x11.length : Int) then ((fetch_quarter_crossing.f k x139000 x139001 (rd x11 x13)).bind fun t143 => (if x4.length < 17592186044416 then (fetch_quarter_fewest.l0 k (x4 ++ [t143]) x11 x12 (wrap64 (x13 + 1)) x139000 x139001) else (none))) else (none)) else (none)) else (fetch_quarter_fewest.l1 k x4 (shl .i64 1 (x139001.length : Int)) 0 ([] : List Int) 0 false)
def fetch_quarter_fewest.l1 : Nat → List Int → Int → Int → List Int → Int → Bool → Option (List Int × Int)
  | 0, _, _, _, _, _, _ => none
  | k + 1, x4, x32, x33, x44, x45, x46 => if x33 < x32 then ((fetch_finder_1.f k x33 x4 x46 x44 x45).bind fun bt147 => (fetch_quarter_fewest.l1 k x4 x32 (wrap64 (x33 + 1)) bt147.1 bt147.2.1 bt147.2.2)) else (some (x44, x45))
end
def fetch_quarter_fewest.f (k : Nat) (a0_0 : Int) (l0_1 : List (S39)) : Option (List Int × Int) := (fetch_quarter_cuts.f k a0_0 l0_1).bind fun t139 => (fetch_quarter_fewest.l0 k ([] : List Int) t139 (t139.length : Int) 0 a0_0 l0_1)
theorem fetch_quarter_fewest.mono_l : ∀ k, (∀ y0 y1 y2 y3 y4 y5, LeO (fetch_quarter_fewest.l0 k y0 y1 y2 y3 y4 y5) (fetch_quarter_fewest.l0 (k + 1) y0 y1 y2 y3 y4 y5)) ∧ (∀ y0 y1 y2 y3 y4 y5, LeO (fetch_quarter_fewest.l1 k y0 y1 y2 y3 y4 y5) (fetch_quarter_fewest.l1 (k + 1) y0 y1 y2 y3 y4 y5))
  | 0 => ⟨fun _ _ _ _ _ _ r h => by simp [fetch_quarter_fewest.l0] at h, fun _ _ _ _ _ _ r h => by simp [fetch_quarter_fewest.l1] at h⟩
  | k + 1 => by
    obtain ⟨ih0, ih1⟩ := fetch_quarter_fewest.mono_l k
    refine ⟨?_, ?_⟩
    · intro y0 y1 y2 y3 y4 y5
      unfold fetch_quarter_fewest.l0
      with_reducible repeat' first | exact ih0 _ _ _ _ _ _ | exact ih1 _ _ _ _ _ _ | exact fetch_finder_1.mono _ _ _ _ _ _ | exact fetch_quarter_crossing.mono _ _ _ _ | exact fetch_quarter_cuts.mono _ _ _ | exact LeO.refl _ | exact LeO.none _ | refine LeO.ite ?_ ?_ | refine LeO.bind ?_ (fun _ => ?_)
    · intro y0 y1 y2 y3 y4 y5
      unfold fetch_quarter_fewest.l1
      with_reducible repeat' first | exact ih0 _ _ _ _ _ _ | exact ih1 _ _ _ _ _ _ | exact fetch_finder_1.mono _ _ _ _ _ _ | exact fetch_quarter_crossing.mono _ _ _ _ | exact fetch_quarter_cuts.mono _ _ _ | exact LeO.refl _ | exact LeO.none _ | refine LeO.ite ?_ ?_ | refine LeO.bind ?_ (fun _ => ?_)
theorem fetch_quarter_fewest.mono : ∀ a0 a1 k, LeO (fetch_quarter_fewest.f k a0 a1) (fetch_quarter_fewest.f (k + 1) a0 a1) := by
  intro a0 a1 k
  obtain ⟨ih0, ih1⟩ := fetch_quarter_fewest.mono_l k
  unfold fetch_quarter_fewest.f
  with_reducible repeat' first | exact ih0 _ _ _ _ _ _ | exact ih1 _ _ _ _ _ _ | exact fetch_finder_1.mono _ _ _ _ _ _ | exact fetch_quarter_crossing.mono _ _ _ _ | exact fetch_quarter_cuts.mono _ _ _ | exact LeO.refl _ | exact LeO.none _ | refine LeO.ite ?_ ?_ | refine LeO.bind ?_ (fun _ => ?_)
set_option maxHeartbeats 8000000 in
set_option maxRecDepth 100000 in
theorem fetch_finder_2.calls (gB gM : Nat) (vb : Value) (m : Int) (w : World) (hB : w.heap[gB]? = some (.cells #[vb] 29 (0, 0))) (hM : w.heap[gM]? = some (.cells #[.int .i64 m] 3 (0, 0))) :
    Calls Tryd.prog 40 #[.pointer (some ⟨gB, 0, none⟩), .pointer (some ⟨gM, 0, none⟩)] w fun e w' => e = .returned (.tuple #[vb, .int .i64 m]) ∧ Drawn0 w w' := by
 have hcB_ := bc_ (Aside0.mk hB) 0 _
 have hcM_ := bc_ (Aside0.mk hM) 0 _
 go_enter Tryd.func40, Tryd.ntmps40
 go_wp2
 repeat (go_quiet (fail); try go_wp2)
 go_ret2
 exact ⟨rfl, by repeat (first | exact Drawn0.refl _ | apply Drawn0.step)⟩
set_option maxHeartbeats 8000000 in
set_option maxRecDepth 100000 in
theorem fetch_finder.calls (A1 : Option Addr) (n1 c1 : Nat) (w : World) :
    Calls Tryd.prog 28 #[.slice A1 n1 c1] w fun e w' => ∃ gA gF gB gM : Nat, e = .returned (.tuple #[.func (.func 36) #[] #[.pointer (some ⟨gA, 0, none⟩), .pointer (some ⟨gF, 0, none⟩), .pointer (some ⟨gB, 0, none⟩), .pointer (some ⟨gM, 0, none⟩)], .func (.func 40) #[] #[.pointer (some ⟨gB, 0, none⟩), .pointer (some ⟨gM, 0, none⟩)]]) ∧
      (w.heap.size ≤ gA ∧ w.heap.size ≤ gF ∧ w.heap.size ≤ gB ∧ w.heap.size ≤ gM ∧ gA ≠ gB) ∧ w'.heap[gA]? = some (.cells #[.slice A1 n1 c1] 29 (0, 0)) ∧ w'.heap[gF]? = some (.cells #[.bool false] 4 (0, 0)) ∧ w'.heap[gB]? = some (.cells #[.slice none 0 0] 29 (0, 0)) ∧ w'.heap[gM]? = some (.cells #[.int .i64 0] 3 (0, 0)) ∧ Below w.heap.size w w' := by
 have HB := Aside0.mk (Below.refl w.heap.size w)
 go_enter Tryd.func28, Tryd.ntmps28
 go_wp2_with (first | ((with_reducible refine gate_dst (N := 1) rfl ?_); refine be_ #[.slice A1 n1 c1] 29 ?_; intro gA hg wa_ hbox hb; have BKA := Aside0.mk hbox; have GA := gw_ hg; replace HB := hb_ hb; clear hb hbox hg) | ((with_reducible refine gate_dst (N := 4) rfl ?_); refine be_ #[.slice none 0 0] 29 ?_; intro gB hg wb_ hbox hb; have BKB := Aside0.mk hbox; have GB := gw_ hg; replace HB := hb_ hb; have NAB := nl_ hg BKA; replace BKA := bb_ BKA hb; clear hb hbox hg) | ((with_reducible refine gate_dst (N := 5) rfl ?_); refine be_ #[.int .i64 0] 3 ?_; intro gM hg wm_ hbox hb; have BKM := Aside0.mk hbox; have GM := gw_ hg; replace HB := hb_ hb; replace BKA := bb_ BKA hb; replace BKB := bb_ BKB hb; clear hb hbox hg) | ((with_reducible refine gate_dst (N := 6) rfl ?_); refine be_ #[.bool false] 4 ?_; intro gF hg wf_ hbox hb; have BKF := Aside0.mk hbox; have GF := gw_ hg; replace HB := hb_ hb; replace BKA := bb_ BKA hb; replace BKB := bb_ BKB hb; replace BKM := bb_ BKM hb; clear hb hbox hg; have hcF_ := bc_ BKF 0 (.bool false); have hfF_ := bz_ BKF 0; have hcM_ := bc_ BKM 0 (.int .i64 0); have hfM_ := bz_ BKM 0; have hn1_ := blk_ne BKM.out BKF.out (by decide); have hn2_ := hn1_.symm))
 go_ret2
 have hn3_ := blk_ne BKA.out BKM.out (by decide)
 have hn4_ := blk_ne BKA.out BKF.out (by decide)
 have hn5_ := blk_ne BKB.out BKM.out (by decide)
 have hn6_ := blk_ne BKB.out BKF.out (by decide)
 exact ⟨gA, gF, gB, gM, rfl, ⟨GA.out, GF.out, GB.out, GM.out, NAB.out⟩, blk_far (blk_far BKA.out hn3_ _) hn4_ _, blk_put (blk_far BKF.out hn2_ _) 0 _ rfl, blk_far (blk_far BKB.out hn5_ _) hn6_ _, blk_far (blk_put BKM.out 0 _ rfl) hn1_ _, below_set (below_set HB.out GM.out) GF.out⟩
set_option maxHeartbeats 8000000 in
set_option maxRecDepth 100000 in
theorem fetch_quarter_fewest.calls (k : Nat) (a0_0 : Int) (A0_1 : Option Addr) (c0_1 : Nat) (l0_1 : List (S39)) (r1 : List Int) (r2 : Int) (w : World) (hr0_1 : Kd.C k39 w A0_1 l0_1.length l0_1) (hc0_1 : l0_1.length ≤ c0_1) (h : fetch_quarter_fewest.f k a0_0 l0_1 = some (r1, r2)) :
    Calls Tryd.prog 15 #[.agg #[.int .i64 a0_0, .slice A0_1 l0_1.length c0_1]] w fun e w' => ∃ v0_ : Value, e = .returned (.tuple #[v0_, .int .i64 r2]) ∧ Kd.V (Kd.int .i64) 3 w' w.heap.size (fun k_ => (w.heap.size ≤ k_)) v0_ r1 ∧ Below w.heap.size w w' := by
 have hu48 := Tryd.underlying48
 have HR0_1 := Aside0.mk hr0_1
 have HC0_1 := Aside0.mk hc0_1
 clear hr0_1 hc0_1
 have HB := Aside0.mk (Below.refl w.heap.size w)
 have H : ((fetch_quarter_cuts.f k a0_0 l0_1).bind fun t139 => (fetch_quarter_fewest.l0 k ([] : List Int) t139 (t139.length : Int) 0 a0_0 l0_1)) = some (r1, r2) := h
 clear h
 obtain ⟨t139, A2, H⟩ := bi_ H
 replace H : (fetch_quarter_fewest.l0 k ([] : List Int) t139 (t139.length : Int) 0 a0_0 l0_1) = some (r1, r2) := H
 have H' := Aside0.mk H
 clear H
 go_enter Tryd.func15, Tryd.ntmps15
 go_wp2_with (first | ((with_reducible refine gate_dst (N := 1) rfl ?_); refine be_ #[.int .i64 a0_0, .slice A0_1 l0_1.length c0_1] 48 ?_; intro gb138 hg w3 hbox hb; have BK138 := Aside0.mk (hbox); have GW138 := gw_ hg; have GE138 := gw_ hg; replace HB := hb_ hb; clear hb hbox hg; have hcz4_0 := bc_ BK138 0 (.int .i64 a0_0); have hcz4_1 := bc_ BK138 1 (.slice A0_1 l0_1.length c0_1); have hfz4_0 := bz_ BK138 0; have hfz4_1 := bz_ BK138 1) | ((with_reducible refine gate_callee (f := 26) rfl ?_); refine goesL_ (some 11) rfl rfl Tryd.func26 (by kernel_rfl) rfl #[.agg #[.int .i64 a0_0, .slice A0_1 l0_1.length c0_1]] rfl (as_) ?_; (with_reducible refine (fetch_quarter_cuts.calls k a0_0 _ _ l0_1 t139 _ ?side1 ?side2 A2.out).mono ?_); (case side1 => exact cb_ HR0_1.out); (case side2 => exact HC0_1.out); rintro e w5 ⟨v140, rfl, ho0, hb⟩; refine ⟨_, rfl, ?_⟩; have HO141 := Aside0.mk (Kd.R_lower (Kd.R_newM (M := fun k_ => (w.heap.size ≤ k_)) ho0 (below_size (bl_)) (fun k_ h_ => h_)) (below_size (bl_))); replace BK138 := bb_ BK138 hb; replace HB := hb_ hb; clear hb ho0; obtain ⟨Ao6, co6, eo6⟩ := Kd.R_slice HO141.out; subst eo6))
 go_loopg [4, 13] k (fun kq v4 v13 w' => ∃ (x4_1 : List Int) (x13_1 : Int), v13 = .int .i64 x13_1 ∧ Aside0 (fetch_quarter_fewest.l0 kq x4_1 t139 (t139.length : Int) x13_1 a0_0 l0_1 = some (r1, r2)) ∧ Aside0 (kq ≤ k) ∧ Aside0 (Kd.R (Kd.int .i64) 3 w' w.heap.size (fun k_ => (w.heap.size ≤ k_) ∧ some k_ ≠ ((.slice Ao6 t139.length co6) : Value).ownBlock) v4 x4_1) ∧ Aside0 (Kd.R (Kd.int .i64) 3 w' w.heap.size (fun k_ => (w.heap.size ≤ k_) ∧ some k_ ≠ (v4 : Value).ownBlock) (.slice Ao6 t139.length co6) t139) ∧ Aside0 (w'.heap[gb138]? = some (.cells #[.int .i64 a0_0, (.slice A0_1 l0_1.length c0_1)] 48 (0, 0))) ∧ Aside0 (Below w.heap.size w w'))
 case atStart => exact ⟨(([] : List Int)), (0), rs_, H', ⟨Nat.le_refl _⟩, ⟨by first | exact Kd.R_nil _ _ _ _ _ | exact Kd.N_nil _ _ _ _ _ | exact Kd.V_nil _ _ _ _ _ | exact Kd.Q_nil _ _ _ _ _ | exact Kd.S_nil _ _ _ _ _⟩, ⟨by refine kr_ ?_; exact Kd.R_mono HO141.out (fun _ hk => ⟨hk.1, (by simp [Value.ownBlock])⟩)⟩, ⟨bk_ BK138.out⟩, ⟨bl_⟩⟩
 case round =>
  clear H'
  try clear c1
  try clear c2
  try clear p2
  try clear hcz4_0
  try clear hcz4_1
  try clear hfz4_0
  try clear hfz4_1
  obtain ⟨x4_1, x13_1, rfl, HA, HK1, HO_4, HO_11, BK138, HB⟩ := hrel
  cases gk with
  | zero => exact absurd HA.out (by simp [fetch_quarter_fewest.l0])
  | succ k1 =>
   have H := HA.out
   clear HA
   simp only [fetch_quarter_fewest.l0] at H
   by_cases c7 : x13_1 < (t139.length : Int)
   ·rw [if_pos c7] at H
    have c7b0 : decide (x13_1 < (t139.length : Int)) = true := decide_eq_true c7
    clear c7
    obtain ⟨c8b0, H⟩ := fp_ H
    obtain ⟨c9b0, H⟩ := fp_ H
    obtain ⟨t143, A10, H⟩ := bi_ H
    replace H : (if x4_1.length < 17592186044416 then (fetch_quarter_fewest.l0 k1 (x4_1 ++ [t143]) t139 (t139.length : Int) (wrap64 (x13_1 + 1)) a0_0 l0_1) else (none)) = some (r1, r2) := H
    have c11 : x4_1.length < 17592186044416 := fl_ fun c11 => by rw [if_neg c11] at H; exact absurd H (by simp)
    rw [if_pos c11] at H
    have LMc11 := Aside0.mk c11
    clear c11
    obtain ⟨y144, hy144⟩ : ∃ y_ : List Int, y_ = (x4_1 ++ [t143]) := ⟨_, rfl⟩
    replace H : (fetch_quarter_fewest.l0 k1 y144 t139 (t139.length : Int) (wrap64 (x13_1 + 1)) a0_0 l0_1) = some (r1, r2) := by first | (rw [hy144]; with_reducible exact H) | (have H2_ := (Option.bind_some _ _).symm.trans H; rw [hy144]; with_reducible exact H2_) | (have H2_ := (Option.bind_some _ _).symm.trans H; with_reducible exact H2_) | with_reducible exact H | (rw [hy144]; exact H) | exact H
    have Ny144 := Aside0.mk hy144
    clear hy144
    have H' := Aside0.mk H
    clear H
    obtain ⟨ad142, e142, hx142_0, p142, q142⟩ := ai_ (Kd.R_reads' HO_11.out).2.2 x13_1
    cases e142
    have hcz12_0 := bc_ BK138 0 (.int .i64 a0_0)
    have hcz12_1 := bc_ BK138 1 (.slice A0_1 l0_1.length c0_1)
    have hfz12_0 := bz_ BK138 0
    have hfz12_1 := bz_ BK138 1
    go_wp2_with (first | ((with_reducible refine gate_callee (f := 27) rfl ?_); refine goesL_ (some 20) rfl rfl Tryd.func27 (by kernel_rfl) rfl #[.agg #[.int .i64 a0_0, .slice A0_1 l0_1.length c0_1], .int .i64 (rd t139 x13_1)] rfl (as_) ?_; (with_reducible refine (fetch_quarter_crossing.calls k1 a0_0 _ _ l0_1 (rd t139 x13_1) t143 _ ?side1 ?side2 A10.out).mono ?_); (case side1 => exact cb_ HR0_1.out); (case side2 => exact HC0_1.out); rintro e w13 ⟨rfl, hb⟩; refine ⟨_, rfl, ?_⟩; replace HO_4 := rb_ HO_4 hb; replace HO_11 := rb_ HO_11 hb; replace BK138 := bb_ BK138 hb; replace HB := hb_ hb; clear hb) | ((with_reducible refine gate_builtin (b := .append) (xs := #[.tmp 17, .tmp 21]) rfl ?_); at_builtin; refine Kd.R_append (Kd.int .i64) (w0 := w) w.heap.size rfl (.tmp 17) (.tmp 21) 29 3 (.int .i64 0) 8 rfl Tryd.underlying29 info3 rfl (by decide) (by omega) u4 x4_1 t143 [.int .i64 t143] (fun k_ => (w.heap.size ≤ k_) ∧ some k_ ≠ (.slice (some ad142) t139.length co6 : Value).ownBlock) (fun _ => False) rfl rfl ?aP (fun _ hk => hk.elim) ?aF ?aO ?aB ?aS ?aL ?_; (case aP => exact rfl); (case aB => exact (bl_)); (case aF => exact (fun k_ hk => ⟨(Nat.le_trans (below_size (bl_)) hk), Kd.fresh' (Kd.R_lt (kr_ HO_11.out)) k_ hk⟩)); (case aO => exact (kr_ HO_4.out)); (case aS => exact (below_size (bl_))); (case aL => have := LMc11.out; omega); intro v145 w14 ho hb hg hat; rw [← Ny144.out] at ho; replace HO_11 := Aside0.mk (Kd.R_after (ok := (fun k_ => (w.heap.size ≤ k_))) (kr_ HO_11.out) hg hat); replace BK138 := Aside0.mk (blk_grown (g := gb138) (o := .cells #[.int .i64 a0_0, .slice A0_1 l0_1.length c0_1] 48 (0, 0)) (bk_ BK138.out) hg (Kd.R_ne HO_4.out BK138.out (by decide))); replace HB := Aside0.mk (hb); have HO146 := Aside0.mk (ho); clear HO_4; clear ho hb hg hat))
    go_roundg k1
    case measure => have := HK1.out; omega
    case rel => exact ⟨(y144), (wrap64 (x13_1 + 1)), rs_, H', ⟨by have := HK1.out; omega⟩, ⟨kr_ HO146.out⟩, ⟨kr_ HO_11.out⟩, ⟨bk_ BK138.out⟩, ⟨bl_⟩⟩
   ·rw [if_neg c7] at H
    have c7b0 : decide (x13_1 < (t139.length : Int)) = false := decide_eq_false c7
    clear c7
    obtain ⟨ji15, hji15⟩ : ∃ j_ : Int, (shl .i64 1 (l0_1.length : Int)) = j_ := ⟨_, rfl⟩
    replace H : (fetch_quarter_fewest.l1 k1 x4_1 ji15 0 ([] : List Int) 0 false) = some (r1, r2) := by first | (rw [hji15] at H; exact H) | (simp only [hji15] at H ⊢; exact H)
    have hji15_ : (IntKind.i64.wrap (1 * 2 ^ min (l0_1.length : Int).toNat 64)) = ji15 := hji15
    have hji15z : (l0_1.length : Int) ≤ 64 → (IntKind.i64.wrap (1 * 2 ^ (l0_1.length : Int).toNat)) = ji15 := shl_small hji15
    have hji15p : (IntKind.i64.wrap (1 * 2 ^ min l0_1.length 64)) = ji15 := hji15_
    have hji15q : (l0_1.length : Int) ≤ 64 → (IntKind.i64.wrap (1 * 2 ^ l0_1.length)) = ji15 := hji15z
    have hji15r : (IntKind.i64.wrap (2 ^ min l0_1.length 64)) = ji15 := by have h_ := hji15p; rw [Int.one_mul] at h_; exact h_
    have hji15s : (l0_1.length : Int) ≤ 64 → (IntKind.i64.wrap (2 ^ l0_1.length)) = ji15 := fun hle_ => by have h_ := hji15q hle_; rw [Int.one_mul] at h_; exact h_
    have hji15u : (IntKind.i64.wrap (2 ^ min (l0_1.length : Int).toNat 64)) = ji15 := by have h_ := hji15_; rw [Int.one_mul] at h_; exact h_
    have hji15v : (l0_1.length : Int) ≤ 64 → (IntKind.i64.wrap (2 ^ (l0_1.length : Int).toNat)) = ji15 := fun hle_ => by have h_ := hji15z hle_; rw [Int.one_mul] at h_; exact h_
    have hji15y : (wrap64 (1 * 2 ^ min (l0_1.length : Int).toNat 64)) = ji15 := (i64_w _).symm.trans hji15_
    have hji15x : (l0_1.length : Int) ≤ 64 → (wrap64 (1 * 2 ^ (l0_1.length : Int).toNat)) = ji15 := fun h_ => (i64_w _).symm.trans (hji15z h_)
    have H' := Aside0.mk H
    clear H
    obtain ⟨Ao4_, co4_, eo4_⟩ := Kd.R_slice HO_4.out
    subst eo4_
    have HBD_ := Aside0.mk (Kd.R_bound HO_4.out)
    go_wp2_with (first | ((with_reducible refine gate_callee (f := 28) rfl ?_); refine goesL_ (some 26) rfl rfl Tryd.func28 (by kernel_rfl) rfl #[.slice Ao4_ x4_1.length co4_] rfl (as_) ?_; refine (fetch_finder.calls _ _ _ _).mono ?_; rintro e wf_ ⟨gA, gF, gB, gM, rfl, ⟨ga_, gf_, gb_, gm_, nab_⟩, ha_, hf_, hb0_, hm_, hb⟩; refine ⟨_, rfl, ?_⟩; have BKA := Aside0.mk ha_; have BKF := Aside0.mk hf_; have BKB := Aside0.mk hb0_; have BKM := Aside0.mk hm_; have HR4_ : Aside0 (Kd.R (Kd.int .i64) 3 wf_ w.heap.size (fun k_ => w.heap.size ≤ k_ ∧ k_ ≠ gB ∧ k_ ≠ gM ∧ k_ ≠ gF) (.slice Ao4_ x4_1.length co4_) x4_1) := ⟨Kd.R_mono (Kd.R_below HBD_.out hb) (fun k_ hk_ => by have h1_ := hk_.2.1; have h2_ := hk_.2.2.1; refine ⟨h1_, ?_, ?_, ?_⟩ <;> omega)⟩; have HGS_ : Aside0 ((w.heap.size ≤ gA ∧ w.heap.size ≤ gF ∧ w.heap.size ≤ gB ∧ w.heap.size ≤ gM) ∧ (gb138 ≠ gB ∧ gb138 ≠ gM ∧ gb138 ≠ gF) ∧ (gA ≠ gB ∧ gA ≠ gM ∧ gA ≠ gF)) := ⟨by have h1_ := below_size HB.out; have h2_ := blk_lt BK138.out; have h3_ := blk_ne ha_ hm_ (by decide); have h4_ := blk_ne ha_ hf_ (by decide); refine ⟨⟨?_, ?_, ?_, ?_⟩, ⟨?_, ?_, ?_⟩, nab_, h3_, h4_⟩ <;> omega⟩; replace BK138 := bb_ BK138 hb; replace HB := hb_ hb; clear hb ha_ hf_ hb0_ hm_ ga_ gf_ gb_ gm_ nab_ HBD_; have hcq0_ := bc_ BK138 0 _; have hcq1_ := bc_ BK138 1 _))
    go_loopg [33] k1 (fun kq v33 w' => ∃ (x33_2 : Int) (x44_2 : List Int) (x45_2 : Int) (x46_2 : Bool) (v44_ : Value), v33 = .int .i64 x33_2 ∧ Aside0 (fetch_quarter_fewest.l1 kq x4_1 ji15 x33_2 x44_2 x45_2 x46_2 = some (r1, r2)) ∧ Aside0 (kq ≤ k1) ∧ Aside0 (Kd.R (Kd.int .i64) 3 w' w.heap.size (fun k_ => w.heap.size ≤ k_ ∧ k_ ≠ gB ∧ k_ ≠ gM ∧ k_ ≠ gF) (.slice Ao4_ x4_1.length co4_) x4_1) ∧ Aside0 (Kd.V (Kd.int .i64) 3 w' w.heap.size (fun k_ => w.heap.size ≤ k_ ∧ k_ ≠ gB ∧ k_ ≠ gM ∧ k_ ≠ gF) v44_ x44_2) ∧ Aside0 (w'.heap[gA]? = some (.cells #[.slice Ao4_ x4_1.length co4_] 29 (0, 0))) ∧ Aside0 (w'.heap[gF]? = some (.cells #[.bool x46_2] 4 (0, 0))) ∧ Aside0 (w'.heap[gB]? = some (.cells #[v44_] 29 (0, 0))) ∧ Aside0 (w'.heap[gM]? = some (.cells #[.int .i64 x45_2] 3 (0, 0))) ∧ Aside0 (w'.heap[gb138]? = some (.cells #[.int .i64 a0_0, (.slice A0_1 l0_1.length c0_1)] 48 (0, 0))) ∧ Aside0 (Below w.heap.size w w'))
    case atStart => exact ⟨(0), ([] : List Int), (0), (false), _, rs_, H', ⟨Nat.le_refl _⟩, ⟨kr_ HR4_.out⟩, ⟨Kd.R_V (base := w.heap.size) (Kd.R_nil _ _ _ _ _)⟩, ⟨bk_ BKA.out⟩, ⟨bk_ BKF.out⟩, ⟨bk_ BKB.out⟩, ⟨bk_ BKM.out⟩, ⟨bk_ BK138.out⟩, ⟨bl_⟩⟩
    case round =>
     clear H'
     try clear c1
     try clear p1
     try clear q1
     try clear hx1
     try clear c2
     try clear p2
     try clear p6
     try clear c7
     try clear c7b0
     try clear c8
     try clear c8b0
     try clear c9
     try clear c9b0
     try clear c11
     try clear p14
     try clear q14
     try clear hx14
     try clear c15
     try clear hcz12_0
     try clear hcz12_1
     try clear hcz16_0
     try clear hcz16_1
     try clear hcz4_0
     try clear hcz4_1
     try clear hfz12_0
     try clear hfz12_1
     try clear hfz16_0
     try clear hfz16_1
     try clear hfz4_0
     try clear hfz4_1
     try clear hx142_0
     try clear p142
     try clear p2
     try clear q142
     clear HR4_ BKA BKF BKB BKM
     obtain ⟨x33_2, x44_2, x45_2, x46_2, v44_, rfl, HA, HK2, HR4_, HO_44, BKA, BKF, BKB, BKM, BK138, HB⟩ := hrel
     cases gk with
     | zero => exact absurd HA.out (by simp [fetch_quarter_fewest.l1])
     | succ k2 =>
      have H := HA.out
      clear HA
      simp only [fetch_quarter_fewest.l1] at H
      by_cases c17 : x33_2 < ji15
      ·rw [if_pos c17] at H
       have c17b0 : decide (x33_2 < ji15) = true := decide_eq_true c17
       clear c17
       obtain ⟨⟨t147, t150, t151⟩, A18, H⟩ := bi_ H
       replace H : (fetch_quarter_fewest.l1 k2 x4_1 ji15 (wrap64 (x33_2 + 1)) t147 t150 t151) = some (r1, r2) := H
       have H' := Aside0.mk H
       clear H
       obtain ⟨Ao20, co20, eo20⟩ := Kd.V_slice HO_44.out
       subst eo20
       go_wp2_with (first | ((with_reducible refine gate_dst (N := 38) rfl ?_); refine goesV_ (some 38) rfl rfl rfl rfl Tryd.func36 (by kernel_rfl) rfl #[.int .i64 x33_2, .pointer (some ⟨gA, 0, none⟩), .pointer (some ⟨gF, 0, none⟩), .pointer (some ⟨gB, 0, none⟩), .pointer (some ⟨gM, 0, none⟩)] (as_) ?_; refine (fetch_finder_1.calls k2 x33_2 _ _ x4_1 x46_2 (fun k_ => w.heap.size ≤ k_ ∧ k_ ≠ gB ∧ k_ ≠ gM ∧ k_ ≠ gF) _ _ x44_2 x45_2 t147 t150 t151 _ ?side1 ?side2 ?side3 gA gF gB gM BKA.out BKF.out BKB.out BKM.out (fun k_ hk_ => hk_.2) A18.out).mono ?_; (case side1 => exact (Kd.R_reads' HR4_.out).2.2); (case side2 => exact (Kd.R_reads' HR4_.out).2.1); (case side3 => exact HO_44.out); rintro e wn_ ⟨rfl, v0_, hB_, hM_, hF_, hV_, hk_⟩; refine ⟨_, rfl, ?_⟩; have HN44_ : Aside0 (Kd.V (Kd.int .i64) 3 wn_ w.heap.size (fun k_ => w.heap.size ≤ k_ ∧ k_ ≠ gB ∧ k_ ≠ gM ∧ k_ ≠ gF) v0_ t147) := ⟨Kd.V_mono hV_ (fun k_ h_ => h_.elim id (fun h_ => by have a_ := below_size HB.out; have b_ := blk_lt BKB.out; have c_ := blk_lt BKM.out; have d_ := blk_lt BKF.out; refine ⟨?_, ?_, ?_, ?_⟩ <;> omega))⟩; replace HR4_ := Aside0.mk (Kd.R_kept HR4_.out hk_.kept (fun k_ h_ hs_ => by rcases hs_ with h1_ | h1_ | h1_; exact h_.2.1 h1_; exact h_.2.2.1 h1_; exact h_.2.2.2 h1_)); replace BKA := Aside0.mk (blk_kept BKA.out hk_.kept (fun hs_ => by rcases hs_ with h1_ | h1_ | h1_; exact HGS_.out.2.2.1 h1_; exact HGS_.out.2.2.2.1 h1_; exact HGS_.out.2.2.2.2 h1_)); replace BK138 := Aside0.mk (blk_kept BK138.out hk_.kept (fun hs_ => by rcases hs_ with h1_ | h1_ | h1_; exact HGS_.out.2.1.1 h1_; exact HGS_.out.2.1.2.1 h1_; exact HGS_.out.2.1.2.2 h1_)); replace HB := Aside0.mk (hk_.below HB.out (below_size HB.out) (fun k_ hs_ => by have q_ := HGS_.out.1; rcases hs_ with h1_ | h1_ | h1_ <;> omega)); replace BKB := Aside0.mk hB_; replace BKM := Aside0.mk hM_; replace BKF := Aside0.mk hF_; clear hB_ hM_ hF_ hV_ hk_))
       go_roundg k2
       case measure => have := HK1.out; have := HK2.out; omega
       case rel => exact ⟨(wrap64 (x33_2 + 1)), (t147), (t150), (t151), v0_, rs_, H', ⟨by have := HK1.out; have := HK2.out; omega⟩, ⟨kr_ HR4_.out⟩, ⟨kv_ HN44_.out⟩, ⟨bk_ BKA.out⟩, ⟨bk_ BKF.out⟩, ⟨bk_ BKB.out⟩, ⟨bk_ BKM.out⟩, ⟨bk_ BK138.out⟩, ⟨bl_⟩⟩
      ·rw [if_neg c17] at H
       have c17b0 : decide (x33_2 < ji15) = false := decide_eq_false c17
       clear c17
       simp only [Option.some.injEq, Prod.mk.injEq] at H
       obtain ⟨rfl, rfl⟩ := H
       go_wp2_with (first | ((with_reducible refine gate_dst (N := 41) rfl ?_); refine goesV_ (some 41) rfl rfl rfl rfl Tryd.func40 (by kernel_rfl) rfl #[.pointer (some ⟨gB, 0, none⟩), .pointer (some ⟨gM, 0, none⟩)] (as_) ?_; refine (fetch_finder_2.calls gB gM _ x45_2 _ BKB.out BKM.out).mono ?_; rintro e w' ⟨rfl, ⟨nd, rfl⟩⟩; refine ⟨_, rfl, ?_⟩))
       go_ret2
       exact ⟨_, by first | rfl | (simp [errW_none, errW_some] <;> rfl) | (simp only [← hji15]; first | rfl | (simp [errW_none, errW_some] <;> rfl)) | (simp [*, errW_none, errW_some] <;> rfl), by refine kv_ ?_; exact Kd.V_mono HO_44.out (fun _ hk => hk.1), bl_⟩

/-! ### fetch_Mend: function 8 -/
def fetch_Mend.f (k : Nat) (a0 : Int) (l1 : List (S39)) : Option (List Int × Int) := (fetch_read.f k a0 l1).bind fun bt152 => (if bt152.2.2 = 0 then ((fetch_quarter_fewest.f k bt152.1 bt152.2.1).bind fun bt158 => (some (bt158.1, 0))) else (some (([] : List Int), bt152.2.2)))
theorem fetch_Mend.mono : ∀ a0 a1 k, LeO (fetch_Mend.f k a0 a1) (fetch_Mend.f (k + 1) a0 a1) := by
  intro a0 a1 k
  unfold fetch_Mend.f
  with_reducible repeat' first | exact fetch_quarter_fewest.mono _ _ _ | exact fetch_read.mono _ _ _ | exact LeO.refl _ | exact LeO.none _ | refine LeO.ite ?_ ?_ | refine LeO.bind ?_ (fun _ => ?_)
set_option maxHeartbeats 8000000 in
set_option maxRecDepth 100000 in
theorem fetch_Mend.calls (k : Nat) (a0 : Int) (P1_ : Nat → Prop) (A1 : Option Addr) (c1 : Nat) (l1 : List (S39)) (r1 : List Int) (r2 : Int) (w : World) (hs1 : Kd.V k39 39 w w.heap.size (fun k_ => P1_ k_) (.slice A1 l1.length c1) l1) (h : fetch_Mend.f k a0 l1 = some (r1, r2)) :
    Calls Tryd.prog 8 #[.int .i64 a0, .slice A1 l1.length c1] w fun e w' => ∃ v0_ : Value, e = .returned (.tuple #[v0_, .int .i64 r2]) ∧ Kd.V (Kd.int .i64) 3 w' w.heap.size (fun k_ => (P1_ k_ ∨ w.heap.size ≤ k_)) v0_ r1 ∧ Below w.heap.size w w' := by
 have hu48 := Tryd.underlying48
 have HO1 := Aside0.mk (show Kd.V k39 39 w w.heap.size (fun k_ => (P1_ k_ ∨ w.heap.size ≤ k_)) (.slice A1 l1.length c1) l1 from Kd.V_mono hs1 (fun k_ hk => .inl hk))
 have HB := Aside0.mk (Below.refl w.heap.size w)
 have H : ((fetch_read.f k a0 l1).bind fun bt152 => (if bt152.2.2 = 0 then ((fetch_quarter_fewest.f k bt152.1 bt152.2.1).bind fun bt158 => (some (bt158.1, 0))) else (some (([] : List Int), bt152.2.2)))) = some (r1, r2) := h
 clear h
 obtain ⟨⟨t152, t153, t156⟩, A3, H⟩ := bi_ H
 replace H : (if t156 = 0 then ((fetch_quarter_fewest.f k t152 t153).bind fun bt158 => (some (bt158.1, 0))) else (some (([] : List Int), t156))) = some (r1, r2) := H
 by_cases c4 : t156 = 0
 ·rw [if_pos c4] at H
  have c4b0 : (t156 == 0) = true := beq_iff_eq.mpr c4
  have c4b1 : (t156 != 0) = false := bne_eq_false_iff_eq.mpr c4
  clear c4
  obtain ⟨⟨t158, t161⟩, A5, H⟩ := bi_ H
  replace H : (some (t158, 0)) = some (r1, r2) := H
  simp only [Option.some.injEq, Prod.mk.injEq] at H
  obtain ⟨rfl, rfl⟩ := H
  go_enter Tryd.func8, Tryd.ntmps8
  go_wp2_with (first | ((with_reducible refine gate_callee (f := 13) rfl ?_); refine goesL_ (some 13) rfl rfl Tryd.func13 (by kernel_rfl) rfl #[.int .i64 a0, .slice A1 l1.length c1] rfl (as_) ?_; (with_reducible refine (fetch_read.calls k a0 (fun k_ => (P1_ k_ ∨ w.heap.size ≤ k_)) _ _ l1 t152 t153 t156 _ ?side1 A3.out).mono ?_); (case side1 => exact HO1.out); rintro e w6 ⟨v154, rfl, ho0, hb⟩; refine ⟨_, rfl, ?_⟩; replace HO1 := Aside0.mk (Kd.V_below (kv_ HO1.out) hb); have HO155 := Aside0.mk (Kd.V_lower (Kd.V_mono (ok' := fun k_ => (P1_ k_ ∨ w.heap.size ≤ k_)) ho0 (fun k_ hk_ => Or.elim hk_ (fun hs_ => hs_) (fun hn_ => (.inr (Nat.le_trans (below_size (bl_)) hn_))))) (below_size (bl_))); replace HB := hb_ hb; clear hb ho0) | ((with_reducible refine gate_dst (N := 6) rfl ?_); refine be_ #[.int .i64 0, .slice none 0 0] 48 ?_; intro gb157 hg w7 hbox hb; replace HO1 := ve_ HO1 hg hb; replace HO155 := ve_ HO155 hg hb; have BK157 := Aside0.mk (hbox); have GW157 := gw_ hg; have GE157 := gw_ hg; replace HB := hb_ hb; clear hb hbox hg; have hcz8_0 := bc_ BK157 0 (.int .i64 0); have hcz8_1 := bc_ BK157 1 (.slice none 0 0); have hfz8_0 := bz_ BK157 0; have hfz8_1 := bz_ BK157 1; obtain ⟨Ao9, co9, eo9⟩ := Kd.V_slice HO155.out; subst eo9) | ((with_reducible refine gate_callee (f := 15) rfl ?_); refine goesL_ (some 21) rfl rfl Tryd.func15 (by kernel_rfl) rfl #[.agg #[.int .i64 t152, .slice Ao9 t153.length co9]] rfl (as_) ?_; (with_reducible refine (fetch_quarter_fewest.calls k t152 _ _ t153 t158 t161 _ ?side1 ?side2 A5.out).mono ?_); (case side1 => refine (Kd.V_reads' (e := 39) (base := w.heap.size) (ok := fun k_ => ((P1_ k_ ∨ w.heap.size ≤ k_) ∧ k_ ≠ gb157)) (n := t153.length) (c := co9) ?_).2.2; exact (by refine kv_ ?_; exact (Kd.V_mono (Kd.V_far (p := ⟨gb157, 1, none⟩) (Kd.V_far (p := ⟨gb157, 0, none⟩) (Kd.V_mono HO155.out (fun k_ hk => (⟨hk, hk.2⟩ : _ ∧ k_ ≠ gb157))) (fun _ hk => hk.2) (.int .i64 t152)) (fun _ hk => hk.2) (.slice Ao9 t153.length co9)) (fun _ h_ => h_.1)))); (case side2 => exact (Kd.V_reads' HO155.out).2.1); rintro e w10 ⟨v159, rfl, ho0, hb⟩; refine ⟨_, rfl, ?_⟩; replace HO1 := Aside0.mk (Kd.V_below (by refine kv_ ?_; exact (Kd.V_mono (Kd.V_far (p := ⟨gb157, 1, none⟩) (Kd.V_far (p := ⟨gb157, 0, none⟩) (Kd.V_mono HO1.out (fun k_ hk => (⟨hk, hk.2⟩ : _ ∧ k_ ≠ gb157))) (fun _ hk => hk.2) (.int .i64 t152)) (fun _ hk => hk.2) (.slice Ao9 t153.length co9)) (fun _ h_ => h_.1))) hb); replace HO155 := Aside0.mk (Kd.V_below (by refine kv_ ?_; exact (Kd.V_mono (Kd.V_far (p := ⟨gb157, 1, none⟩) (Kd.V_far (p := ⟨gb157, 0, none⟩) (Kd.V_mono HO155.out (fun k_ hk => (⟨hk, hk.2⟩ : _ ∧ k_ ≠ gb157))) (fun _ hk => hk.2) (.int .i64 t152)) (fun _ hk => hk.2) (.slice Ao9 t153.length co9)) (fun _ h_ => h_.1))) hb); have HO160 := Aside0.mk (Kd.V_lower (Kd.V_mono (ok' := fun k_ => (P1_ k_ ∨ w.heap.size ≤ k_) ∧ k_ ≠ gb157) ho0 (fun k_ hk_ => ⟨(.inr (Nat.le_trans (below_size (bl_)) hk_)), (Kd.freshB (g := gb157) (o := .cells #[.int .i64 t152, .slice Ao9 t153.length co9] 48 (0, 0)) (by refine bk_ ?_; refine blk_put (cs := #[.int .i64 t152, .slice none 0 0]) ?_ 1 _ rfl; refine bk_ ?_; refine blk_put (cs := #[.int .i64 0, .slice none 0 0]) ?_ 0 _ rfl; refine bk_ ?_; exact BK157.out) k_ hk_)⟩)) (below_size (bl_))); replace BK157 := Aside0.mk (blk_below (g := gb157) (o := .cells #[.int .i64 t152, .slice Ao9 t153.length co9] 48 (0, 0)) (by refine bk_ ?_; refine blk_put (cs := #[.int .i64 t152, .slice none 0 0]) ?_ 1 _ rfl; refine bk_ ?_; refine blk_put (cs := #[.int .i64 0, .slice none 0 0]) ?_ 0 _ rfl; refine bk_ ?_; exact BK157.out) hb); replace HB := hb_ hb; clear hb ho0))
  go_ret2
  exact ⟨_, er_, by refine kv_ ?_; exact Kd.V_mono HO160.out (fun _ hk => hk.1), bl_⟩
 ·rw [if_neg c4] at H
  have c4b0 : (t156 == 0) = false := beq_eq_false_iff_ne.mpr c4
  have c4b1 : (t156 != 0) = true := bne_iff_ne.mpr c4
  simp only [Option.some.injEq, Prod.mk.injEq] at H
  obtain ⟨rfl, rfl⟩ := H
  go_enter Tryd.func8, Tryd.ntmps8
  go_wp2_with (first | ((with_reducible refine gate_callee (f := 13) rfl ?_); refine goesL_ (some 13) rfl rfl Tryd.func13 (by kernel_rfl) rfl #[.int .i64 a0, .slice A1 l1.length c1] rfl (as_) ?_; (with_reducible refine (fetch_read.calls k a0 (fun k_ => (P1_ k_ ∨ w.heap.size ≤ k_)) _ _ l1 t152 t153 t156 _ ?side1 A3.out).mono ?_); (case side1 => exact HO1.out); rintro e w11 ⟨v154, rfl, ho0, hb⟩; refine ⟨_, rfl, ?_⟩; replace HO1 := Aside0.mk (Kd.V_below (kv_ HO1.out) hb); have HO155 := Aside0.mk (Kd.V_lower (Kd.V_mono (ok' := fun k_ => (P1_ k_ ∨ w.heap.size ≤ k_)) ho0 (fun k_ hk_ => Or.elim hk_ (fun hs_ => hs_) (fun hn_ => (.inr (Nat.le_trans (below_size (bl_)) hn_))))) (below_size (bl_))); replace HB := hb_ hb; clear hb ho0) | ((with_reducible refine gate_dst (N := 6) rfl ?_); refine be_ #[.int .i64 0, .slice none 0 0] 48 ?_; intro gb157 hg w12 hbox hb; replace HO1 := ve_ HO1 hg hb; replace HO155 := ve_ HO155 hg hb; have BK157 := Aside0.mk (hbox); have GW157 := gw_ hg; have GE157 := gw_ hg; replace HB := hb_ hb; clear hb hbox hg; have hcz13_0 := bc_ BK157 0 (.int .i64 0); have hcz13_1 := bc_ BK157 1 (.slice none 0 0); have hfz13_0 := bz_ BK157 0; have hfz13_1 := bz_ BK157 1; obtain ⟨Ao14, co14, eo14⟩ := Kd.V_slice HO155.out; subst eo14))
  go_ret2
  exact ⟨_, er_, Kd.V_nil _ _ _ _ _, bl_⟩

end Go.Proofs.YtlcgoacmlbeliaaDoor.P
