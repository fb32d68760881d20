-- Written by wip/tools/myprint.py of this session's repo, over the kit's printer and hand texts.
import Derived.Test.YtgobffgogmnmpaaDoorPx0
import Derived.Test.YtgobffgogmnmpaaDoorPre
import Derived.Test.YtgobffgogmnmpaaDoorPx35
namespace Go.Proofs.YtgobffgogmnmpaaDoor.P
open Go.RowKit Go.Proofs.YtgobffgogmnmpaaDoorW.PrintWords Go.Proofs.YtgobffgogmnmpaaDoorW.PrintLast Go.Proofs.YtgobffgogmnmpaaDoorW.PrintMore
attribute [local go_sem] max2_int min2_int max_two min_two max_three min_three max_four min_four   -- for this text's walks alone
set_option linter.unusedVariables false
set_option linter.unusedSimpArgs false

/-! ### trishawref01_cmpD: function 88 -/
def trishawref01_cmpD.l0 : Nat → List Int → List Int → Int → Option (Int)
  | 0, _, _, _ => none
  | k + 1, x0, x1, x5 => if x5 ≥ 0 then (if 0 ≤ x5 then (if x5 < (x0.length : Int) then (if x5 < (x1.length : Int) then (if (rd x0 x5) < (rd x1 x5) then (some (-1)) else (if (rd x0 x5) > (rd x1 x5) then (some 1) else (trishawref01_cmpD.l0 k x0 x1 (wrap64 (x5 - 1))))) else (none)) else (none)) else (none)) else (some 0)
def trishawref01_cmpD.f (k : Nat) (l0 : List Int) (l1 : List Int) : Option (Int) := if (l0.length : Int) < (l1.length : Int) then (some (-1)) else (if (l0.length : Int) > (l1.length : Int) then (some 1) else (trishawref01_cmpD.l0 k l0 l1 (wrap64 ((l0.length : Int) - 1))))
set_option maxHeartbeats 8000000 in
set_option maxRecDepth 100000 in
theorem trishawref01_cmpD.calls (k : Nat) (A0 : Option Addr) (c0 : Nat) (l0 : List Int) (A1 : Option Addr) (c1 : Nat) (l1 : List Int) (r : Int) (w : World) (hr0 : Kd.C (Kd.int .i64) w A0 l0.length l0) (hc0 : l0.length ≤ c0) (hr1 : Kd.C (Kd.int .i64) w A1 l1.length l1) (hc1 : l1.length ≤ c1) (h : trishawref01_cmpD.f k l0 l1 = some r) :
    Calls Tryd.prog 88 #[.slice A0 l0.length c0, .slice A1 l1.length c1] w fun e w' => e = .returned (.int .i64 r) ∧ Drawn0 w w' := by
 have HR0 := Aside0.mk hr0
 have HC0 := Aside0.mk hc0
 clear hr0 hc0
 have HR1 := Aside0.mk hr1
 have HC1 := Aside0.mk hc1
 clear hr1 hc1
 have H : (if (l0.length : Int) < (l1.length : Int) then (some (-1)) else (if (l0.length : Int) > (l1.length : Int) then (some 1) else (trishawref01_cmpD.l0 k l0 l1 (wrap64 ((l0.length : Int) - 1))))) = some r := h
 clear h
 by_cases c3 : (l0.length : Int) < (l1.length : Int)
 ·rw [if_pos c3] at H
  have c3b0 : decide ((l0.length : Int) < (l1.length : Int)) = true := decide_eq_true c3
  have c3b1 : decide (l0.length < l1.length) = true := decide_eq_true (Int.ofNat_lt.mp c3)
  clear c3
  obtain rfl := Option.some.inj H
  go_enter Tryd.func88, Tryd.ntmps88
  go_wp2
  repeat (go_quiet (fail); try go_wp2)
  go_ret
  exact ⟨by first | rfl | (simp; done) | (simp [*]; done), by repeat (first | exact Drawn0.refl _ | apply Drawn0.step)⟩
 ·rw [if_neg c3] at H
  have c3b0 : decide ((l0.length : Int) < (l1.length : Int)) = false := decide_eq_false c3
  have c3b1 : decide (l0.length < l1.length) = false := decide_eq_false (fun h => c3 (Int.ofNat_lt.mpr h))
  clear c3
  by_cases c4 : (l0.length : Int) > (l1.length : Int)
  ·rw [if_pos c4] at H
   have c4b0 : decide ((l1.length : Int) < (l0.length : Int)) = true := decide_eq_true c4
   have c4b1 : decide (l1.length < l0.length) = true := decide_eq_true (Int.ofNat_lt.mp c4)
   clear c4
   obtain rfl := Option.some.inj H
   go_enter Tryd.func88, Tryd.ntmps88
   go_wp2
   repeat (go_quiet (fail); try go_wp2)
   go_ret
   exact ⟨by first | rfl | (simp; done) | (simp [*]; done), by repeat (first | exact Drawn0.refl _ | apply Drawn0.step)⟩
  ·rw [if_neg c4] at H
   have c4b0 : decide ((l1.length : Int) < (l0.length : Int)) = false := decide_eq_false c4
   have c4b1 : decide (l1.length < l0.length) = false := decide_eq_false (fun h => c4 (Int.ofNat_lt.mpr h))
   clear c4
   have H' := Aside0.mk H
   clear H
   go_enter Tryd.func88, Tryd.ntmps88
   go_wp2
   repeat (go_quiet (fail); try go_wp2)
   go_loopg [5] k (fun kq v5 w' => ∃ (x5_1 : Int), v5 = .int .i64 x5_1 ∧ Aside0 (trishawref01_cmpD.l0 kq l0 l1 x5_1 = some r) ∧ Aside0 (kq ≤ k) ∧ Drawn0 w w')
   case atStart => exact ⟨(wrap64 ((l0.length : Int) - 1)), rs_, H', ⟨Nat.le_refl _⟩, by repeat (first | exact Drawn0.refl _ | apply Drawn0.step)⟩
   case round =>
    clear H'
    try clear c1
    try clear p2
    try clear c3
    try clear c3b0
    try clear c3b1
    try clear c4
    try clear c4b0
    try clear c4b1
    obtain ⟨x5_1, rfl, HA, HK1, ⟨m1, rfl⟩⟩ := hrel
    cases gk with
    | zero => exact absurd HA.out (by simp [trishawref01_cmpD.l0])
    | succ k1 =>
     have H := HA.out
     clear HA
     simp only [trishawref01_cmpD.l0] at H
     by_cases c5 : x5_1 ≥ 0
     ·rw [if_pos c5] at H
      have c5b0 : decide (0 ≤ x5_1) = true := decide_eq_true c5
      clear c5
      obtain ⟨c6b0, H⟩ := fp_ H
      obtain ⟨c7b0, H⟩ := fp_ H
      obtain ⟨c8b0, H⟩ := fp_ H
      by_cases c9 : (rd l0 x5_1) < (rd l1 x5_1)
      ·rw [if_pos c9] at H
       have c9b0 : decide ((rd l0 x5_1) < (rd l1 x5_1)) = true := decide_eq_true c9
       clear c9
       obtain rfl := Option.some.inj H
       obtain ⟨ad912, e912, hx912_0, p912, q912⟩ := ai_ HR0.out x5_1
       cases e912
       obtain ⟨ad913, e913, hx913_0, p913, q913⟩ := ai_ HR1.out x5_1
       cases e913
       go_wp2
       repeat (go_quiet (fail); try go_wp2)
       go_ret
       exact ⟨by first | rfl | (simp; done) | (simp [*]; done), by repeat (first | exact Drawn0.refl _ | apply Drawn0.step)⟩
      ·rw [if_neg c9] at H
       have c9b0 : decide ((rd l0 x5_1) < (rd l1 x5_1)) = false := decide_eq_false c9
       clear c9
       by_cases c10 : (rd l0 x5_1) > (rd l1 x5_1)
       ·rw [if_pos c10] at H
        have c10b0 : decide ((rd l1 x5_1) < (rd l0 x5_1)) = true := decide_eq_true c10
        clear c10
        obtain rfl := Option.some.inj H
        obtain ⟨ad912, e912, hx912_0, p912, q912⟩ := ai_ HR0.out x5_1
        cases e912
        obtain ⟨ad913, e913, hx913_0, p913, q913⟩ := ai_ HR1.out x5_1
        cases e913
        obtain ⟨ad914, e914, hx914_0, p914, q914⟩ := ai_ HR0.out x5_1
        obtain rfl : ad912 = ad914 := (by injection e914)
        obtain ⟨ad915, e915, hx915_0, p915, q915⟩ := ai_ HR1.out x5_1
        obtain rfl : ad913 = ad915 := (by injection e915)
        go_wp2
        repeat (go_quiet (fail); try go_wp2)
        go_ret
        exact ⟨by first | rfl | (simp; done) | (simp [*]; done), by repeat (first | exact Drawn0.refl _ | apply Drawn0.step)⟩
       ·rw [if_neg c10] at H
        have c10b0 : decide ((rd l1 x5_1) < (rd l0 x5_1)) = false := decide_eq_false c10
        clear c10
        have H' := Aside0.mk H
        clear H
        obtain ⟨ad912, e912, hx912_0, p912, q912⟩ := ai_ HR0.out x5_1
        cases e912
        obtain ⟨ad913, e913, hx913_0, p913, q913⟩ := ai_ HR1.out x5_1
        cases e913
        obtain ⟨ad914, e914, hx914_0, p914, q914⟩ := ai_ HR0.out x5_1
        obtain rfl : ad912 = ad914 := (by injection e914)
        obtain ⟨ad915, e915, hx915_0, p915, q915⟩ := ai_ HR1.out x5_1
        obtain rfl : ad913 = ad915 := (by injection e915)
        go_wp2
        repeat (go_quiet (fail); try go_wp2)
        go_roundg k1
        case measure => have := HK1.out; omega
        case rel => exact ⟨(wrap64 (x5_1 - 1)), rs_, H', ⟨by have := HK1.out; omega⟩, by repeat (first | exact Drawn0.refl _ | apply Drawn0.step)⟩
     ·rw [if_neg c5] at H
      have c5b0 : decide (0 ≤ x5_1) = false := decide_eq_false c5
      clear c5
      obtain rfl := Option.some.inj H
      go_wp2
      repeat (go_quiet (fail); try go_wp2)
      go_ret
      exact ⟨by first | rfl | (simp; done) | (simp [*]; done), by repeat (first | exact Drawn0.refl _ | apply Drawn0.step)⟩

/-! ### trishawref01_divD: function 83 -/
mutual
def trishawref01_divD.l0 : Nat → List Int → List Int → List Int → List Int → Int → Option (List Int × List Int)
  | 0, _, _, _, _, _ => none
  | k + 1, x0, x1, x6, x7, x8 => if x8 ≥ 0 then (if 0 ≤ x8 then (if x8 < (x0.length : Int) then ((some (([rd x0 x8] : List Int) : List Int)).bind fun y923 => (if y923.length + x7.length < 17592186044416 then ((trishawref01_trim.f k (y923 ++ x7)).bind fun t929 => (trishawref01_divD.l1 k x0 x1 x6 t929 x8 0 9999)) else (none))) else (none)) else (none)) else ((trishawref01_trim.f k x6).bind fun t919 => (some (t919, x7)))
def trishawref01_divD.l1 : Nat → List Int → List Int → List Int → List Int → Int → Int → Int → Option (List Int × List Int)
  | 0, _, _, _, _, _, _, _ => none
  | k + 1, x0, x1, x6, x7, x8, x10, x11 => if x10 < x11 then ((trishawref01_trim.f k (([wrap64 (Int.tdiv (wrap64 ((wrap64 (x10 + x11)) + 1)) 2)] : List Int))).bind fun t948 => ((trishawref01_mulD.f k x1 t948).bind fun t951 => ((trishawref01_cmpD.f k t951 x7).bind fun t954 => (if t954 ≤ 0 then (trishawref01_divD.l1 k x0 x1 x6 x7 x8 (wrap64 (Int.tdiv (wrap64 ((wrap64 (x10 + x11)) + 1)) 2)) x11) else (trishawref01_divD.l1 k x0 x1 x6 x7 x8 x10 (wrap64 ((wrap64 (Int.tdiv (wrap64 ((wrap64 (x10 + x11)) + 1)) 2)) - 1))))))) else (if 0 ≤ x8 then (if x8 < (x6.length : Int) then ((trishawref01_trim.f k (([x10] : List Int))).bind fun t936 => ((trishawref01_mulD.f k x1 t936).bind fun t939 => ((trishawref01_subD.f k x7 t939).bind fun t942 => (trishawref01_divD.l0 k x0 x1 (x6.set (x8 : Int).toNat x10) t942 (wrap64 (x8 - 1)))))) else (none)) else (none))
end
def trishawref01_divD.f (k : Nat) (l0 : List Int) (l1 : List Int) : Option (List Int × List Int) := if (l1.length : Int) = 0 then (some (([] : List Int), ([] : List Int))) else (if 0 ≤ (l0.length : Int) then (if ((l0.length : Int) : Int).toNat ≤ 35184372088832 then (trishawref01_divD.l0 k l0 l1 (List.replicate ((l0.length : Int) : Int).toNat 0) ([] : List Int) (wrap64 ((l0.length : Int) - 1))) else (none)) else (none))
set_option maxHeartbeats 8000000 in
set_option maxRecDepth 100000 in
theorem trishawref01_divD.calls (k : Nat) (A0 : Option Addr) (c0 : Nat) (l0 : List Int) (A1 : Option Addr) (c1 : Nat) (l1 : List Int) (r1 : List Int) (r2 : List Int) (w : World) (hr0 : Kd.C (Kd.int .i64) w A0 l0.length l0) (hc0 : l0.length ≤ c0) (hr1 : Kd.C (Kd.int .i64) w A1 l1.length l1) (hc1 : l1.length ≤ c1) (h : trishawref01_divD.f k l0 l1 = some (r1, r2)) :
    Calls Tryd.prog 83 #[.slice A0 l0.length c0, .slice A1 l1.length c1] w fun e w' => ∃ v0_ v1_ : Value, e = .returned (.tuple #[v0_, v1_]) ∧ Kd.R (Kd.int .i64) 3 w' w.heap.size (fun k_ => some k_ ≠ (v1_ : Value).ownBlock) v0_ r1 ∧ Kd.R (Kd.int .i64) 3 w' w.heap.size (fun k_ => some k_ ≠ (v0_ : Value).ownBlock) v1_ r2 ∧ Below w.heap.size w w' := by
 have HR0 := Aside0.mk hr0
 have HC0 := Aside0.mk hc0
 clear hr0 hc0
 have HR1 := Aside0.mk hr1
 have HC1 := Aside0.mk hc1
 clear hr1 hc1
 have HB := Aside0.mk (Below.refl w.heap.size w)
 have H : (if (l1.length : Int) = 0 then (some (([] : List Int), ([] : List Int))) else (if 0 ≤ (l0.length : Int) then (if ((l0.length : Int) : Int).toNat ≤ 35184372088832 then (trishawref01_divD.l0 k l0 l1 (List.replicate ((l0.length : Int) : Int).toNat 0) ([] : List Int) (wrap64 ((l0.length : Int) - 1))) else (none)) else (none))) = some (r1, r2) := h
 clear h
 by_cases c3 : (l1.length : Int) = 0
 ·rw [if_pos c3] at H
  have c3b0 : ((l1.length : Int) == 0) = true := beq_iff_eq.mpr c3
  have c3b1 : ((l1.length : Int) != 0) = false := bne_eq_false_iff_eq.mpr c3
  clear c3
  simp only [Option.some.injEq, Prod.mk.injEq] at H
  obtain ⟨rfl, rfl⟩ := H
  go_enter Tryd.func83, Tryd.ntmps83
  go_wp2
  go_ret2
  exact ⟨_, _, er_, by first | exact Kd.R_nil _ _ _ _ _ | exact Kd.N_nil _ _ _ _ _ | exact Kd.V_nil _ _ _ _ _ | exact Kd.Q_nil _ _ _ _ _ | exact Kd.S_nil _ _ _ _ _, by first | exact Kd.R_nil _ _ _ _ _ | exact Kd.N_nil _ _ _ _ _ | exact Kd.V_nil _ _ _ _ _ | exact Kd.Q_nil _ _ _ _ _ | exact Kd.S_nil _ _ _ _ _, bl_⟩
 ·rw [if_neg c3] at H
  have c3b0 : ((l1.length : Int) == 0) = false := beq_eq_false_iff_ne.mpr c3
  have c3b1 : ((l1.length : Int) != 0) = true := bne_iff_ne.mpr c3
  have c3b2 : ¬ (l1 = []) := fun h_ => c3 (by rw [h_]; rfl)
  have c4 : 0 ≤ (l0.length : Int) := fl_ fun c4 => by rw [if_neg c4] at H; exact absurd H (by simp)
  rw [if_pos c4] at H
  have c4b0 := eq_true c4
  have c4b1 : decide (0 ≤ (l0.length : Int)) = true := decide_eq_true c4
  clear c4
  have c5 : ((l0.length : Int) : Int).toNat ≤ 35184372088832 := fl_ fun c5 => by rw [if_neg c5] at H; exact absurd H (by simp)
  rw [if_pos c5] at H
  have c5b0 := eq_true c5
  have c5b1 : decide (((l0.length : Int) : Int).toNat ≤ 35184372088832) = true := decide_eq_true c5
  clear c5
  obtain ⟨y916, hy916⟩ : ∃ y_ : List Int, y_ = (List.replicate ((l0.length : Int) : Int).toNat 0) := ⟨_, rfl⟩
  replace H : (trishawref01_divD.l0 k l0 l1 y916 ([] : List Int) (wrap64 ((l0.length : Int) - 1))) = some (r1, r2) := by first | (rw [hy916]; with_reducible exact H) | (have H2_ := (Option.bind_some _ _).symm.trans H; rw [hy916]; with_reducible exact H2_) | (have H2_ := (Option.bind_some _ _).symm.trans H; with_reducible exact H2_) | with_reducible exact H | (rw [hy916]; exact H) | exact H
  have Ny916 := Aside0.mk hy916
  clear hy916
  have H' := Aside0.mk H
  clear H
  go_enter Tryd.func83, Tryd.ntmps83
  go_wp2_with (first | ((with_reducible refine gate_dst (N := 19) rfl ?_); refine Kd.R_make (Kd.int .i64) _ 3 rfl (N := 19) rfl 22 _ _ rfl (l0.length : Int) rfl rfl Tryd.underlying22 (.int .i64 0) 8 info3 rfl (by decide) (by omega) 0 (ok := fun _ => True) (okp := fun _ => True) rfl (fun _ hk => hk) trivial (od_) (Nat.le_trans (Nat.mul_le_mul_right _ (od_ : (l0.length : Int).toNat ≤ 35184372088832)) (by omega)) (Below.refl _ _) (Nat.le_refl _) ?_; intro v917 w6 ho7 hb hg_ hnew_; clear hg_ hnew_; (first | rw [← Ny916.out] at ho7 | (simp only [Int.reduceToNat] at ho7; rw [← Ny916.out] at ho7)); have HO918 := rl_ ho7; replace HB := hb_ hb; clear hb ho7))
  go_loopg [7, 8] k (fun kq v7 v8 w' => ∃ (x6_1 : List Int) (x7_1 : List Int) (x8_1 : Int), v8 = .int .i64 x8_1 ∧ Aside0 (trishawref01_divD.l0 kq l0 l1 x6_1 x7_1 x8_1 = some (r1, r2)) ∧ Aside0 (kq ≤ k) ∧ Aside0 (Kd.R (Kd.int .i64) 3 w' w.heap.size (fun k_ => some k_ ≠ (v7 : Value).ownBlock) v917 x6_1) ∧ Aside0 (Kd.R (Kd.int .i64) 3 w' w.heap.size (fun k_ => some k_ ≠ (v917 : Value).ownBlock) v7 x7_1) ∧ Aside0 (Below w.heap.size w w'))
  case atStart => exact ⟨(y916), (([] : List Int)), (wrap64 ((l0.length : Int) - 1)), rs_, H', ⟨Nat.le_refl _⟩, ⟨by refine kr_ ?_; exact Kd.R_mono HO918.out (fun _ hk => (by simp [Value.ownBlock]))⟩, ⟨by first | exact Kd.R_nil _ _ _ _ _ | exact Kd.N_nil _ _ _ _ _ | exact Kd.V_nil _ _ _ _ _ | exact Kd.Q_nil _ _ _ _ _ | exact Kd.S_nil _ _ _ _ _⟩, ⟨bl_⟩⟩
  case round =>
   clear H'
   try clear c1
   try clear p2
   try clear c3
   try clear c3b0
   try clear c3b1
   try clear c3b2
   try clear c4
   try clear c4b0
   try clear c4b1
   try clear c5
   try clear c5b0
   try clear c5b1
   try clear p6
   obtain ⟨x6_1, x7_1, x8_1, rfl, HA, HK1, HO_6, HO_7, HB⟩ := hrel
   cases gk with
   | zero => exact absurd HA.out (by simp [trishawref01_divD.l0])
   | succ k1 =>
    have H := HA.out
    clear HA
    simp only [trishawref01_divD.l0] at H
    by_cases c8 : x8_1 ≥ 0
    ·rw [if_pos c8] at H
     have c8b0 : decide (0 ≤ x8_1) = true := decide_eq_true c8
     clear c8
     obtain ⟨c9b0, H⟩ := fp_ H
     obtain ⟨c10b0, H⟩ := fp_ H
     obtain ⟨y923, hy923⟩ : ∃ y_ : List Int, y_ = (([rd l0 x8_1] : List Int)) := ⟨_, rfl⟩
     replace H : (if y923.length + x7_1.length < 17592186044416 then ((trishawref01_trim.f k1 (y923 ++ x7_1)).bind fun t929 => (trishawref01_divD.l1 k1 l0 l1 x6_1 t929 x8_1 0 9999)) else (none)) = some (r1, r2) := by first | (rw [hy923]; with_reducible exact H) | (have H2_ := (Option.bind_some _ _).symm.trans H; rw [hy923]; with_reducible exact H2_) | (have H2_ := (Option.bind_some _ _).symm.trans H; with_reducible exact H2_) | with_reducible exact H | (rw [hy923]; exact H) | exact H
     have Ny923 := Aside0.mk hy923
     clear hy923
     have c11 : y923.length + x7_1.length < 17592186044416 := fl_ fun c11 => by rw [if_neg c11] at H; exact absurd H (by simp)
     rw [if_pos c11] at H
     have LMc11 := Aside0.mk c11
     clear c11
     obtain ⟨y926, hy926⟩ : ∃ y_ : List Int, y_ = (y923 ++ x7_1) := ⟨_, rfl⟩
     replace H : ((trishawref01_trim.f k1 y926).bind fun t929 => (trishawref01_divD.l1 k1 l0 l1 x6_1 t929 x8_1 0 9999)) = some (r1, r2) := by first | (rw [hy926]; with_reducible exact H) | (have H2_ := (Option.bind_some _ _).symm.trans H; rw [hy926]; with_reducible exact H2_) | (have H2_ := (Option.bind_some _ _).symm.trans H; with_reducible exact H2_) | with_reducible exact H | (rw [hy926]; exact H) | exact H
     have Ny926 := Aside0.mk hy926
     clear hy926
     obtain ⟨t929, A12, H⟩ := bi_ H
     replace H : (trishawref01_divD.l1 k1 l0 l1 x6_1 t929 x8_1 0 9999) = some (r1, r2) := H
     have H' := Aside0.mk H
     clear H
     obtain ⟨ad922, e922, hx922_0, p922, q922⟩ := ai_ HR0.out x8_1
     cases e922
     replace hx922_0 := hc_ HB hx922_0
     go_wp2_with (first | ((with_reducible refine gate_dst (N := 31) rfl ?_); refine Kd.R_lit (Kd.int .i64) _ 3 ?hg (N := 31) ?hd (xs := ([rd l0 x8_1] : List Int)) (inner := [.int .i64 (rd l0 x8_1)]) (ok := fun _ => True) (okp := fun _ => True) ?hr ?hp (fun _ hk => hk) trivial (Below.refl _ _) (Nat.le_refl _) (by simp) ?_; (case hd => rfl); (case hg => rfl); (case hr => first | (go_simp; done) | (go_simp; rfl)); (case hp => exact (Reps.one (show Kd.M (Kd.int .i64) _ _ _ (rd l0 x8_1) [.int .i64 (rd l0 x8_1)] from rfl) (Reps.none _ _))); intro v924 w13 ho14 hb hg_ hnew_; clear hg_ hnew_; (first | rw [← Ny923.out] at ho14 | (simp only [Int.reduceToNat] at ho14; rw [← Ny923.out] at ho14)); have HO925 := rl_ (rn_ (rn_ ho14 HO_6) HO_7); replace HO_6 := re_ HO_6 ho14 hb; replace HO_7 := re_ HO_7 ho14 hb; replace HB := hb_ hb; clear hb ho14; obtain ⟨Ao16, co16, eo16⟩ := Kd.R_slice HO_7.out; subst eo16) | ((with_reducible refine gate_builtin (b := .append) (xs := #[.tmp 32, .tmp 33]) rfl ?_); at_builtin; refine Kd.R_append_rows (Kd.int .i64) (w0 := w) w.heap.size rfl (.tmp 32) (.tmp 33) 22 3 (.int .i64 0) 8 rfl Tryd.underlying22 info3 rfl (by decide) (by omega) v924 y923 x7_1 _ _ _ (fun k_ => some k_ ≠ (v917 : Value).ownBlock ∧ some k_ ≠ (.slice Ao16 x7_1.length co16 : Value).ownBlock) (fun _ => False) rfl rfl ?aO ?aR (fun _ _ h => h) (fun _ h => h.elim) ?aF ?aB ?aS ?aL ?_; (case aR => repeat (first | exact (Kd.R_reads' HO_7.out).2.2 | (with_reducible refine Kd.C_alloc ?_ _) | (with_reducible refine Kd.C_drewN ?_ _) | (with_reducible refine Kd.C_drew ?_))); (case aB => exact (bl_)); (case aF => exact (fun k_ hk => ⟨Kd.fresh' (Kd.R_lt (kr_ HO_6.out)) k_ hk, Kd.fresh' (Kd.R_lt (kr_ HO_7.out)) k_ hk⟩)); (case aO => exact (by refine kr_ ?_; exact Kd.R_mono HO925.out (fun _ hk => ⟨hk.1.2, hk.2⟩))); (case aS => exact (below_size (bl_))); (case aL => have := LMc11.out; omega); intro v927 w15 ho hb hg hat; rw [← Ny926.out] at ho; replace HO_6 := Aside0.mk (Kd.R_after (ok := (fun k_ => some k_ ≠ (.slice Ao16 x7_1.length co16 : Value).ownBlock)) (kr_ HO_6.out) hg hat); replace HO_7 := Aside0.mk (Kd.R_after (ok := (fun k_ => some k_ ≠ (v917 : Value).ownBlock)) (kr_ HO_7.out) hg hat); replace HB := Aside0.mk (hb); have HO928 := Aside0.mk (ho); clear HO925; clear ho hb hg hat; obtain ⟨Ao17, co17, eo17⟩ := Kd.R_slice HO928.out; subst eo17) | ((with_reducible refine gate_callee (f := 89) rfl ?_); refine goesL_ (some 35) rfl rfl Tryd.func89 (by kernel_rfl) rfl #[.slice Ao17 y926.length co17] rfl (as_) ?_; (with_reducible refine (trishawref01_trim.calls k1 _ _ y926 t929 _ ?side1 ?side2 A12.out).mono ?_); (case side1 => exact cr_ HO928.out); (case side2 => exact (Kd.R_reads' HO928.out).2.1); rintro e w18 ⟨v930, rfl, ho0, hb⟩; refine ⟨_, rfl, ?_⟩; have HO931 := rl_ (rn_ (rn_ (rn_ ho0 HO_6) HO_7) HO928); replace HO_6 := re_ HO_6 ho0 hb; replace HO_7 := re_ HO_7 ho0 hb; replace HO928 := re_ HO928 ho0 hb; replace HB := hb_ hb; clear hb ho0))
     go_loopg [10, 11] k1 (fun kq v10 v11 w' => ∃ (x10_2 : Int) (x11_2 : Int), v10 = .int .i64 x10_2 ∧ v11 = .int .i64 x11_2 ∧ Aside0 (trishawref01_divD.l1 kq l0 l1 x6_1 t929 x8_1 x10_2 x11_2 = some (r1, r2)) ∧ Aside0 (kq ≤ k1) ∧ Aside0 (Kd.R (Kd.int .i64) 3 w' w.heap.size (fun k_ => some k_ ≠ (v930 : Value).ownBlock) v917 x6_1) ∧ Aside0 (Kd.R (Kd.int .i64) 3 w' w.heap.size (fun k_ => some k_ ≠ (v917 : Value).ownBlock) v930 t929) ∧ Aside0 (Below w.heap.size w w'))
     case atStart => exact ⟨(0), (9999), rs_, rs_, H', ⟨Nat.le_refl _⟩, ⟨by refine kr_ ?_; exact Kd.R_mono HO_6.out (fun _ hk => hk.2)⟩, ⟨by refine kr_ ?_; exact Kd.R_mono HO931.out (fun _ hk => hk.1.1.2)⟩, ⟨bl_⟩⟩
     case round =>
      clear H'
      try clear c1
      try clear p2
      try clear c3
      try clear c3b0
      try clear c3b1
      try clear c3b2
      try clear c4
      try clear c4b0
      try clear c4b1
      try clear c5
      try clear c5b0
      try clear c5b1
      try clear p6
      try clear c8
      try clear c8b0
      try clear c9
      try clear c9b0
      try clear p9
      try clear q9
      try clear hx9
      try clear c10
      try clear c10b0
      try clear c11
      try clear hx922_0
      try clear p2
      try clear p6
      try clear p922
      try clear q922
      obtain ⟨x10_2, x11_2, rfl, rfl, HA, HK2, HO_6, HO_7, HB⟩ := hrel
      cases gk with
      | zero => exact absurd HA.out (by simp [trishawref01_divD.l1])
      | succ k2 =>
       have H := HA.out
       clear HA
       simp only [trishawref01_divD.l1] at H
       by_cases c19 : x10_2 < x11_2
       ·rw [if_pos c19] at H
        have c19b0 : decide (x10_2 < x11_2) = true := decide_eq_true c19
        clear c19
        obtain ⟨y945, hy945⟩ : ∃ y_ : List Int, y_ = (([wrap64 (Int.tdiv (wrap64 ((wrap64 (x10_2 + x11_2)) + 1)) 2)] : List Int)) := ⟨_, rfl⟩
        replace H : ((trishawref01_trim.f k2 y945).bind fun t948 => ((trishawref01_mulD.f k2 l1 t948).bind fun t951 => ((trishawref01_cmpD.f k2 t951 t929).bind fun t954 => (if t954 ≤ 0 then (trishawref01_divD.l1 k2 l0 l1 x6_1 t929 x8_1 (wrap64 (Int.tdiv (wrap64 ((wrap64 (x10_2 + x11_2)) + 1)) 2)) x11_2) else (trishawref01_divD.l1 k2 l0 l1 x6_1 t929 x8_1 x10_2 (wrap64 ((wrap64 (Int.tdiv (wrap64 ((wrap64 (x10_2 + x11_2)) + 1)) 2)) - 1))))))) = some (r1, r2) := by first | (rw [hy945]; with_reducible exact H) | (have H2_ := (Option.bind_some _ _).symm.trans H; rw [hy945]; with_reducible exact H2_) | (have H2_ := (Option.bind_some _ _).symm.trans H; with_reducible exact H2_) | with_reducible exact H | (rw [hy945]; exact H) | exact H
        have Ny945 := Aside0.mk hy945
        clear hy945
        obtain ⟨t948, A20, H⟩ := bi_ H
        replace H : ((trishawref01_mulD.f k2 l1 t948).bind fun t951 => ((trishawref01_cmpD.f k2 t951 t929).bind fun t954 => (if t954 ≤ 0 then (trishawref01_divD.l1 k2 l0 l1 x6_1 t929 x8_1 (wrap64 (Int.tdiv (wrap64 ((wrap64 (x10_2 + x11_2)) + 1)) 2)) x11_2) else (trishawref01_divD.l1 k2 l0 l1 x6_1 t929 x8_1 x10_2 (wrap64 ((wrap64 (Int.tdiv (wrap64 ((wrap64 (x10_2 + x11_2)) + 1)) 2)) - 1)))))) = some (r1, r2) := H
        obtain ⟨t951, A21, H⟩ := bi_ H
        replace H : ((trishawref01_cmpD.f k2 t951 t929).bind fun t954 => (if t954 ≤ 0 then (trishawref01_divD.l1 k2 l0 l1 x6_1 t929 x8_1 (wrap64 (Int.tdiv (wrap64 ((wrap64 (x10_2 + x11_2)) + 1)) 2)) x11_2) else (trishawref01_divD.l1 k2 l0 l1 x6_1 t929 x8_1 x10_2 (wrap64 ((wrap64 (Int.tdiv (wrap64 ((wrap64 (x10_2 + x11_2)) + 1)) 2)) - 1))))) = some (r1, r2) := H
        obtain ⟨t954, A22, H⟩ := bi_ H
        replace H : (if t954 ≤ 0 then (trishawref01_divD.l1 k2 l0 l1 x6_1 t929 x8_1 (wrap64 (Int.tdiv (wrap64 ((wrap64 (x10_2 + x11_2)) + 1)) 2)) x11_2) else (trishawref01_divD.l1 k2 l0 l1 x6_1 t929 x8_1 x10_2 (wrap64 ((wrap64 (Int.tdiv (wrap64 ((wrap64 (x10_2 + x11_2)) + 1)) 2)) - 1)))) = some (r1, r2) := H
        by_cases c23 : t954 ≤ 0
        ·rw [if_pos c23] at H
         have c23b0 : decide (t954 ≤ 0) = true := decide_eq_true c23
         clear c23
         have H' := Aside0.mk H
         clear H
         go_wp2_with (first | ((with_reducible refine gate_dst (N := 46) rfl ?_); refine Kd.R_lit (Kd.int .i64) _ 3 ?hg (N := 46) ?hd (xs := ([wrap64 (Int.tdiv (wrap64 ((wrap64 (x10_2 + x11_2)) + 1)) 2)] : List Int)) (inner := [.int .i64 (wrap64 (Int.tdiv (wrap64 ((wrap64 (x10_2 + x11_2)) + 1)) 2))]) (ok := fun _ => True) (okp := fun _ => True) ?hr ?hp (fun _ hk => hk) trivial (Below.refl _ _) (Nat.le_refl _) (by simp) ?_; (case hd => rfl); (case hg => rfl); (case hr => first | (go_simp; done) | (go_simp; rfl)); (case hp => exact (Reps.one (show Kd.M (Kd.int .i64) _ _ _ (wrap64 (Int.tdiv (wrap64 ((wrap64 (x10_2 + x11_2)) + 1)) 2)) [.int .i64 (wrap64 (Int.tdiv (wrap64 ((wrap64 (x10_2 + x11_2)) + 1)) 2))] from rfl) (Reps.none _ _))); intro v946 w24 ho25 hb hg_ hnew_; clear hg_ hnew_; (first | rw [← Ny945.out] at ho25 | (simp only [Int.reduceToNat] at ho25; rw [← Ny945.out] at ho25)); have HO947 := rl_ (rn_ (rn_ ho25 HO_6) HO_7); replace HO_6 := re_ HO_6 ho25 hb; replace HO_7 := re_ HO_7 ho25 hb; replace HB := hb_ hb; clear hb ho25; obtain ⟨Ao26, co26, eo26⟩ := Kd.R_slice HO947.out; subst eo26) | ((with_reducible refine gate_callee (f := 89) rfl ?_); refine goesL_ (some 47) rfl rfl Tryd.func89 (by kernel_rfl) rfl #[.slice Ao26 y945.length co26] rfl (as_) ?_; (with_reducible refine (trishawref01_trim.calls k2 _ _ y945 t948 _ ?side1 ?side2 A20.out).mono ?_); (case side1 => exact cr_ HO947.out); (case side2 => exact (Kd.R_reads' HO947.out).2.1); rintro e w27 ⟨v949, rfl, ho0, hb⟩; refine ⟨_, rfl, ?_⟩; have HO950 := rl_ (rn_ (rn_ (rn_ ho0 HO_6) HO_7) HO947); replace HO_6 := re_ HO_6 ho0 hb; replace HO_7 := re_ HO_7 ho0 hb; replace HO947 := re_ HO947 ho0 hb; replace HB := hb_ hb; clear hb ho0; obtain ⟨Ao28, co28, eo28⟩ := Kd.R_slice HO950.out; subst eo28) | ((with_reducible refine gate_callee (f := 87) rfl ?_); refine goesL_ (some 48) rfl rfl Tryd.func87 (by kernel_rfl) rfl #[.slice A1 l1.length c1, .slice Ao28 t948.length co28] rfl (as_) ?_; (with_reducible refine (trishawref01_mulD.calls k2 _ _ l1 _ _ t948 t951 _ ?side1 ?side2 ?side3 ?side4 A21.out).mono ?_); (case side1 => exact cb_ HR1.out); (case side2 => exact HC1.out); (case side3 => exact cr_ HO950.out); (case side4 => exact (Kd.R_reads' HO950.out).2.1); rintro e w29 ⟨v952, rfl, ho0, hb⟩; refine ⟨_, rfl, ?_⟩; have HO953 := rl_ (rn_ (rn_ (rn_ (rn_ ho0 HO_6) HO_7) HO947) HO950); replace HO_6 := re_ HO_6 ho0 hb; replace HO_7 := re_ HO_7 ho0 hb; replace HO947 := re_ HO947 ho0 hb; replace HO950 := re_ HO950 ho0 hb; replace HB := hb_ hb; clear hb ho0; obtain ⟨Ao30, co30, eo30⟩ := Kd.R_slice HO953.out; subst eo30; obtain ⟨Ao31, co31, eo31⟩ := Kd.R_slice HO_7.out; subst eo31) | ((with_reducible refine gate_callee (f := 88) rfl ?_); refine goesL_ (some 51) rfl rfl Tryd.func88 (by kernel_rfl) rfl #[.slice Ao30 t951.length co30, .slice Ao31 t929.length co31] rfl (as_) ?_; (with_reducible refine (trishawref01_cmpD.calls k2 _ _ t951 _ _ t929 t954 _ ?side1 ?side2 ?side3 ?side4 A22.out).mono ?_); (case side1 => exact cr_ HO953.out); (case side2 => exact (Kd.R_reads' HO953.out).2.1); (case side3 => exact cr_ HO_7.out); (case side4 => exact (Kd.R_reads' HO_7.out).2.1); rintro e w' ⟨rfl, ⟨nd, rfl⟩⟩; refine ⟨_, rfl, ?_⟩))
         go_roundg k2
         case measure => have := HK1.out; have := HK2.out; omega
         case rel => exact ⟨(wrap64 (Int.tdiv (wrap64 ((wrap64 (x10_2 + x11_2)) + 1)) 2)), (x11_2), rs_, rs_, H', ⟨by have := HK1.out; have := HK2.out; omega⟩, ⟨by refine kr_ ?_; exact Kd.R_mono HO_6.out (fun _ hk => hk.1.1.1)⟩, ⟨by refine kr_ ?_; exact Kd.R_mono HO_7.out (fun _ hk => hk.1.1.1)⟩, ⟨bl_⟩⟩
        ·rw [if_neg c23] at H
         have c23b0 : decide (t954 ≤ 0) = false := decide_eq_false c23
         clear c23
         have H' := Aside0.mk H
         clear H
         go_wp2_with (first | ((with_reducible refine gate_dst (N := 46) rfl ?_); refine Kd.R_lit (Kd.int .i64) _ 3 ?hg (N := 46) ?hd (xs := ([wrap64 (Int.tdiv (wrap64 ((wrap64 (x10_2 + x11_2)) + 1)) 2)] : List Int)) (inner := [.int .i64 (wrap64 (Int.tdiv (wrap64 ((wrap64 (x10_2 + x11_2)) + 1)) 2))]) (ok := fun _ => True) (okp := fun _ => True) ?hr ?hp (fun _ hk => hk) trivial (Below.refl _ _) (Nat.le_refl _) (by simp) ?_; (case hd => rfl); (case hg => rfl); (case hr => first | (go_simp; done) | (go_simp; rfl)); (case hp => exact (Reps.one (show Kd.M (Kd.int .i64) _ _ _ (wrap64 (Int.tdiv (wrap64 ((wrap64 (x10_2 + x11_2)) + 1)) 2)) [.int .i64 (wrap64 (Int.tdiv (wrap64 ((wrap64 (x10_2 + x11_2)) + 1)) 2))] from rfl) (Reps.none _ _))); intro v946 w32 ho33 hb hg_ hnew_; clear hg_ hnew_; (first | rw [← Ny945.out] at ho33 | (simp only [Int.reduceToNat] at ho33; rw [← Ny945.out] at ho33)); have HO947 := rl_ (rn_ (rn_ ho33 HO_6) HO_7); replace HO_6 := re_ HO_6 ho33 hb; replace HO_7 := re_ HO_7 ho33 hb; replace HB := hb_ hb; clear hb ho33; obtain ⟨Ao34, co34, eo34⟩ := Kd.R_slice HO947.out; subst eo34) | ((with_reducible refine gate_callee (f := 89) rfl ?_); refine goesL_ (some 47) rfl rfl Tryd.func89 (by kernel_rfl) rfl #[.slice Ao34 y945.length co34] rfl (as_) ?_; (with_reducible refine (trishawref01_trim.calls k2 _ _ y945 t948 _ ?side1 ?side2 A20.out).mono ?_); (case side1 => exact cr_ HO947.out); (case side2 => exact (Kd.R_reads' HO947.out).2.1); rintro e w35 ⟨v949, rfl, ho0, hb⟩; refine ⟨_, rfl, ?_⟩; have HO950 := rl_ (rn_ (rn_ (rn_ ho0 HO_6) HO_7) HO947); replace HO_6 := re_ HO_6 ho0 hb; replace HO_7 := re_ HO_7 ho0 hb; replace HO947 := re_ HO947 ho0 hb; replace HB := hb_ hb; clear hb ho0; obtain ⟨Ao36, co36, eo36⟩ := Kd.R_slice HO950.out; subst eo36) | ((with_reducible refine gate_callee (f := 87) rfl ?_); refine goesL_ (some 48) rfl rfl Tryd.func87 (by kernel_rfl) rfl #[.slice A1 l1.length c1, .slice Ao36 t948.length co36] rfl (as_) ?_; (with_reducible refine (trishawref01_mulD.calls k2 _ _ l1 _ _ t948 t951 _ ?side1 ?side2 ?side3 ?side4 A21.out).mono ?_); (case side1 => exact cb_ HR1.out); (case side2 => exact HC1.out); (case side3 => exact cr_ HO950.out); (case side4 => exact (Kd.R_reads' HO950.out).2.1); rintro e w37 ⟨v952, rfl, ho0, hb⟩; refine ⟨_, rfl, ?_⟩; have HO953 := rl_ (rn_ (rn_ (rn_ (rn_ ho0 HO_6) HO_7) HO947) HO950); replace HO_6 := re_ HO_6 ho0 hb; replace HO_7 := re_ HO_7 ho0 hb; replace HO947 := re_ HO947 ho0 hb; replace HO950 := re_ HO950 ho0 hb; replace HB := hb_ hb; clear hb ho0; obtain ⟨Ao38, co38, eo38⟩ := Kd.R_slice HO953.out; subst eo38; obtain ⟨Ao39, co39, eo39⟩ := Kd.R_slice HO_7.out; subst eo39) | ((with_reducible refine gate_callee (f := 88) rfl ?_); refine goesL_ (some 51) rfl rfl Tryd.func88 (by kernel_rfl) rfl #[.slice Ao38 t951.length co38, .slice Ao39 t929.length co39] rfl (as_) ?_; (with_reducible refine (trishawref01_cmpD.calls k2 _ _ t951 _ _ t929 t954 _ ?side1 ?side2 ?side3 ?side4 A22.out).mono ?_); (case side1 => exact cr_ HO953.out); (case side2 => exact (Kd.R_reads' HO953.out).2.1); (case side3 => exact cr_ HO_7.out); (case side4 => exact (Kd.R_reads' HO_7.out).2.1); rintro e w' ⟨rfl, ⟨nd, rfl⟩⟩; refine ⟨_, rfl, ?_⟩))
         go_roundg k2
         case measure => have := HK1.out; have := HK2.out; omega
         case rel => exact ⟨(x10_2), (wrap64 ((wrap64 (Int.tdiv (wrap64 ((wrap64 (x10_2 + x11_2)) + 1)) 2)) - 1)), rs_, rs_, H', ⟨by have := HK1.out; have := HK2.out; omega⟩, ⟨by refine kr_ ?_; exact Kd.R_mono HO_6.out (fun _ hk => hk.1.1.1)⟩, ⟨by refine kr_ ?_; exact Kd.R_mono HO_7.out (fun _ hk => hk.1.1.1)⟩, ⟨bl_⟩⟩
       ·rw [if_neg c19] at H
        have c19b0 : decide (x10_2 < x11_2) = false := decide_eq_false c19
        clear c19
        obtain ⟨c40b0, H⟩ := fp_ H
        obtain ⟨c41b0, H⟩ := fp_ H
        obtain ⟨y932, hy932⟩ : ∃ y_ : List Int, y_ = (x6_1.set (x8_1 : Int).toNat x10_2) := ⟨_, rfl⟩
        replace H : ((trishawref01_trim.f k2 (([x10_2] : List Int))).bind fun t936 => ((trishawref01_mulD.f k2 l1 t936).bind fun t939 => ((trishawref01_subD.f k2 t929 t939).bind fun t942 => (trishawref01_divD.l0 k2 l0 l1 y932 t942 (wrap64 (x8_1 - 1)))))) = some (r1, r2) := by first | (rw [hy932]; with_reducible exact H) | (have H2_ := (Option.bind_some _ _).symm.trans H; rw [hy932]; with_reducible exact H2_) | (have H2_ := (Option.bind_some _ _).symm.trans H; with_reducible exact H2_) | with_reducible exact H | (rw [hy932]; exact H) | exact H
        have Ny932 := Aside0.mk hy932
        clear hy932
        obtain ⟨y933, hy933⟩ : ∃ y_ : List Int, y_ = (([x10_2] : List Int)) := ⟨_, rfl⟩
        replace H : ((trishawref01_trim.f k2 y933).bind fun t936 => ((trishawref01_mulD.f k2 l1 t936).bind fun t939 => ((trishawref01_subD.f k2 t929 t939).bind fun t942 => (trishawref01_divD.l0 k2 l0 l1 y932 t942 (wrap64 (x8_1 - 1)))))) = some (r1, r2) := by first | (rw [hy933]; with_reducible exact H) | (have H2_ := (Option.bind_some _ _).symm.trans H; rw [hy933]; with_reducible exact H2_) | (have H2_ := (Option.bind_some _ _).symm.trans H; with_reducible exact H2_) | with_reducible exact H | (rw [hy933]; exact H) | exact H
        have Ny933 := Aside0.mk hy933
        clear hy933
        obtain ⟨t936, A43, H⟩ := bi_ H
        replace H : ((trishawref01_mulD.f k2 l1 t936).bind fun t939 => ((trishawref01_subD.f k2 t929 t939).bind fun t942 => (trishawref01_divD.l0 k2 l0 l1 y932 t942 (wrap64 (x8_1 - 1))))) = some (r1, r2) := H
        obtain ⟨t939, A44, H⟩ := bi_ H
        replace H : ((trishawref01_subD.f k2 t929 t939).bind fun t942 => (trishawref01_divD.l0 k2 l0 l1 y932 t942 (wrap64 (x8_1 - 1)))) = some (r1, r2) := H
        obtain ⟨t942, A45, H⟩ := bi_ H
        replace H : (trishawref01_divD.l0 k2 l0 l1 y932 t942 (wrap64 (x8_1 - 1))) = some (r1, r2) := H
        have H' := Aside0.mk H
        clear H
        have p42 : 0 ≤ (x8_1 : Int) := od_
        have q42 : (x8_1 : Int) < ((x6_1.length : Int) : Int) := od_
        obtain ⟨go42, co42, eo42, gb42, gl42, cl42, HG42⟩ := Kd.R_form HO_6.out (by omega)
        (first | cases eo42 | (injection eo42 with ea_ en_ ec_; (first | subst ea_ | (injection ea_ with ea_; subst ea_)); subst ec_; clear en_))
        have GB42 := Aside0.mk gb42
        have GG42 := Aside0.mk HG42
        clear gb42 gl42 HG42
        obtain ⟨hx42_0, hf42_0⟩ := Kd.R_celln 0 HO_6.out (x8_1 : Int) p42 q42
        replace p42 := eq_true p42
        replace q42 := eq_true q42
        have HP46 := Kd.R_putg HO_6.out (x8_1 : Int) x10_2
        go_wp2_with (first | ((with_reducible refine gate_store (t := 3) (p := 59) rfl ?_); refine store_event (t := 3) (p := 59) (v := ?vo_w47) (w1 := (wr.setCell ⟨go42, (x8_1 : Int).toNat, none⟩ (.int .i64 x10_2))) ?hg ?ho ?hn ?hr ?_; (case ho => rfl); (case hg => rfl); (case hn => rfl); (case hr => first | (go_simp; done) | (go_simp; rfl)); intro w47 hw; have hg : wr.grownBy w47 (some go42) := (by rw [hw]; exact HP46.2); have hp_ : Kd.R (Kd.int .i64) 3 w47 w.heap.size (fun k_ => some k_ ≠ (v930 : Value).ownBlock) (.slice (some ⟨go42, 0, none⟩) x6_1.length co42) y932 := (by rw [hw, Ny932.out]; exact HP46.1); clear HP46; replace HO_6 := Aside0.mk (hp_); replace HO_7 := Aside0.mk (Kd.R_after (v := (.slice (some ⟨go42, 0, none⟩) x6_1.length co42)) (v1 := (.slice (some ⟨go42, 0, none⟩) x6_1.length co42)) (ok := (fun _ => True)) (by refine kr_ ?_; exact Kd.R_mono HO_7.out (fun _ hk => ⟨trivial, hk⟩)) hg (.inl rfl)); replace HB := Aside0.mk ((by rw [hw]; exact below_set (HB.out) GB42.out : Below w.heap.size w w47)); clear hg hw hp_) | ((with_reducible refine gate_dst (N := 63) rfl ?_); refine Kd.R_lit (Kd.int .i64) _ 3 ?hg (N := 63) ?hd (xs := ([x10_2] : List Int)) (inner := [.int .i64 x10_2]) (ok := fun _ => True) (okp := fun _ => True) ?hr ?hp (fun _ hk => hk) trivial (Below.refl _ _) (Nat.le_refl _) (by simp) ?_; (case hd => rfl); (case hg => rfl); (case hr => first | (go_simp; done) | (go_simp; rfl)); (case hp => exact (Reps.one (show Kd.M (Kd.int .i64) _ _ _ x10_2 [.int .i64 x10_2] from rfl) (Reps.none _ _))); intro v934 w48 ho49 hb hg_ hnew_; clear hg_ hnew_; (first | rw [← Ny933.out] at ho49 | (simp only [Int.reduceToNat] at ho49; rw [← Ny933.out] at ho49)); have HO935 := rl_ (rn_ (rn_ ho49 HO_6) HO_7); replace HO_6 := re_ HO_6 ho49 hb; replace HO_7 := re_ HO_7 ho49 hb; replace HB := hb_ hb; clear hb ho49; obtain ⟨Ao50, co50, eo50⟩ := Kd.R_slice HO935.out; subst eo50) | ((with_reducible refine gate_callee (f := 89) rfl ?_); refine goesL_ (some 64) rfl rfl Tryd.func89 (by kernel_rfl) rfl #[.slice Ao50 y933.length co50] rfl (as_) ?_; (with_reducible refine (trishawref01_trim.calls k2 _ _ y933 t936 _ ?side1 ?side2 A43.out).mono ?_); (case side1 => exact cr_ HO935.out); (case side2 => exact (Kd.R_reads' HO935.out).2.1); rintro e w51 ⟨v937, rfl, ho0, hb⟩; refine ⟨_, rfl, ?_⟩; have HO938 := rl_ (rn_ (rn_ (rn_ ho0 HO_6) HO_7) HO935); replace HO_6 := re_ HO_6 ho0 hb; replace HO_7 := re_ HO_7 ho0 hb; replace HO935 := re_ HO935 ho0 hb; replace HB := hb_ hb; clear hb ho0; obtain ⟨Ao52, co52, eo52⟩ := Kd.R_slice HO938.out; subst eo52) | ((with_reducible refine gate_callee (f := 87) rfl ?_); refine goesL_ (some 65) rfl rfl Tryd.func87 (by kernel_rfl) rfl #[.slice A1 l1.length c1, .slice Ao52 t936.length co52] rfl (as_) ?_; (with_reducible refine (trishawref01_mulD.calls k2 _ _ l1 _ _ t936 t939 _ ?side1 ?side2 ?side3 ?side4 A44.out).mono ?_); (case side1 => exact cb_ HR1.out); (case side2 => exact HC1.out); (case side3 => exact cr_ HO938.out); (case side4 => exact (Kd.R_reads' HO938.out).2.1); rintro e w53 ⟨v940, rfl, ho0, hb⟩; refine ⟨_, rfl, ?_⟩; have HO941 := rl_ (rn_ (rn_ (rn_ (rn_ ho0 HO_6) HO_7) HO935) HO938); replace HO_6 := re_ HO_6 ho0 hb; replace HO_7 := re_ HO_7 ho0 hb; replace HO935 := re_ HO935 ho0 hb; replace HO938 := re_ HO938 ho0 hb; replace HB := hb_ hb; clear hb ho0; obtain ⟨Ao54, co54, eo54⟩ := Kd.R_slice HO_7.out; subst eo54; obtain ⟨Ao55, co55, eo55⟩ := Kd.R_slice HO941.out; subst eo55) | ((with_reducible refine gate_callee (f := 86) rfl ?_); refine goesL_ (some 66) rfl rfl Tryd.func86 (by kernel_rfl) rfl #[.slice Ao54 t929.length co54, .slice Ao55 t939.length co55] rfl (as_) ?_; (with_reducible refine (trishawref01_subD.calls k2 _ _ t929 _ _ t939 t942 _ ?side1 ?side2 ?side3 ?side4 A45.out).mono ?_); (case side1 => exact cr_ HO_7.out); (case side2 => exact (Kd.R_reads' HO_7.out).2.1); (case side3 => exact cr_ HO941.out); (case side4 => exact (Kd.R_reads' HO941.out).2.1); rintro e w56 ⟨v943, rfl, ho0, hb⟩; refine ⟨_, rfl, ?_⟩; have HO944 := rl_ (rn_ (rn_ (rn_ (rn_ (rn_ ho0 HO_6) HO_7) HO935) HO938) HO941); replace HO_6 := re_ HO_6 ho0 hb; replace HO_7 := re_ HO_7 ho0 hb; replace HO935 := re_ HO935 ho0 hb; replace HO938 := re_ HO938 ho0 hb; replace HO941 := re_ HO941 ho0 hb; replace HB := hb_ hb; clear hb ho0))
        go_roundg k2
        case measure => have := HK1.out; have := HK2.out; omega
        case rel => exact ⟨(y932), (t942), (wrap64 (x8_1 - 1)), rs_, H', ⟨by have := HK1.out; have := HK2.out; omega⟩, ⟨by refine kr_ ?_; exact Kd.R_mono HO_6.out (fun _ hk => hk.2)⟩, ⟨by refine kr_ ?_; exact Kd.R_mono HO944.out (fun _ hk => hk.1.1.1.1.2)⟩, ⟨bl_⟩⟩
    ·rw [if_neg c8] at H
     have c8b0 : decide (0 ≤ x8_1) = false := decide_eq_false c8
     clear c8
     obtain ⟨t919, A57, H⟩ := bi_ H
     replace H : (some (t919, x7_1)) = some (r1, r2) := H
     simp only [Option.some.injEq, Prod.mk.injEq] at H
     obtain ⟨rfl, rfl⟩ := H
     obtain ⟨Ao58, co58, eo58⟩ := Kd.R_slice HO_6.out
     subst eo58
     go_wp2_with (first | ((with_reducible refine gate_callee (f := 89) rfl ?_); refine goesL_ (some 68) rfl rfl Tryd.func89 (by kernel_rfl) rfl #[.slice Ao58 x6_1.length co58] rfl (as_) ?_; (with_reducible refine (trishawref01_trim.calls k1 _ _ x6_1 t919 _ ?side1 ?side2 A57.out).mono ?_); (case side1 => exact cr_ HO_6.out); (case side2 => exact (Kd.R_reads' HO_6.out).2.1); rintro e w59 ⟨v920, rfl, ho0, hb⟩; refine ⟨_, rfl, ?_⟩; have HO921 := rl_ (rn_ (rn_ ho0 HO_6) HO_7); replace HO_6 := re_ HO_6 ho0 hb; replace HO_7 := re_ HO_7 ho0 hb; replace HB := hb_ hb; clear hb ho0))
     go_ret2
     exact ⟨_, _, er_, by refine kr_ ?_; exact Kd.R_mono HO921.out (fun _ hk => hk.2), by refine kr_ ?_; exact Kd.R_mono HO_7.out (fun _ hk => hk.2), bl_⟩

/-! ### trishawref01_whole: function 84 -/
def trishawref01_whole.f (k : Nat) (a0 : Bool) (l1 : List Int) : Option (Bool × List Int) := (trishawref01_trim.f k l1).bind fun t956 => (if a0 = true then (some (decide ((t956.length : Int) > 0), t956)) else (some (false, t956)))
set_option maxHeartbeats 8000000 in
set_option maxRecDepth 100000 in
theorem trishawref01_whole.calls (k : Nat) (a0 : Bool) (A1 : Option Addr) (c1 : Nat) (l1 : List Int) (r1 : Bool) (r2 : List Int) (w : World) (hr1 : Kd.C (Kd.int .i64) w A1 l1.length l1) (hc1 : l1.length ≤ c1) (h : trishawref01_whole.f k a0 l1 = some (r1, r2)) :
    Calls Tryd.prog 84 #[.bool a0, .slice A1 l1.length c1] w fun e w' => ∃ v1_ : Value, e = .returned (.agg #[.bool r1, v1_]) ∧ Kd.R (Kd.int .i64) 3 w' w.heap.size (fun _ => True) v1_ r2 ∧ Below w.heap.size w w' := by
 have hu91 := Tryd.underlying91
 have HR1 := Aside0.mk hr1
 have HC1 := Aside0.mk hc1
 clear hr1 hc1
 have HB := Aside0.mk (Below.refl w.heap.size w)
 have H : ((trishawref01_trim.f k l1).bind fun t956 => (if a0 = true then (some (decide ((t956.length : Int) > 0), t956)) else (some (false, t956)))) = some (r1, r2) := h
 clear h
 obtain ⟨t956, A3, H⟩ := bi_ H
 replace H : (if a0 = true then (some (decide ((t956.length : Int) > 0), t956)) else (some (false, t956))) = some (r1, r2) := H
 by_cases c4 : a0 = true
 ·subst c4
  have H1 : (some (decide ((t956.length : Int) > 0), t956)) = some (r1, r2) := by rw [if_pos rfl] at H; exact H
  clear H
  have H := H1
  clear H1
  rw [show decide ((t956.length : Int) > 0) = decide (0 < t956.length) from decide_eq_decide.2 (by omega)] at H
  simp only [Option.some.injEq, Prod.mk.injEq] at H
  obtain ⟨rfl, rfl⟩ := H
  go_enter Tryd.func84, Tryd.ntmps84
  go_wp2_with (first | ((with_reducible refine gate_dst (N := 4) rfl ?_); (try (refine gate_guard (by rfl) ?_; dsimp only)); refine be_ #[.bool false, .slice none 0 0] 91 ?_; intro gb955 hg w5 hbox hb; have BK955 := Aside0.mk (hbox); have GW955 := gw_ hg; have GE955 := gw_ hg; replace HB := hb_ hb; clear hb hbox hg) | ((with_reducible refine gate_callee (f := 89) rfl ?_); refine goesL_ (some 7) rfl rfl Tryd.func89 (by kernel_rfl) rfl #[.slice A1 l1.length c1] rfl (as_) ?_; (with_reducible refine (trishawref01_trim.calls k _ _ l1 t956 _ ?side1 ?side2 A3.out).mono ?_); (case side1 => exact cb_ HR1.out); (case side2 => exact HC1.out); rintro e w6 ⟨v957, rfl, ho0, hb⟩; refine ⟨_, rfl, ?_⟩; have HO958 := rl_ ho0; replace BK955 := bb_ BK955 hb; replace HB := hb_ hb; clear hb ho0; obtain ⟨Ao7, co7, eo7⟩ := Kd.R_slice HO958.out; subst eo7; have hcz8_0 := bc_ BK955 0 (.bool false); have hcz8_1 := bc_ BK955 1 (.slice none 0 0); have hfz8_0 := bz_ BK955 0; have hfz8_1 := bz_ BK955 1))
  refine bodyPost_ret (results_cell_row rfl _ _ gb955 91 #[.bool (decide (0 < t956.length)), .slice Ao7 t956.length co7] (0, 0) _ rfl (by refine bk_ ?_; refine blk_put (cs := #[.bool (decide (0 < t956.length)), .slice none 0 0]) ?_ 1 _ rfl; refine bk_ ?_; refine blk_put (cs := #[.bool false, .slice none 0 0]) ?_ 0 _ rfl; refine bk_ ?_; exact BK955.out) Tryd.underlying91 rfl (by kernel_rfl)) rfl ?_
  exact ⟨_, er_, by refine kr_ ?_; exact Kd.R_mono (Kd.R_far (p := ⟨gb955, 1, none⟩) (Kd.R_far (p := ⟨gb955, 0, none⟩) (Kd.R_types HO958.out BK955.out (by decide)) (fun _ hk => hk.2) (.bool (decide (0 < t956.length)))) (fun _ hk => hk.2) (.slice Ao7 t956.length co7)) (fun _ hk => trivial), bl_⟩
 ·replace c4 := Bool.eq_false_iff.mpr c4
  subst c4
  have H1 : (some (false, t956)) = some (r1, r2) := by rw [if_neg (show ¬ (false = true) by decide)] at H; exact H
  clear H
  have H := H1
  clear H1
  simp only [Option.some.injEq, Prod.mk.injEq] at H
  obtain ⟨rfl, rfl⟩ := H
  go_enter Tryd.func84, Tryd.ntmps84
  go_wp2_with (first | ((with_reducible refine gate_dst (N := 4) rfl ?_); (try (refine gate_guard (by rfl) ?_; dsimp only)); refine be_ #[.bool false, .slice none 0 0] 91 ?_; intro gb955 hg w9 hbox hb; have BK955 := Aside0.mk (hbox); have GW955 := gw_ hg; have GE955 := gw_ hg; replace HB := hb_ hb; clear hb hbox hg) | ((with_reducible refine gate_callee (f := 89) rfl ?_); refine goesL_ (some 7) rfl rfl Tryd.func89 (by kernel_rfl) rfl #[.slice A1 l1.length c1] rfl (as_) ?_; (with_reducible refine (trishawref01_trim.calls k _ _ l1 t956 _ ?side1 ?side2 A3.out).mono ?_); (case side1 => exact cb_ HR1.out); (case side2 => exact HC1.out); rintro e w10 ⟨v957, rfl, ho0, hb⟩; refine ⟨_, rfl, ?_⟩; have HO958 := rl_ ho0; replace BK955 := bb_ BK955 hb; replace HB := hb_ hb; clear hb ho0; obtain ⟨Ao11, co11, eo11⟩ := Kd.R_slice HO958.out; subst eo11; have hcz12_0 := bc_ BK955 0 (.bool false); have hcz12_1 := bc_ BK955 1 (.slice none 0 0); have hfz12_0 := bz_ BK955 0; have hfz12_1 := bz_ BK955 1))
  refine bodyPost_ret (results_cell_row rfl _ _ gb955 91 #[.bool false, .slice Ao11 t956.length co11] (0, 0) _ rfl (by refine bk_ ?_; refine blk_put (cs := #[.bool false, .slice none 0 0]) ?_ 1 _ rfl; refine bk_ ?_; refine blk_put (cs := #[.bool false, .slice none 0 0]) ?_ 0 _ rfl; refine bk_ ?_; exact BK955.out) Tryd.underlying91 rfl (by kernel_rfl)) rfl ?_
  exact ⟨_, er_, by refine kr_ ?_; exact Kd.R_mono (Kd.R_far (p := ⟨gb955, 1, none⟩) (Kd.R_far (p := ⟨gb955, 0, none⟩) (Kd.R_types HO958.out BK955.out (by decide)) (fun _ hk => hk.2) (.bool false)) (fun _ hk => hk.2) (.slice Ao11 t956.length co11)) (fun _ hk => trivial), bl_⟩

end Go.Proofs.YtgobffgogmnmpaaDoor.P
