-- Written by wip/tools/myprint.py of this session's repo, over the kit's printer and hand texts.
import Derived.Test.YtgobffgogmnmpaaDoorPx0
import Derived.Test.YtgobffgogmnmpaaDoorPre
import Derived.Test.YtgobffgogmnmpaaDoorPx1
import Derived.Test.YtgobffgogmnmpaaDoorPx4
import Derived.Test.YtgobffgogmnmpaaDoorPx6
import Derived.Test.YtgobffgogmnmpaaDoorPx7
import Derived.Test.YtgobffgogmnmpaaDoorPx8
import Derived.Test.YtgobffgogmnmpaaDoorPx9
namespace Go.Proofs.YtgobffgogmnmpaaDoor.P
open Go.RowKit Go.Proofs.YtgobffgogmnmpaaDoorW.PrintWords Go.Proofs.YtgobffgogmnmpaaDoorW.PrintLast Go.Proofs.YtgobffgogmnmpaaDoorW.PrintMore
attribute [local go_sem] max2_int min2_int max_two min_two max_three min_three max_four min_four   -- for this text's walks alone
set_option linter.unusedVariables false
set_option linter.unusedSimpArgs false

attribute [local go_sem high] eqA26
/-! ### trishawlaw01_alive: function 17 -/
def trishawlaw01_alive.f (k : Nat)  : Option (Bool) := (turn_Fair.f k (([1, 1] : List Int)) 4).bind fun bt263 => ((turn_Deviation.f k (([1, 1] : List Int)) bt263.1).bind fun bt270 => ((turn_Round.f k (([3, 1] : List Int))).bind fun bt277 => ((turn_Least.f k (([1, 1, 1] : List Int))).bind fun bt284 => (if bt263.2 = 0 then ((trishawlaw01_same.f k bt263.1 (([0, 1, 0, 1] : List Int))).bind fun t291 => (if t291 = true then (if bt270.2.2 = 0 then (if (bt270.1 == 1 && (bt270.2.1 == 2)) = true then (if bt277.2 = 0 then ((trishawlaw01_same.f k bt277.1 (([0, 0, 1, 0] : List Int))).bind fun t295 => (if t295 = true then (if bt284.2.2 = 0 then (some (bt284.1 == 2 && (bt284.2.1 == 3))) else (some false)) else (some false))) else (some false)) else (some false)) else (some false)) else (some false))) else (some false)))))
theorem trishawlaw01_alive.mono : ∀ k, LeO (trishawlaw01_alive.f k ) (trishawlaw01_alive.f (k + 1) ) := by
  intro  k
  unfold trishawlaw01_alive.f
  with_reducible repeat' first | exact trishawlaw01_same.mono _ _ _ | exact turn_Deviation.mono _ _ _ | exact turn_Fair.mono _ _ _ | exact turn_Least.mono _ _ | exact turn_Round.mono _ _ | exact LeO.refl _ | exact LeO.none _ | refine LeO.ite ?_ ?_ | refine LeO.bind ?_ (fun _ => ?_)
theorem trishawlaw01_alive.true_ {k : Nat} {r : Bool} (h : trishawlaw01_alive.f k = some r) : r = true := by
  have a : trishawlaw01_alive.f 80 = some true := by decide +kernel
  exact Option.some.inj ((at_rounds trishawlaw01_alive.mono (Nat.le_max_left k 80) h).symm.trans (at_rounds trishawlaw01_alive.mono (Nat.le_max_right k 80) a))
set_option maxHeartbeats 8000000 in
set_option maxRecDepth 100000 in
theorem trishawlaw01_alive.calls (k : Nat)  (r : Bool) (w : World) (h : trishawlaw01_alive.f k  = some r) (hN0 : NoneLaid w) :
    Calls Tryd.prog 17 #[] w fun e w' => e = .returned (.bool r) ∧ Below w.heap.size w w' := by
 have HN := Aside0.mk hN0
 clear hN0
 have hu26 := Tryd.underlying26
 have HB := Aside0.mk (Below.refl w.heap.size w)
 have hr := Aside0.mk (trishawlaw01_alive.true_ h)
 have H : ((turn_Fair.f k (([1, 1] : List Int)) 4).bind fun bt263 => ((turn_Deviation.f k (([1, 1] : List Int)) bt263.1).bind fun bt270 => ((turn_Round.f k (([3, 1] : List Int))).bind fun bt277 => ((turn_Least.f k (([1, 1, 1] : List Int))).bind fun bt284 => (if bt263.2 = 0 then ((trishawlaw01_same.f k bt263.1 (([0, 1, 0, 1] : List Int))).bind fun t291 => (if t291 = true then (if bt270.2.2 = 0 then (if (bt270.1 == 1 && (bt270.2.1 == 2)) = true then (if bt277.2 = 0 then ((trishawlaw01_same.f k bt277.1 (([0, 0, 1, 0] : List Int))).bind fun t295 => (if t295 = true then (if bt284.2.2 = 0 then (some (bt284.1 == 2 && (bt284.2.1 == 3))) else (some false)) else (some false))) else (some false)) else (some false)) else (some false)) else (some false))) else (some false)))))) = some r := h
 clear h
 obtain ⟨y260, hy260⟩ : ∃ y_ : List Int, y_ = (([1, 1] : List Int)) := ⟨_, rfl⟩
 replace H : ((turn_Fair.f k y260 4).bind fun bt263 => ((turn_Deviation.f k (([1, 1] : List Int)) bt263.1).bind fun bt270 => ((turn_Round.f k (([3, 1] : List Int))).bind fun bt277 => ((turn_Least.f k (([1, 1, 1] : List Int))).bind fun bt284 => (if bt263.2 = 0 then ((trishawlaw01_same.f k bt263.1 (([0, 1, 0, 1] : List Int))).bind fun t291 => (if t291 = true then (if bt270.2.2 = 0 then (if (bt270.1 == 1 && (bt270.2.1 == 2)) = true then (if bt277.2 = 0 then ((trishawlaw01_same.f k bt277.1 (([0, 0, 1, 0] : List Int))).bind fun t295 => (if t295 = true then (if bt284.2.2 = 0 then (some (bt284.1 == 2 && (bt284.2.1 == 3))) else (some false)) else (some false))) else (some false)) else (some false)) else (some false)) else (some false))) else (some false)))))) = some r := by first | (rw [hy260]; with_reducible exact H) | (have H2_ := (Option.bind_some _ _).symm.trans H; rw [hy260]; with_reducible exact H2_) | (have H2_ := (Option.bind_some _ _).symm.trans H; with_reducible exact H2_) | with_reducible exact H | (rw [hy260]; exact H) | exact H
 have Ny260 := Aside0.mk hy260
 clear hy260
 obtain ⟨⟨t263, t264⟩, A1, H⟩ := bi_ H
 replace H : ((turn_Deviation.f k (([1, 1] : List Int)) t263).bind fun bt270 => ((turn_Round.f k (([3, 1] : List Int))).bind fun bt277 => ((turn_Least.f k (([1, 1, 1] : List Int))).bind fun bt284 => (if t264 = 0 then ((trishawlaw01_same.f k t263 (([0, 1, 0, 1] : List Int))).bind fun t291 => (if t291 = true then (if bt270.2.2 = 0 then (if (bt270.1 == 1 && (bt270.2.1 == 2)) = true then (if bt277.2 = 0 then ((trishawlaw01_same.f k bt277.1 (([0, 0, 1, 0] : List Int))).bind fun t295 => (if t295 = true then (if bt284.2.2 = 0 then (some (bt284.1 == 2 && (bt284.2.1 == 3))) else (some false)) else (some false))) else (some false)) else (some false)) else (some false)) else (some false))) else (some false))))) = some r := H
 obtain ⟨y267, hy267⟩ : ∃ y_ : List Int, y_ = (([1, 1] : List Int)) := ⟨_, rfl⟩
 replace H : ((turn_Deviation.f k y267 t263).bind fun bt270 => ((turn_Round.f k (([3, 1] : List Int))).bind fun bt277 => ((turn_Least.f k (([1, 1, 1] : List Int))).bind fun bt284 => (if t264 = 0 then ((trishawlaw01_same.f k t263 (([0, 1, 0, 1] : List Int))).bind fun t291 => (if t291 = true then (if bt270.2.2 = 0 then (if (bt270.1 == 1 && (bt270.2.1 == 2)) = true then (if bt277.2 = 0 then ((trishawlaw01_same.f k bt277.1 (([0, 0, 1, 0] : List Int))).bind fun t295 => (if t295 = true then (if bt284.2.2 = 0 then (some (bt284.1 == 2 && (bt284.2.1 == 3))) else (some false)) else (some false))) else (some false)) else (some false)) else (some false)) else (some false))) else (some false))))) = some r := by first | (rw [hy267]; with_reducible exact H) | (have H2_ := (Option.bind_some _ _).symm.trans H; rw [hy267]; with_reducible exact H2_) | (have H2_ := (Option.bind_some _ _).symm.trans H; with_reducible exact H2_) | with_reducible exact H | (rw [hy267]; exact H) | exact H
 have Ny267 := Aside0.mk hy267
 clear hy267
 obtain ⟨⟨t270, t271, t272⟩, A2, H⟩ := bi_ H
 replace H : ((turn_Round.f k (([3, 1] : List Int))).bind fun bt277 => ((turn_Least.f k (([1, 1, 1] : List Int))).bind fun bt284 => (if t264 = 0 then ((trishawlaw01_same.f k t263 (([0, 1, 0, 1] : List Int))).bind fun t291 => (if t291 = true then (if t272 = 0 then (if (t270 == 1 && (t271 == 2)) = true then (if bt277.2 = 0 then ((trishawlaw01_same.f k bt277.1 (([0, 0, 1, 0] : List Int))).bind fun t295 => (if t295 = true then (if bt284.2.2 = 0 then (some (bt284.1 == 2 && (bt284.2.1 == 3))) else (some false)) else (some false))) else (some false)) else (some false)) else (some false)) else (some false))) else (some false)))) = some r := H
 obtain ⟨y274, hy274⟩ : ∃ y_ : List Int, y_ = (([3, 1] : List Int)) := ⟨_, rfl⟩
 replace H : ((turn_Round.f k y274).bind fun bt277 => ((turn_Least.f k (([1, 1, 1] : List Int))).bind fun bt284 => (if t264 = 0 then ((trishawlaw01_same.f k t263 (([0, 1, 0, 1] : List Int))).bind fun t291 => (if t291 = true then (if t272 = 0 then (if (t270 == 1 && (t271 == 2)) = true then (if bt277.2 = 0 then ((trishawlaw01_same.f k bt277.1 (([0, 0, 1, 0] : List Int))).bind fun t295 => (if t295 = true then (if bt284.2.2 = 0 then (some (bt284.1 == 2 && (bt284.2.1 == 3))) else (some false)) else (some false))) else (some false)) else (some false)) else (some false)) else (some false))) else (some false)))) = some r := by first | (rw [hy274]; with_reducible exact H) | (have H2_ := (Option.bind_some _ _).symm.trans H; rw [hy274]; with_reducible exact H2_) | (have H2_ := (Option.bind_some _ _).symm.trans H; with_reducible exact H2_) | with_reducible exact H | (rw [hy274]; exact H) | exact H
 have Ny274 := Aside0.mk hy274
 clear hy274
 obtain ⟨⟨t277, t278⟩, A3, H⟩ := bi_ H
 replace H : ((turn_Least.f k (([1, 1, 1] : List Int))).bind fun bt284 => (if t264 = 0 then ((trishawlaw01_same.f k t263 (([0, 1, 0, 1] : List Int))).bind fun t291 => (if t291 = true then (if t272 = 0 then (if (t270 == 1 && (t271 == 2)) = true then (if t278 = 0 then ((trishawlaw01_same.f k t277 (([0, 0, 1, 0] : List Int))).bind fun t295 => (if t295 = true then (if bt284.2.2 = 0 then (some (bt284.1 == 2 && (bt284.2.1 == 3))) else (some false)) else (some false))) else (some false)) else (some false)) else (some false)) else (some false))) else (some false))) = some r := H
 obtain ⟨y281, hy281⟩ : ∃ y_ : List Int, y_ = (([1, 1, 1] : List Int)) := ⟨_, rfl⟩
 replace H : ((turn_Least.f k y281).bind fun bt284 => (if t264 = 0 then ((trishawlaw01_same.f k t263 (([0, 1, 0, 1] : List Int))).bind fun t291 => (if t291 = true then (if t272 = 0 then (if (t270 == 1 && (t271 == 2)) = true then (if t278 = 0 then ((trishawlaw01_same.f k t277 (([0, 0, 1, 0] : List Int))).bind fun t295 => (if t295 = true then (if bt284.2.2 = 0 then (some (bt284.1 == 2 && (bt284.2.1 == 3))) else (some false)) else (some false))) else (some false)) else (some false)) else (some false)) else (some false))) else (some false))) = some r := by first | (rw [hy281]; with_reducible exact H) | (have H2_ := (Option.bind_some _ _).symm.trans H; rw [hy281]; with_reducible exact H2_) | (have H2_ := (Option.bind_some _ _).symm.trans H; with_reducible exact H2_) | with_reducible exact H | (rw [hy281]; exact H) | exact H
 have Ny281 := Aside0.mk hy281
 clear hy281
 obtain ⟨⟨t284, t285, t286⟩, A4, H⟩ := bi_ H
 replace H : (if t264 = 0 then ((trishawlaw01_same.f k t263 (([0, 1, 0, 1] : List Int))).bind fun t291 => (if t291 = true then (if t272 = 0 then (if (t270 == 1 && (t271 == 2)) = true then (if t278 = 0 then ((trishawlaw01_same.f k t277 (([0, 0, 1, 0] : List Int))).bind fun t295 => (if t295 = true then (if t286 = 0 then (some (t284 == 2 && (t285 == 3))) else (some false)) else (some false))) else (some false)) else (some false)) else (some false)) else (some false))) else (some false)) = some r := H
 by_cases c5 : t264 = 0
 ·rw [if_pos c5] at H
  have c5b0 : (t264 == 0) = true := beq_iff_eq.mpr c5
  have c5b1 : (t264 != 0) = false := bne_eq_false_iff_eq.mpr c5
  clear c5
  obtain ⟨y288, hy288⟩ : ∃ y_ : List Int, y_ = (([0, 1, 0, 1] : List Int)) := ⟨_, rfl⟩
  replace H : ((trishawlaw01_same.f k t263 y288).bind fun t291 => (if t291 = true then (if t272 = 0 then (if (t270 == 1 && (t271 == 2)) = true then (if t278 = 0 then ((trishawlaw01_same.f k t277 (([0, 0, 1, 0] : List Int))).bind fun t295 => (if t295 = true then (if t286 = 0 then (some (t284 == 2 && (t285 == 3))) else (some false)) else (some false))) else (some false)) else (some false)) else (some false)) else (some false))) = some r := by first | (rw [hy288]; with_reducible exact H) | (have H2_ := (Option.bind_some _ _).symm.trans H; rw [hy288]; with_reducible exact H2_) | (have H2_ := (Option.bind_some _ _).symm.trans H; with_reducible exact H2_) | with_reducible exact H | (rw [hy288]; exact H) | exact H
  have Ny288 := Aside0.mk hy288
  clear hy288
  obtain ⟨t291, A6, H⟩ := bi_ H
  replace H : (if t291 = true then (if t272 = 0 then (if (t270 == 1 && (t271 == 2)) = true then (if t278 = 0 then ((trishawlaw01_same.f k t277 (([0, 0, 1, 0] : List Int))).bind fun t295 => (if t295 = true then (if t286 = 0 then (some (t284 == 2 && (t285 == 3))) else (some false)) else (some false))) else (some false)) else (some false)) else (some false)) else (some false)) = some r := H
  by_cases c7 : t291 = true
  ·subst c7
   have H1 : (if t272 = 0 then (if (t270 == 1 && (t271 == 2)) = true then (if t278 = 0 then ((trishawlaw01_same.f k t277 (([0, 0, 1, 0] : List Int))).bind fun t295 => (if t295 = true then (if t286 = 0 then (some (t284 == 2 && (t285 == 3))) else (some false)) else (some false))) else (some false)) else (some false)) else (some false)) = some r := by rw [if_pos rfl] at H; exact H
   clear H
   have H := H1
   clear H1
   by_cases c8 : t272 = 0
   ·rw [if_pos c8] at H
    have c8b0 : (t272 == 0) = true := beq_iff_eq.mpr c8
    have c8b1 : (t272 != 0) = false := bne_eq_false_iff_eq.mpr c8
    clear c8
    by_cases c9 : (t270 == 1 && (t271 == 2)) = true
    ·rw [if_pos c9] at H
     have c9b0 : (t270 == 1 && (t271 == 2)) = true := c9
     (try (have c9b1 : decide (t270 = 1 && (t271 == 2)) = true := by simpa using c9))
     (try (have c9b2 : (t270 == 1 && (t271 == 2)) = true := by simpa using c9))
     clear c9
     by_cases c10 : t278 = 0
     ·rw [if_pos c10] at H
      have c10b0 : (t278 == 0) = true := beq_iff_eq.mpr c10
      have c10b1 : (t278 != 0) = false := bne_eq_false_iff_eq.mpr c10
      clear c10
      obtain ⟨y292, hy292⟩ : ∃ y_ : List Int, y_ = (([0, 0, 1, 0] : List Int)) := ⟨_, rfl⟩
      replace H : ((trishawlaw01_same.f k t277 y292).bind fun t295 => (if t295 = true then (if t286 = 0 then (some (t284 == 2 && (t285 == 3))) else (some false)) else (some false))) = some r := by first | (rw [hy292]; with_reducible exact H) | (have H2_ := (Option.bind_some _ _).symm.trans H; rw [hy292]; with_reducible exact H2_) | (have H2_ := (Option.bind_some _ _).symm.trans H; with_reducible exact H2_) | with_reducible exact H | (rw [hy292]; exact H) | exact H
      have Ny292 := Aside0.mk hy292
      clear hy292
      obtain ⟨t295, A11, H⟩ := bi_ H
      replace H : (if t295 = true then (if t286 = 0 then (some (t284 == 2 && (t285 == 3))) else (some false)) else (some false)) = some r := H
      by_cases c12 : t295 = true
      ·subst c12
       have H1 : (if t286 = 0 then (some (t284 == 2 && (t285 == 3))) else (some false)) = some r := by rw [if_pos rfl] at H; exact H
       clear H
       have H := H1
       clear H1
       by_cases c13 : t286 = 0
       ·rw [if_pos c13] at H
        have c13b0 : (t286 == 0) = true := beq_iff_eq.mpr c13
        have c13b1 : (t286 != 0) = false := bne_eq_false_iff_eq.mpr c13
        clear c13
        obtain rfl := Option.some.inj H
        go_enter Tryd.func17, Tryd.ntmps17
        go_wp2_with (first | ((with_reducible refine gate_dst (N := 10) rfl ?_); (try (refine gate_guard (by rfl) ?_; dsimp only)); refine Kd.R_lit (Kd.int .i64) _ 3 ?hg (N := 10) ?hd (xs := ([1, 1] : List Int)) (inner := [.int .i64 1, .int .i64 1]) (ok := fun _ => True) (okp := fun _ => True) ?hr ?hp (fun _ hk => hk) trivial (Below.refl _ _) (Nat.le_refl _) (by simp) ?_; (case hd => rfl); (case hg => rfl); (case hr => first | (go_simp; done) | (go_simp; rfl)); (case hp => exact (Reps.one (show Kd.M (Kd.int .i64) _ _ _ 1 [.int .i64 1] from rfl) (Reps.one (show Kd.M (Kd.int .i64) _ _ _ 1 [.int .i64 1] from rfl) (Reps.none _ _)))); intro v261 w14 ho15 hb hg_ hnew_; clear hg_ hnew_; (first | rw [← Ny260.out] at ho15 | (simp only [Int.reduceToNat] at ho15; rw [← Ny260.out] at ho15)); have HO262 := rl_ ho15; replace HB := hb_ hb; clear hb ho15; obtain ⟨Ao16, co16, eo16⟩ := Kd.R_slice HO262.out; subst eo16) | ((with_reducible refine gate_callee (f := 31) rfl ?_); refine goesL_ (some 11) rfl rfl Tryd.func31 (by kernel_rfl) rfl #[.slice Ao16 y260.length co16, .int .i64 4] rfl (as_) ?_; (with_reducible refine (turn_Fair.calls k _ _ y260 4 t263 t264 _ ?side1 ?side2 A1.out).mono ?_); (case side1 => exact cr_ HO262.out); (case side2 => exact (Kd.R_reads' HO262.out).2.1); rintro e w17 ⟨v265, rfl, ho0, hb⟩; refine ⟨_, rfl, ?_⟩; have HO266 := rl_ (rn_ ho0 HO262); replace HO262 := re_ HO262 ho0 hb; replace HB := hb_ hb; clear hb ho0) | ((with_reducible refine gate_dst (N := 15) rfl ?_); (try (refine gate_guard (by rfl) ?_; dsimp only)); refine Kd.R_lit (Kd.int .i64) _ 3 ?hg (N := 15) ?hd (xs := ([1, 1] : List Int)) (inner := [.int .i64 1, .int .i64 1]) (ok := fun _ => True) (okp := fun _ => True) ?hr ?hp (fun _ hk => hk) trivial (Below.refl _ _) (Nat.le_refl _) (by simp) ?_; (case hd => rfl); (case hg => rfl); (case hr => first | (go_simp; done) | (go_simp; rfl)); (case hp => exact (Reps.one (show Kd.M (Kd.int .i64) _ _ _ 1 [.int .i64 1] from rfl) (Reps.one (show Kd.M (Kd.int .i64) _ _ _ 1 [.int .i64 1] from rfl) (Reps.none _ _)))); intro v268 w18 ho19 hb hg_ hnew_; clear hg_ hnew_; (first | rw [← Ny267.out] at ho19 | (simp only [Int.reduceToNat] at ho19; rw [← Ny267.out] at ho19)); have HO269 := rl_ (rn_ (rn_ ho19 HO262) HO266); replace HO262 := re_ HO262 ho19 hb; replace HO266 := re_ HO266 ho19 hb; replace HB := hb_ hb; clear hb ho19; obtain ⟨Ao20, co20, eo20⟩ := Kd.R_slice HO269.out; subst eo20; obtain ⟨Ao21, co21, eo21⟩ := Kd.R_slice HO266.out; subst eo21) | ((with_reducible refine gate_callee (f := 25) rfl ?_); refine goesL_ (some 17) rfl rfl Tryd.func25 (by kernel_rfl) rfl #[.slice Ao20 y267.length co20, .slice Ao21 t263.length co21] rfl (as_) ?_; (with_reducible refine (turn_Deviation.calls k _ _ y267 _ _ t263 t270 t271 t272 _ ?side1 ?side2 ?side3 ?side4 A2.out).mono ?_); (case side1 => exact cr_ HO269.out); (case side2 => exact (Kd.R_reads' HO269.out).2.1); (case side3 => exact cr_ HO266.out); (case side4 => exact (Kd.R_reads' HO266.out).2.1); rintro e w22 ⟨rfl, hb⟩; refine ⟨_, rfl, ?_⟩; replace HO262 := rb_ HO262 hb; replace HO266 := rb_ HO266 hb; replace HO269 := rb_ HO269 hb; replace HB := hb_ hb; clear hb) | ((with_reducible refine gate_dst (N := 3) rfl ?_); (try (refine gate_guard (by rfl) ?_; dsimp only)); refine be_ #[.int .i64 0, .int .i64 0] 26 ?_; intro gb273 hg w23 hbox hb; replace HO262 := rb_ HO262 hb; replace HO266 := rb_ HO266 hb; replace HO269 := rb_ HO269 hb; have BK273 := Aside0.mk (hbox); have GW273 := gw_ hg; have GE273 := gw_ hg; replace HB := hb_ hb; clear hb hbox hg; have hcz24_0 := bc_ BK273 0 (.int .i64 0); have hcz24_1 := bc_ BK273 1 (.int .i64 0); have hfz24_0 := bz_ BK273 0; have hfz24_1 := bz_ BK273 1) | ((with_reducible refine gate_dst (N := 21) rfl ?_); (try (refine gate_guard (by rfl) ?_; dsimp only)); refine Kd.R_lit (Kd.int .i64) _ 3 ?hg (N := 21) ?hd (xs := ([3, 1] : List Int)) (inner := [.int .i64 3, .int .i64 1]) (ok := fun _ => True) (okp := fun _ => True) ?hr ?hp (fun _ hk => hk) trivial (Below.refl _ _) (Nat.le_refl _) (by simp) ?_; (case hd => rfl); (case hg => rfl); (case hr => first | (go_simp; done) | (go_simp; rfl)); (case hp => exact (Reps.one (show Kd.M (Kd.int .i64) _ _ _ 3 [.int .i64 3] from rfl) (Reps.one (show Kd.M (Kd.int .i64) _ _ _ 1 [.int .i64 1] from rfl) (Reps.none _ _)))); intro v275 w25 ho26 hb hg_ hnew_; clear hg_ hnew_; (first | rw [← Ny274.out] at ho26 | (simp only [Int.reduceToNat] at ho26; rw [← Ny274.out] at ho26)); have HO276 := Aside0.mk (Kd.R_lower (Kd.R_new' (Kd.R_new' (Kd.R_new' ho26 (Kd.R_lt (by refine kr_ ?_; exact (Kd.R_mono (Kd.R_far (p := ⟨gb273, 1, none⟩) (Kd.R_far (p := ⟨gb273, 0, none⟩) (Kd.R_types HO262.out BK273.out (by decide)) (fun _ hk => hk.2) (.int .i64 t270)) (fun _ hk => hk.2) (.int .i64 t271)) (fun _ h_ => h_.1))))) (Kd.R_lt (by refine kr_ ?_; exact (Kd.R_mono (Kd.R_far (p := ⟨gb273, 1, none⟩) (Kd.R_far (p := ⟨gb273, 0, none⟩) (Kd.R_types HO266.out BK273.out (by decide)) (fun _ hk => hk.2) (.int .i64 t270)) (fun _ hk => hk.2) (.int .i64 t271)) (fun _ h_ => h_.1))))) (Kd.R_lt (by refine kr_ ?_; exact (Kd.R_mono (Kd.R_far (p := ⟨gb273, 1, none⟩) (Kd.R_far (p := ⟨gb273, 0, none⟩) (Kd.R_types HO269.out BK273.out (by decide)) (fun _ hk => hk.2) (.int .i64 t270)) (fun _ hk => hk.2) (.int .i64 t271)) (fun _ h_ => h_.1))))) (below_size (bl_))); replace HO262 := Aside0.mk (Kd.R_elder' (by refine kr_ ?_; exact (Kd.R_mono (Kd.R_far (p := ⟨gb273, 1, none⟩) (Kd.R_far (p := ⟨gb273, 0, none⟩) (Kd.R_types HO262.out BK273.out (by decide)) (fun _ hk => hk.2) (.int .i64 t270)) (fun _ hk => hk.2) (.int .i64 t271)) (fun _ h_ => h_.1))) (Kd.R_base ho26) hb); replace HO266 := Aside0.mk (Kd.R_elder' (by refine kr_ ?_; exact (Kd.R_mono (Kd.R_far (p := ⟨gb273, 1, none⟩) (Kd.R_far (p := ⟨gb273, 0, none⟩) (Kd.R_types HO266.out BK273.out (by decide)) (fun _ hk => hk.2) (.int .i64 t270)) (fun _ hk => hk.2) (.int .i64 t271)) (fun _ h_ => h_.1))) (Kd.R_base ho26) hb); replace HO269 := Aside0.mk (Kd.R_elder' (by refine kr_ ?_; exact (Kd.R_mono (Kd.R_far (p := ⟨gb273, 1, none⟩) (Kd.R_far (p := ⟨gb273, 0, none⟩) (Kd.R_types HO269.out BK273.out (by decide)) (fun _ hk => hk.2) (.int .i64 t270)) (fun _ hk => hk.2) (.int .i64 t271)) (fun _ h_ => h_.1))) (Kd.R_base ho26) hb); replace BK273 := Aside0.mk (blk_below (g := gb273) (o := .cells #[.int .i64 t270, .int .i64 t271] 26 (0, 0)) (by refine bk_ ?_; refine blk_put (cs := #[.int .i64 t270, .int .i64 0]) ?_ 1 _ rfl; refine bk_ ?_; refine blk_put (cs := #[.int .i64 0, .int .i64 0]) ?_ 0 _ rfl; refine bk_ ?_; exact BK273.out) hb); replace HB := hb_ hb; clear hb ho26; obtain ⟨Ao27, co27, eo27⟩ := Kd.R_slice HO276.out; subst eo27) | ((with_reducible refine gate_callee (f := 20) rfl ?_); refine goesL_ (some 22) rfl rfl Tryd.func20 (by kernel_rfl) rfl #[.slice Ao27 y274.length co27] rfl (as_) ?_; (with_reducible refine (turn_Round.calls k _ _ y274 t277 t278 _ ?side1 ?side2 A3.out (HN.out.of (bl_))).mono ?_); (case side1 => exact cr_ HO276.out); (case side2 => exact (Kd.R_reads' HO276.out).2.1); rintro e w28 ⟨v279, rfl, ho0, hb⟩; refine ⟨_, rfl, ?_⟩; have HO280 := rl_ (rn_ (rn_ (rn_ (rn_ ho0 HO262) HO266) HO269) HO276); replace HO262 := re_ HO262 ho0 hb; replace HO266 := re_ HO266 ho0 hb; replace HO269 := re_ HO269 ho0 hb; replace HO276 := re_ HO276 ho0 hb; replace BK273 := bb_ BK273 hb; replace HB := hb_ hb; clear hb ho0) | ((with_reducible refine gate_dst (N := 26) rfl ?_); (try (refine gate_guard (by rfl) ?_; dsimp only)); refine Kd.R_lit (Kd.int .i64) _ 3 ?hg (N := 26) ?hd (xs := ([1, 1, 1] : List Int)) (inner := [.int .i64 1, .int .i64 1, .int .i64 1]) (ok := fun _ => True) (okp := fun _ => True) ?hr ?hp (fun _ hk => hk) trivial (Below.refl _ _) (Nat.le_refl _) (by simp) ?_; (case hd => rfl); (case hg => rfl); (case hr => first | (go_simp; done) | (go_simp; rfl)); (case hp => exact (Reps.one (show Kd.M (Kd.int .i64) _ _ _ 1 [.int .i64 1] from rfl) (Reps.one (show Kd.M (Kd.int .i64) _ _ _ 1 [.int .i64 1] from rfl) (Reps.one (show Kd.M (Kd.int .i64) _ _ _ 1 [.int .i64 1] from rfl) (Reps.none _ _))))); intro v282 w29 ho30 hb hg_ hnew_; clear hg_ hnew_; (first | rw [← Ny281.out] at ho30 | (simp only [Int.reduceToNat] at ho30; rw [← Ny281.out] at ho30)); have HO283 := rl_ (rn_ (rn_ (rn_ (rn_ (rn_ ho30 HO262) HO266) HO269) HO276) HO280); replace HO262 := re_ HO262 ho30 hb; replace HO266 := re_ HO266 ho30 hb; replace HO269 := re_ HO269 ho30 hb; replace HO276 := re_ HO276 ho30 hb; replace HO280 := re_ HO280 ho30 hb; replace BK273 := bb_ BK273 hb; replace HB := hb_ hb; clear hb ho30; obtain ⟨Ao31, co31, eo31⟩ := Kd.R_slice HO283.out; subst eo31) | ((with_reducible refine gate_callee (f := 18) rfl ?_); refine goesL_ (some 27) rfl rfl Tryd.func18 (by kernel_rfl) rfl #[.slice Ao31 y281.length co31] rfl (as_) ?_; (with_reducible refine (turn_Least.calls k _ _ y281 t284 t285 t286 _ ?side1 ?side2 A4.out (HN.out.of (bl_))).mono ?_); (case side1 => exact cr_ HO283.out); (case side2 => exact (Kd.R_reads' HO283.out).2.1); rintro e w32 ⟨rfl, hb⟩; refine ⟨_, rfl, ?_⟩; replace HO262 := rb_ HO262 hb; replace HO266 := rb_ HO266 hb; replace HO269 := rb_ HO269 hb; replace HO276 := rb_ HO276 hb; replace HO280 := rb_ HO280 hb; replace HO283 := rb_ HO283 hb; replace BK273 := bb_ BK273 hb; replace HB := hb_ hb; clear hb) | ((with_reducible refine gate_dst (N := 7) rfl ?_); (try (refine gate_guard (by rfl) ?_; dsimp only)); refine be_ #[.int .i64 0, .int .i64 0] 26 ?_; intro gb287 hg w33 hbox hb; replace HO262 := rb_ HO262 hb; replace HO266 := rb_ HO266 hb; replace HO269 := rb_ HO269 hb; replace HO276 := rb_ HO276 hb; replace HO280 := rb_ HO280 hb; replace HO283 := rb_ HO283 hb; have BK287 := Aside0.mk (hbox); have GW287 := gw_ hg; have GE287 := gw_ hg; replace HB := hb_ hb; have NB273_287 := nl_ hg BK273; have NB287_273 := sy_ NB273_287; replace BK273 := bb_ BK273 hb; clear hb hbox hg; have hnb34 := NB287_273.out; have hnc34 := NB273_287.out; have hcz35_0 := bc_ BK287 0 (.int .i64 0); have hcz35_1 := bc_ BK287 1 (.int .i64 0); have hfz35_0 := bz_ BK287 0; have hfz35_1 := bz_ BK287 1) | ((with_reducible refine gate_dst (N := 34) rfl ?_); (try (refine gate_guard (by rfl) ?_; dsimp only)); refine Kd.R_lit (Kd.int .i64) _ 3 ?hg (N := 34) ?hd (xs := ([0, 1, 0, 1] : List Int)) (inner := [.int .i64 0, .int .i64 1, .int .i64 0, .int .i64 1]) (ok := fun _ => True) (okp := fun _ => True) ?hr ?hp (fun _ hk => hk) trivial (Below.refl _ _) (Nat.le_refl _) (by simp) ?_; (case hd => rfl); (case hg => rfl); (case hr => first | (go_simp; done) | (go_simp; rfl)); (case hp => exact (Reps.one (show Kd.M (Kd.int .i64) _ _ _ 0 [.int .i64 0] from rfl) (Reps.one (show Kd.M (Kd.int .i64) _ _ _ 1 [.int .i64 1] from rfl) (Reps.one (show Kd.M (Kd.int .i64) _ _ _ 0 [.int .i64 0] from rfl) (Reps.one (show Kd.M (Kd.int .i64) _ _ _ 1 [.int .i64 1] from rfl) (Reps.none _ _)))))); intro v289 w36 ho37 hb hg_ hnew_; clear hg_ hnew_; (first | rw [← Ny288.out] at ho37 | (simp only [Int.reduceToNat] at ho37; rw [← Ny288.out] at ho37)); have HO290 := Aside0.mk (Kd.R_lower (Kd.R_new' (Kd.R_new' (Kd.R_new' (Kd.R_new' (Kd.R_new' (Kd.R_new' ho37 (Kd.R_lt (by refine kr_ ?_; exact (Kd.R_mono (Kd.R_far (p := ⟨gb287, 1, none⟩) (Kd.R_far (p := ⟨gb287, 0, none⟩) (Kd.R_types HO262.out BK287.out (by decide)) (fun _ hk => hk.2) (.int .i64 t284)) (fun _ hk => hk.2) (.int .i64 t285)) (fun _ h_ => h_.1))))) (Kd.R_lt (by refine kr_ ?_; exact (Kd.R_mono (Kd.R_far (p := ⟨gb287, 1, none⟩) (Kd.R_far (p := ⟨gb287, 0, none⟩) (Kd.R_types HO266.out BK287.out (by decide)) (fun _ hk => hk.2) (.int .i64 t284)) (fun _ hk => hk.2) (.int .i64 t285)) (fun _ h_ => h_.1))))) (Kd.R_lt (by refine kr_ ?_; exact (Kd.R_mono (Kd.R_far (p := ⟨gb287, 1, none⟩) (Kd.R_far (p := ⟨gb287, 0, none⟩) (Kd.R_types HO269.out BK287.out (by decide)) (fun _ hk => hk.2) (.int .i64 t284)) (fun _ hk => hk.2) (.int .i64 t285)) (fun _ h_ => h_.1))))) (Kd.R_lt (by refine kr_ ?_; exact (Kd.R_mono (Kd.R_far (p := ⟨gb287, 1, none⟩) (Kd.R_far (p := ⟨gb287, 0, none⟩) (Kd.R_types HO276.out BK287.out (by decide)) (fun _ hk => hk.2) (.int .i64 t284)) (fun _ hk => hk.2) (.int .i64 t285)) (fun _ h_ => h_.1))))) (Kd.R_lt (by refine kr_ ?_; exact (Kd.R_mono (Kd.R_far (p := ⟨gb287, 1, none⟩) (Kd.R_far (p := ⟨gb287, 0, none⟩) (Kd.R_types HO280.out BK287.out (by decide)) (fun _ hk => hk.2) (.int .i64 t284)) (fun _ hk => hk.2) (.int .i64 t285)) (fun _ h_ => h_.1))))) (Kd.R_lt (by refine kr_ ?_; exact (Kd.R_mono (Kd.R_far (p := ⟨gb287, 1, none⟩) (Kd.R_far (p := ⟨gb287, 0, none⟩) (Kd.R_types HO283.out BK287.out (by decide)) (fun _ hk => hk.2) (.int .i64 t284)) (fun _ hk => hk.2) (.int .i64 t285)) (fun _ h_ => h_.1))))) (below_size (bl_))); replace HO262 := Aside0.mk (Kd.R_elder' (by refine kr_ ?_; exact (Kd.R_mono (Kd.R_far (p := ⟨gb287, 1, none⟩) (Kd.R_far (p := ⟨gb287, 0, none⟩) (Kd.R_types HO262.out BK287.out (by decide)) (fun _ hk => hk.2) (.int .i64 t284)) (fun _ hk => hk.2) (.int .i64 t285)) (fun _ h_ => h_.1))) (Kd.R_base ho37) hb); replace HO266 := Aside0.mk (Kd.R_elder' (by refine kr_ ?_; exact (Kd.R_mono (Kd.R_far (p := ⟨gb287, 1, none⟩) (Kd.R_far (p := ⟨gb287, 0, none⟩) (Kd.R_types HO266.out BK287.out (by decide)) (fun _ hk => hk.2) (.int .i64 t284)) (fun _ hk => hk.2) (.int .i64 t285)) (fun _ h_ => h_.1))) (Kd.R_base ho37) hb); replace HO269 := Aside0.mk (Kd.R_elder' (by refine kr_ ?_; exact (Kd.R_mono (Kd.R_far (p := ⟨gb287, 1, none⟩) (Kd.R_far (p := ⟨gb287, 0, none⟩) (Kd.R_types HO269.out BK287.out (by decide)) (fun _ hk => hk.2) (.int .i64 t284)) (fun _ hk => hk.2) (.int .i64 t285)) (fun _ h_ => h_.1))) (Kd.R_base ho37) hb); replace HO276 := Aside0.mk (Kd.R_elder' (by refine kr_ ?_; exact (Kd.R_mono (Kd.R_far (p := ⟨gb287, 1, none⟩) (Kd.R_far (p := ⟨gb287, 0, none⟩) (Kd.R_types HO276.out BK287.out (by decide)) (fun _ hk => hk.2) (.int .i64 t284)) (fun _ hk => hk.2) (.int .i64 t285)) (fun _ h_ => h_.1))) (Kd.R_base ho37) hb); replace HO280 := Aside0.mk (Kd.R_elder' (by refine kr_ ?_; exact (Kd.R_mono (Kd.R_far (p := ⟨gb287, 1, none⟩) (Kd.R_far (p := ⟨gb287, 0, none⟩) (Kd.R_types HO280.out BK287.out (by decide)) (fun _ hk => hk.2) (.int .i64 t284)) (fun _ hk => hk.2) (.int .i64 t285)) (fun _ h_ => h_.1))) (Kd.R_base ho37) hb); replace HO283 := Aside0.mk (Kd.R_elder' (by refine kr_ ?_; exact (Kd.R_mono (Kd.R_far (p := ⟨gb287, 1, none⟩) (Kd.R_far (p := ⟨gb287, 0, none⟩) (Kd.R_types HO283.out BK287.out (by decide)) (fun _ hk => hk.2) (.int .i64 t284)) (fun _ hk => hk.2) (.int .i64 t285)) (fun _ h_ => h_.1))) (Kd.R_base ho37) hb); replace BK273 := Aside0.mk (blk_below (g := gb273) (o := .cells #[.int .i64 t270, .int .i64 t271] 26 (0, 0)) (by refine bk_ ?_; refine blk_far ?_ NB273_287.out _; refine bk_ ?_; refine blk_far ?_ NB273_287.out _; refine bk_ ?_; exact BK273.out) hb); replace BK287 := Aside0.mk (blk_below (g := gb287) (o := .cells #[.int .i64 t284, .int .i64 t285] 26 (0, 0)) (by refine bk_ ?_; refine blk_put (cs := #[.int .i64 t284, .int .i64 0]) ?_ 1 _ rfl; refine bk_ ?_; refine blk_put (cs := #[.int .i64 0, .int .i64 0]) ?_ 0 _ rfl; refine bk_ ?_; exact BK287.out) hb); replace HB := hb_ hb; clear hb ho37; obtain ⟨Ao38, co38, eo38⟩ := Kd.R_slice HO290.out; subst eo38) | (go_at_call 22; (with_reducible refine (trishawlaw01_same.calls k _ _ t263 _ _ y288 true _ ?side1 ?side2 ?side3 ?side4 A6.out).mono ?_); (case side1 => exact cr_ HO266.out); (case side2 => exact (Kd.R_reads' HO266.out).2.1); (case side3 => exact cr_ HO290.out); (case side4 => exact (Kd.R_reads' HO290.out).2.1); rintro e w' ⟨rfl, ⟨nd, rfl⟩⟩; have hcz39_0 := bc_ BK273 0 (.int .i64 t270); have hcz39_1 := bc_ BK273 1 (.int .i64 t271); have hfz39_0 := bz_ BK273 0; have hfz39_1 := bz_ BK273 1) | ((with_reducible refine gate_dst (N := 52) rfl ?_); (try (refine gate_guard (by rfl) ?_; dsimp only)); refine Kd.R_lit (Kd.int .i64) _ 3 ?hg (N := 52) ?hd (xs := ([0, 0, 1, 0] : List Int)) (inner := [.int .i64 0, .int .i64 0, .int .i64 1, .int .i64 0]) (ok := fun _ => True) (okp := fun _ => True) ?hr ?hp (fun _ hk => hk) trivial (Below.refl _ _) (Nat.le_refl _) (by simp) ?_; (case hd => rfl); (case hg => rfl); (case hr => first | (go_simp; done) | (go_simp; rfl)); (case hp => exact (Reps.one (show Kd.M (Kd.int .i64) _ _ _ 0 [.int .i64 0] from rfl) (Reps.one (show Kd.M (Kd.int .i64) _ _ _ 0 [.int .i64 0] from rfl) (Reps.one (show Kd.M (Kd.int .i64) _ _ _ 1 [.int .i64 1] from rfl) (Reps.one (show Kd.M (Kd.int .i64) _ _ _ 0 [.int .i64 0] from rfl) (Reps.none _ _)))))); intro v293 w40 ho41 hb hg_ hnew_; clear hg_ hnew_; (first | rw [← Ny292.out] at ho41 | (simp only [Int.reduceToNat] at ho41; rw [← Ny292.out] at ho41)); have HO294 := Aside0.mk (Kd.R_lower (rn_ (rn_ (rn_ (rn_ (rn_ (rn_ (rn_ ho41 HO262) HO266) HO269) HO276) HO280) HO283) HO290) (below_size (bl_))); replace HO262 := re_ HO262 ho41 hb; replace HO266 := re_ HO266 ho41 hb; replace HO269 := re_ HO269 ho41 hb; replace HO276 := re_ HO276 ho41 hb; replace HO280 := re_ HO280 ho41 hb; replace HO283 := re_ HO283 ho41 hb; replace HO290 := re_ HO290 ho41 hb; replace BK273 := bb_ BK273 hb; replace BK287 := bb_ BK287 hb; replace HB := hb_ hb; clear hb ho41; obtain ⟨Ao42, co42, eo42⟩ := Kd.R_slice HO280.out; subst eo42; obtain ⟨Ao43, co43, eo43⟩ := Kd.R_slice HO294.out; subst eo43) | (go_at_call 22; (with_reducible refine (trishawlaw01_same.calls k _ _ t277 _ _ y292 true _ ?side1 ?side2 ?side3 ?side4 A11.out).mono ?_); (case side1 => exact cr_ HO280.out); (case side2 => exact (Kd.R_reads' HO280.out).2.1); (case side3 => exact cr_ HO294.out); (case side4 => exact (Kd.R_reads' HO294.out).2.1); rintro e w' ⟨rfl, ⟨nd, rfl⟩⟩; have hcz44_0 := bc_ BK287 0 (.int .i64 t284); have hcz44_1 := bc_ BK287 1 (.int .i64 t285); have hfz44_0 := bz_ BK287 0; have hfz44_1 := bz_ BK287 1))
        go_ret
        exact ⟨er_, bl_⟩
       ·rw [if_neg c13] at H
        have c13b0 : (t286 == 0) = false := beq_eq_false_iff_ne.mpr c13
        have c13b1 : (t286 != 0) = true := bne_iff_ne.mpr c13
        obtain rfl := Option.some.inj H
        exact absurd hr.out (by decide)
      ·replace c12 := Bool.eq_false_iff.mpr c12
       subst c12
       have H1 : (some false) = some r := by rw [if_neg (show ¬ (false = true) by decide)] at H; exact H
       clear H
       have H := H1
       clear H1
       obtain rfl := Option.some.inj H
       exact absurd hr.out (by decide)
     ·rw [if_neg c10] at H
      have c10b0 : (t278 == 0) = false := beq_eq_false_iff_ne.mpr c10
      have c10b1 : (t278 != 0) = true := bne_iff_ne.mpr c10
      obtain rfl := Option.some.inj H
      exact absurd hr.out (by decide)
    ·rw [if_neg c9] at H
     have c9b0 : (t270 == 1 && (t271 == 2)) = false := by simpa using c9
     (try (have c9b1 : decide (t270 = 1 && (t271 == 2)) = false := by simpa using c9))
     (try (have c9b2 : (t270 == 1 && (t271 == 2)) = false := by simpa using c9))
     (try (have c9b3 : ¬ (t270 = 1 && (t271 == 2)) := by simpa using c9))
     clear c9
     obtain rfl := Option.some.inj H
     exact absurd hr.out (by decide)
   ·rw [if_neg c8] at H
    have c8b0 : (t272 == 0) = false := beq_eq_false_iff_ne.mpr c8
    have c8b1 : (t272 != 0) = true := bne_iff_ne.mpr c8
    obtain rfl := Option.some.inj H
    exact absurd hr.out (by decide)
  ·replace c7 := Bool.eq_false_iff.mpr c7
   subst c7
   have H1 : (some false) = some r := by rw [if_neg (show ¬ (false = true) by decide)] at H; exact H
   clear H
   have H := H1
   clear H1
   obtain rfl := Option.some.inj H
   exact absurd hr.out (by decide)
 ·rw [if_neg c5] at H
  have c5b0 : (t264 == 0) = false := beq_eq_false_iff_ne.mpr c5
  have c5b1 : (t264 != 0) = true := bne_iff_ne.mpr c5
  obtain rfl := Option.some.inj H
  exact absurd hr.out (by decide)

/-! ### trishawref01_Shares: function 23 -/
def trishawref01_Shares.l0 : Nat → List Int → Int → Int → Option (Int × Int)
  | 0, _, _, _ => none
  | k + 1, x0, x4, x5 => if x5 < (x0.length : Int) then (if 0 ≤ x5 then (if (rd x0 x5) < 1 then (some (0, 2)) else (if (rd x0 x5) > 20 then (some (0, 2)) else (trishawref01_Shares.l0 k x0 (wrap64 (x4 + (rd x0 x5))) (wrap64 (x5 + 1))))) else (none)) else (some (x4, 0))
def trishawref01_Shares.f (k : Nat) (l0 : List Int) : Option (Int × Int) := if (l0.length : Int) > 8 then (some (0, 3)) else (if (l0.length : Int) = 0 then (some (0, 2)) else (trishawref01_Shares.l0 k l0 0 0))
theorem trishawref01_Shares.mono_l : ∀ k, (∀ y0 y1 y2, LeO (trishawref01_Shares.l0 k y0 y1 y2) (trishawref01_Shares.l0 (k + 1) y0 y1 y2))
  | 0 => fun _ _ _ r h => by simp [trishawref01_Shares.l0] at h
  | k + 1 => by
    have ih0 := trishawref01_Shares.mono_l k
    · intro y0 y1 y2
      unfold trishawref01_Shares.l0
      with_reducible repeat' first | exact ih0 _ _ _ | exact LeO.refl _ | exact LeO.none _ | refine LeO.ite ?_ ?_ | refine LeO.bind ?_ (fun _ => ?_)
theorem trishawref01_Shares.mono : ∀ a0 k, LeO (trishawref01_Shares.f k a0) (trishawref01_Shares.f (k + 1) a0) := by
  intro a0 k
  have ih0 := trishawref01_Shares.mono_l k
  unfold trishawref01_Shares.f
  with_reducible repeat' first | exact ih0 _ _ _ | exact LeO.refl _ | exact LeO.none _ | refine LeO.ite ?_ ?_ | refine LeO.bind ?_ (fun _ => ?_)
set_option maxHeartbeats 8000000 in
set_option maxRecDepth 100000 in
theorem trishawref01_Shares.calls (k : Nat) (A0 : Option Addr) (c0 : Nat) (l0 : List Int) (r1 : Int) (r2 : Int) (w : World) (hr0 : Kd.C (Kd.int .i64) w A0 l0.length l0) (hc0 : l0.length ≤ c0) (h : trishawref01_Shares.f k l0 = some (r1, r2)) :
    Calls Tryd.prog 23 #[.slice A0 l0.length c0] w fun e w' => e = .returned (.tuple #[.int .i64 r1, .int .i64 r2]) ∧ Drawn0 w w' := by
 have HR0 := Aside0.mk hr0
 have HC0 := Aside0.mk hc0
 clear hr0 hc0
 have H : (if (l0.length : Int) > 8 then (some (0, 3)) else (if (l0.length : Int) = 0 then (some (0, 2)) else (trishawref01_Shares.l0 k l0 0 0))) = some (r1, r2) := h
 clear h
 by_cases c2 : (l0.length : Int) > 8
 ·rw [if_pos c2] at H
  have c2b0 : decide (8 < (l0.length : Int)) = true := decide_eq_true c2
  have c2b1 : decide (8 < l0.length) = true := decide_eq_true (by omega)
  clear c2
  simp only [Option.some.injEq, Prod.mk.injEq] at H
  obtain ⟨rfl, rfl⟩ := H
  go_enter Tryd.func23, Tryd.ntmps23
  go_wp2
  go_ret2
  exact ⟨by first | rfl | (simp; done) | (simp [*]; done), by repeat (first | exact Drawn0.refl _ | apply Drawn0.step)⟩
 ·rw [if_neg c2] at H
  have c2b0 : decide (8 < (l0.length : Int)) = false := decide_eq_false c2
  have c2b1 : decide (8 < l0.length) = false := decide_eq_false (by omega)
  clear c2
  by_cases c3 : (l0.length : Int) = 0
  ·rw [if_pos c3] at H
   have c3b0 : ((l0.length : Int) == 0) = true := beq_iff_eq.mpr c3
   have c3b1 : ((l0.length : Int) != 0) = false := bne_eq_false_iff_eq.mpr c3
   clear c3
   simp only [Option.some.injEq, Prod.mk.injEq] at H
   obtain ⟨rfl, rfl⟩ := H
   go_enter Tryd.func23, Tryd.ntmps23
   go_wp2
   go_ret2
   exact ⟨by first | rfl | (simp; done) | (simp [*]; done), by repeat (first | exact Drawn0.refl _ | apply Drawn0.step)⟩
  ·rw [if_neg c3] at H
   have c3b0 : ((l0.length : Int) == 0) = false := beq_eq_false_iff_ne.mpr c3
   have c3b1 : ((l0.length : Int) != 0) = true := bne_iff_ne.mpr c3
   have c3b2 : ¬ (l0 = []) := fun h_ => c3 (by rw [h_]; rfl)
   have H' := Aside0.mk H
   clear H
   go_enter Tryd.func23, Tryd.ntmps23
   go_wp2
   go_loopg [4, 5] k (fun kq v4 v5 w' => ∃ (x4_1 : Int) (x5_1 : Int), v4 = .int .i64 x4_1 ∧ v5 = .int .i64 x5_1 ∧ Aside0 (trishawref01_Shares.l0 kq l0 x4_1 x5_1 = some (r1, r2)) ∧ Aside0 (kq ≤ k) ∧ Drawn0 w w')
   case atStart => exact ⟨(0), (0), rs_, rs_, H', ⟨Nat.le_refl _⟩, by repeat (first | exact Drawn0.refl _ | apply Drawn0.step)⟩
   case round =>
    clear H'
    try clear c2
    try clear c2b0
    try clear c2b1
    try clear p2
    try clear c3
    try clear c3b0
    try clear c3b1
    try clear c3b2
    obtain ⟨x4_1, x5_1, rfl, rfl, HA, HK1, ⟨m1, rfl⟩⟩ := hrel
    cases gk with
    | zero => exact absurd HA.out (by simp [trishawref01_Shares.l0])
    | succ k1 =>
     have H := HA.out
     clear HA
     simp only [trishawref01_Shares.l0] at H
     by_cases c4 : x5_1 < (l0.length : Int)
     ·rw [if_pos c4] at H
      have c4b0 : decide (x5_1 < (l0.length : Int)) = true := decide_eq_true c4
      clear c4
      obtain ⟨c5b0, H⟩ := fp_ H
      by_cases c6 : (rd l0 x5_1) < 1
      ·rw [if_pos c6] at H
       have c6b0 : decide ((rd l0 x5_1) < 1) = true := decide_eq_true c6
       clear c6
       simp only [Option.some.injEq, Prod.mk.injEq] at H
       obtain ⟨rfl, rfl⟩ := H
       obtain ⟨ad296, e296, hx296_0, p296, q296⟩ := ai_ HR0.out x5_1
       cases e296
       go_wp2
       go_ret2
       exact ⟨by first | rfl | (simp; done) | (simp [*]; done), by repeat (first | exact Drawn0.refl _ | apply Drawn0.step)⟩
      ·rw [if_neg c6] at H
       have c6b0 : decide ((rd l0 x5_1) < 1) = false := decide_eq_false c6
       clear c6
       by_cases c7 : (rd l0 x5_1) > 20
       ·rw [if_pos c7] at H
        have c7b0 : decide (20 < (rd l0 x5_1)) = true := decide_eq_true c7
        clear c7
        simp only [Option.some.injEq, Prod.mk.injEq] at H
        obtain ⟨rfl, rfl⟩ := H
        obtain ⟨ad296, e296, hx296_0, p296, q296⟩ := ai_ HR0.out x5_1
        cases e296
        obtain ⟨ad297, e297, hx297_0, p297, q297⟩ := ai_ HR0.out x5_1
        obtain rfl : ad296 = ad297 := (by injection e297)
        go_wp2
        go_ret2
        exact ⟨by first | rfl | (simp; done) | (simp [*]; done), by repeat (first | exact Drawn0.refl _ | apply Drawn0.step)⟩
       ·rw [if_neg c7] at H
        have c7b0 : decide (20 < (rd l0 x5_1)) = false := decide_eq_false c7
        clear c7
        have H' := Aside0.mk H
        clear H
        obtain ⟨ad296, e296, hx296_0, p296, q296⟩ := ai_ HR0.out x5_1
        cases e296
        obtain ⟨ad297, e297, hx297_0, p297, q297⟩ := ai_ HR0.out x5_1
        obtain rfl : ad296 = ad297 := (by injection e297)
        obtain ⟨ad298, e298, hx298_0, p298, q298⟩ := ai_ HR0.out x5_1
        obtain rfl : ad296 = ad298 := (by injection e298)
        go_wp2
        go_roundg k1
        case measure => have := HK1.out; omega
        case rel => exact ⟨(wrap64 (x4_1 + (rd l0 x5_1))), (wrap64 (x5_1 + 1)), rs_, rs_, H', ⟨by have := HK1.out; omega⟩, by repeat (first | exact Drawn0.refl _ | apply Drawn0.step)⟩
     ·rw [if_neg c4] at H
      have c4b0 : decide (x5_1 < (l0.length : Int)) = false := decide_eq_false c4
      clear c4
      simp only [Option.some.injEq, Prod.mk.injEq] at H
      obtain ⟨rfl, rfl⟩ := H
      go_wp2
      go_ret2
      exact ⟨by first | rfl | (simp; done) | (simp [*]; done), by repeat (first | exact Drawn0.refl _ | apply Drawn0.step)⟩

/-! ### trishawref01_Gcd: function 60 -/
def trishawref01_Gcd.l0 : Nat → Int → Int → Option (Int)
  | 0, _, _ => none
  | k + 1, x0, x1 => if x1 = 0 then (some (mx x0 (wrap64 (-x0)))) else (trishawref01_Gcd.l0 k x1 (Int.tmod x0 x1))
def trishawref01_Gcd.f (k : Nat) (a0 : Int) (a1 : Int) : Option (Int) := trishawref01_Gcd.l0 k a0 a1
theorem trishawref01_Gcd.mono_l : ∀ k, (∀ y0 y1, LeO (trishawref01_Gcd.l0 k y0 y1) (trishawref01_Gcd.l0 (k + 1) y0 y1))
  | 0 => fun _ _ r h => by simp [trishawref01_Gcd.l0] at h
  | k + 1 => by
    have ih0 := trishawref01_Gcd.mono_l k
    · intro y0 y1
      unfold trishawref01_Gcd.l0
      with_reducible repeat' first | exact ih0 _ _ | exact LeO.refl _ | exact LeO.none _ | refine LeO.ite ?_ ?_ | refine LeO.bind ?_ (fun _ => ?_)
theorem trishawref01_Gcd.mono : ∀ a0 a1 k, LeO (trishawref01_Gcd.f k a0 a1) (trishawref01_Gcd.f (k + 1) a0 a1) := by
  intro a0 a1 k
  have ih0 := trishawref01_Gcd.mono_l k
  unfold trishawref01_Gcd.f
  with_reducible repeat' first | exact ih0 _ _ | exact LeO.refl _ | exact LeO.none _ | refine LeO.ite ?_ ?_ | refine LeO.bind ?_ (fun _ => ?_)
set_option maxHeartbeats 8000000 in
set_option maxRecDepth 100000 in
theorem trishawref01_Gcd.calls (k : Nat) (a0 : Int) (a1 : Int) (r : Int) (w : World) (h : trishawref01_Gcd.f k a0 a1 = some r) :
    Calls Tryd.prog 60 #[.int .i64 a0, .int .i64 a1] w fun e w' => e = .returned (.int .i64 r) ∧ Below w.heap.size w w' := by
 have HB := Aside0.mk (Below.refl w.heap.size w)
 have H : (trishawref01_Gcd.l0 k a0 a1) = some r := h
 clear h
 have H' := Aside0.mk H
 clear H
 go_enter Tryd.func60, Tryd.ntmps60
 go_wp2
 repeat (go_quiet (fail); try go_wp2)
 go_loopg [0, 1] k (fun kq v0 v1 w' => ∃ (x0_1 : Int) (x1_1 : Int), v0 = .int .i64 x0_1 ∧ v1 = .int .i64 x1_1 ∧ Aside0 (trishawref01_Gcd.l0 kq x0_1 x1_1 = some r) ∧ Aside0 (kq ≤ k) ∧ Aside0 (Below w.heap.size w w'))
 case atStart => exact ⟨(a0), (a1), rs_, rs_, H', ⟨Nat.le_refl _⟩, ⟨bl_⟩⟩
 case round =>
  clear H'
  try clear p2
  obtain ⟨x0_1, x1_1, rfl, rfl, HA, HK1, HB⟩ := hrel
  cases gk with
  | zero => exact absurd HA.out (by simp [trishawref01_Gcd.l0])
  | succ k1 =>
   have H := HA.out
   clear HA
   simp only [trishawref01_Gcd.l0] at H
   by_cases c3 : x1_1 = 0
   ·rw [if_pos c3] at H
    have c3b0 : (x1_1 == 0) = true := beq_iff_eq.mpr c3
    have c3b1 : (x1_1 != 0) = false := bne_eq_false_iff_eq.mpr c3
    clear c3
    obtain ⟨ji4, hji4⟩ : ∃ j_ : Int, (mx x0_1 (wrap64 (-x0_1))) = j_ := ⟨_, rfl⟩
    replace H : (some ji4) = some r := by first | (rw [hji4] at H; exact H) | (simp only [hji4] at H ⊢; exact H)
    have hji4_ : (if x0_1 < (wrap64 (-x0_1)) then (wrap64 (-x0_1)) else x0_1) = ji4 := hji4
    obtain rfl := Option.some.inj H
    go_wp2
    repeat (go_quiet (fail); try go_wp2)
    go_ret
    exact ⟨by first | rfl | (simp [errW_none, errW_some] <;> rfl) | (simp only [← hji4]; first | rfl | (simp [errW_none, errW_some] <;> rfl)) | (simp [*, errW_none, errW_some] <;> rfl), bl_⟩
   ·rw [if_neg c3] at H
    have c3b0 : (x1_1 == 0) = false := beq_eq_false_iff_ne.mpr c3
    have c3b1 : (x1_1 != 0) = true := bne_iff_ne.mpr c3
    have H' := Aside0.mk H
    clear H
    go_wp2
    repeat (go_quiet (fail); try go_wp2)
    go_roundg k1
    case measure => have := HK1.out; omega
    case rel => exact ⟨(x1_1), (Int.tmod x0_1 x1_1), rs_, rs_, H', ⟨by have := HK1.out; omega⟩, ⟨bl_⟩⟩

/-! ### trishawref01_Ratio: function 38 -/
def trishawref01_Ratio.f (k : Nat) (a0 : Int) (a1 : Int) : Option (Int × Int) := (trishawref01_Gcd.f k (mx a0 (wrap64 (-a0))) a1).bind fun t300 => (if t300 = 0 then (none) else (some (wrap64 (Int.tdiv a0 t300), wrap64 (Int.tdiv a1 t300))))
theorem trishawref01_Ratio.mono : ∀ a0 a1 k, LeO (trishawref01_Ratio.f k a0 a1) (trishawref01_Ratio.f (k + 1) a0 a1) := by
  intro a0 a1 k
  unfold trishawref01_Ratio.f
  with_reducible repeat' first | exact trishawref01_Gcd.mono _ _ _ | exact LeO.refl _ | exact LeO.none _ | refine LeO.ite ?_ ?_ | refine LeO.bind ?_ (fun _ => ?_)
def trishawref01_Ratio.T2 : Bool × List (List Nat × List Nat) := (true, [([], []), ([], []), ([0, 1], [0, 1]), ([], []), ([], []), ([3, 4], [3, 4]), ([2, 5], [2, 5]), ([6, 0, 1, 2, 3, 4, 5, 6], [6])])
def trishawref01_Ratio.B2 : List Nat := [0, 0, 3, 0, 0, 24, 63, 127]
theorem trishawref01_Ratio.tab2 : rtab .any (opsOf Tryd.f38 2) = trishawref01_Ratio.T2 := by kernel_rfl
theorem trishawref01_Ratio.bits2 : waitsOk trishawref01_Ratio.T2.2 trishawref01_Ratio.B2 = true := by kernel_rfl
set_option maxHeartbeats 8000000 in
set_option maxRecDepth 100000 in
theorem trishawref01_Ratio.calls (k : Nat) (a0 : Int) (a1 : Int) (r1 : Int) (r2 : Int) (w : World) (h : trishawref01_Ratio.f k a0 a1 = some (r1, r2)) :
    Calls Tryd.prog 38 #[.int .i64 a0, .int .i64 a1] w fun e w' => e = .returned (.agg #[.int .i64 r1, .int .i64 r2]) ∧ Below w.heap.size w w' := by
 have hu26 := Tryd.underlying26
 have HB := Aside0.mk (Below.refl w.heap.size w)
 have H : ((trishawref01_Gcd.f k (mx a0 (wrap64 (-a0))) a1).bind fun t300 => (if t300 = 0 then (none) else (some (wrap64 (Int.tdiv a0 t300), wrap64 (Int.tdiv a1 t300))))) = some (r1, r2) := h
 clear h
 obtain ⟨ji3, hji3⟩ : ∃ j_ : Int, (mx a0 (wrap64 (-a0))) = j_ := ⟨_, rfl⟩
 replace H : ((trishawref01_Gcd.f k (ji3) a1).bind fun t300 => (if t300 = 0 then (none) else (some (wrap64 (Int.tdiv a0 t300), wrap64 (Int.tdiv a1 t300))))) = some (r1, r2) := by first | (rw [hji3] at H; exact H) | (simp only [hji3] at H ⊢; exact H)
 have hji3_ : (if a0 < (wrap64 (-a0)) then (wrap64 (-a0)) else a0) = ji3 := hji3
 obtain ⟨t300, A4, H⟩ := bi_ H
 replace H : (if t300 = 0 then (none) else (some (wrap64 (Int.tdiv a0 t300), wrap64 (Int.tdiv a1 t300)))) = some (r1, r2) := H
 by_cases c5 : t300 = 0
 ·rw [if_pos c5] at H
  exact absurd H (by simp)
 ·rw [if_neg c5] at H
  have c5b0 : (t300 == 0) = false := beq_eq_false_iff_ne.mpr c5
  have c5b1 : (t300 != 0) = true := bne_iff_ne.mpr c5
  simp only [Option.some.injEq, Prod.mk.injEq] at H
  obtain ⟨rfl, rfl⟩ := H
  go_enter Tryd.func38, Tryd.ntmps38
  try go_wp2_with (first | ((with_reducible refine gate_dst (N := 4) rfl ?_); refine be_ #[.int .i64 0, .int .i64 0] 26 ?_; intro gb299 hg w6 hbox hb; have BK299 := Aside0.mk (hbox); have GW299 := gw_ hg; have GE299 := gw_ hg; replace HB := hb_ hb; clear hb hbox hg) | ((with_reducible refine gate_callee (f := 60) rfl ?_); refine goesL_ (some 11) rfl rfl Tryd.func60 (by kernel_rfl) rfl #[.int .i64 ji3, .int .i64 a1] rfl (by (try simp only [List.map_toArray, List.map_cons, List.map_nil]); first | done | (simp only [hji3]; rfl) | rfl | (simp only [List.length_drop, List.length_take]; rfl)) ?_; (with_reducible refine (trishawref01_Gcd.calls k ji3 a1 t300 _ A4.out).mono ?_); rintro e w7 ⟨rfl, hb⟩; refine ⟨_, rfl, ?_⟩; replace BK299 := bb_ BK299 hb; replace HB := hb_ hb; clear hb))
  replace BK299 := Aside0.mk (blk_drew BK299.out)
  replace HB := Aside0.mk (below_drew1 HB.out)
  refine start_ (n := 8) (S := fun w' => True) (ds := []) #[false, false, false, false, false, false, false, false] (by kernel_rfl) rfl rfl trivial (fun hHeld => ?_); refine with_tabW trishawref01_Ratio.tab2 trishawref01_Ratio.bits2 (fun HT_ HW_ => ?_)
  generalize w7.drew = w8 at BK299 HB hHeld ⊢
  refine pu_ 0 12 HT_.out (h := ?_)
  refine pu_ 1 13 HT_.out (h := ?_)
  refine pu_ 2 14 HT_.out (h := ?_)
  refine pu_ 3 15 HT_.out (h := ?_)
  refine pu_ 4 16 HT_.out (h := ?_)
  refine pu_ 5 17 HT_.out (h := ?_)
  refine pu_ 6 18 HT_.out (h := ?_)
  refine one_ (i := 7) (N := none) #[true, true, true, true, true, true, true, true] rfl rfl (one_of HT_.out (by kernel_rfl)) (by decide) (fun K hK => ?_)
  have hs9 : w8.cell? ⟨gb299, 0, none⟩ = some (.int .i64 0) := (blk_cell BK299.out 0).trans rfl
  have hfs9 := bz_ BK299 0
  have hs10 : w8.cell? ⟨gb299, 1, none⟩ = some (.int .i64 0) := (blk_cell BK299.out 1).trans rfl
  have hfs10 := bz_ BK299 1
  refine skip_ (w1 := ?_) (by rfl) rfl ?_ ?_
  rotate_left
  ·go_simp
   rfl
  refine hK.out _ _ trivial (fun hHeld => ?_)
  clear hK K
  refine done_ (done_of HT_.out (by kernel_rfl)) ?_
  try go_wp2
  refine bodyPost_ret (results_cell_row rfl _ _ gb299 26 #[.int .i64 (wrap64 (Int.tdiv a0 t300)), .int .i64 (wrap64 (Int.tdiv a1 t300))] (0, 0) _ rfl (by refine bk_ ?_; refine blk_put (cs := #[.int .i64 (wrap64 (Int.tdiv a0 t300)), .int .i64 0]) ?_ 1 _ rfl; refine bk_ ?_; refine blk_put (cs := #[.int .i64 0, .int .i64 0]) ?_ 0 _ rfl; refine bk_ ?_; exact BK299.out) Tryd.underlying26 rfl (by kernel_rfl)) rfl ?_
  exact ⟨by first | rfl | (simp [errW_none, errW_some] <;> rfl) | (simp only [← hji3]; first | rfl | (simp [errW_none, errW_some] <;> rfl)) | (simp [*, errW_none, errW_some] <;> rfl), bl_⟩

/-! ### trishawref01_window: function 72 -/
mutual
def trishawref01_window.l0 : Nat → Int → Int → Int → Int → Int → Int → Int → Option (Int × Int)
  | 0, _, _, _, _, _, _, _ => none
  | k + 1, x0, x1, x2, x3, x10, x303000, x303001 => if x10 < x2 then (if (wrap64 (x1 * x2)) ≤ (wrap64 ((wrap64 ((wrap64 (x10 + 1)) * x0)) + x3)) then (trishawref01_window.j1 k x0 x1 x2 x3 x10 (decide ((wrap64 ((wrap64 (x1 - 1)) * x2)) ≥ (wrap64 ((wrap64 (x10 * x0)) - x3)))) x303000 x303001) else (trishawref01_window.j1 k x0 x1 x2 x3 x10 false x303000 x303001)) else (some (x303000, x303001))
def trishawref01_window.j1 : Nat → Int → Int → Int → Int → Int → Bool → Int → Int → Option (Int × Int)
  | 0, _, _, _, _, _, _, _, _ => none
  | k + 1, x0, x1, x2, x3, x10, x38, x303000, x303001 => if x38 = true then (if x303001 < 0 then (trishawref01_window.l0 k x0 x1 x2 x3 (wrap64 (x10 + 1)) x10 x10) else (trishawref01_window.l0 k x0 x1 x2 x3 (wrap64 (x10 + 1)) x303000 x10)) else (trishawref01_window.l0 k x0 x1 x2 x3 (wrap64 (x10 + 1)) x303000 x303001)
end
def trishawref01_window.f (k : Nat) (a0 : Int) (a1 : Int) (a2 : Int) (a3 : Int) : Option (Int × Int) := trishawref01_window.l0 k a0 a1 a2 a3 0 0 (-1)
theorem trishawref01_window.mono_l : ∀ k, (∀ y0 y1 y2 y3 y4 y5 y6, LeO (trishawref01_window.l0 k y0 y1 y2 y3 y4 y5 y6) (trishawref01_window.l0 (k + 1) y0 y1 y2 y3 y4 y5 y6)) ∧ (∀ y0 y1 y2 y3 y4 y5 y6 y7, LeO (trishawref01_window.j1 k y0 y1 y2 y3 y4 y5 y6 y7) (trishawref01_window.j1 (k + 1) y0 y1 y2 y3 y4 y5 y6 y7))
  | 0 => ⟨fun _ _ _ _ _ _ _ r h => by simp [trishawref01_window.l0] at h, fun _ _ _ _ _ _ _ _ r h => by simp [trishawref01_window.j1] at h⟩
  | k + 1 => by
    obtain ⟨ih0, ih1⟩ := trishawref01_window.mono_l k
    refine ⟨?_, ?_⟩
    · intro y0 y1 y2 y3 y4 y5 y6
      unfold trishawref01_window.l0
      with_reducible repeat' first | exact ih0 _ _ _ _ _ _ _ | exact ih1 _ _ _ _ _ _ _ _ | exact LeO.refl _ | exact LeO.none _ | refine LeO.ite ?_ ?_ | refine LeO.bind ?_ (fun _ => ?_)
    · intro y0 y1 y2 y3 y4 y5 y6 y7
      unfold trishawref01_window.j1
      with_reducible repeat' first | exact ih0 _ _ _ _ _ _ _ | exact ih1 _ _ _ _ _ _ _ _ | exact LeO.refl _ | exact LeO.none _ | refine LeO.ite ?_ ?_ | refine LeO.bind ?_ (fun _ => ?_)
theorem trishawref01_window.mono : ∀ a0 a1 a2 a3 k, LeO (trishawref01_window.f k a0 a1 a2 a3) (trishawref01_window.f (k + 1) a0 a1 a2 a3) := by
  intro a0 a1 a2 a3 k
  obtain ⟨ih0, ih1⟩ := trishawref01_window.mono_l k
  unfold trishawref01_window.f
  with_reducible repeat' first | exact ih0 _ _ _ _ _ _ _ | exact ih1 _ _ _ _ _ _ _ _ | exact LeO.refl _ | exact LeO.none _ | refine LeO.ite ?_ ?_ | refine LeO.bind ?_ (fun _ => ?_)
set_option maxHeartbeats 8000000 in
set_option maxRecDepth 100000 in
theorem trishawref01_window.calls (k : Nat) (a0 : Int) (a1 : Int) (a2 : Int) (a3 : Int) (r1 : Int) (r2 : Int) (w : World) (h : trishawref01_window.f k a0 a1 a2 a3 = some (r1, r2)) :
    Calls Tryd.prog 72 #[.int .i64 a0, .int .i64 a1, .int .i64 a2, .int .i64 a3] w fun e w' => e = .returned (.agg #[.int .i64 r1, .int .i64 r2]) ∧ Below w.heap.size w w' := by
 have hu51 := Tryd.underlying51
 have HB := Aside0.mk (Below.refl w.heap.size w)
 have H : (trishawref01_window.l0 k a0 a1 a2 a3 0 0 (-1)) = some (r1, r2) := h
 clear h
 have H' := Aside0.mk H
 clear H
 go_enter Tryd.func72, Tryd.ntmps72
 go_wp2_with (first | ((with_reducible refine gate_dst (N := 8) rfl ?_); refine be_ #[.int .i64 0, .int .i64 0] 51 ?_; intro gb301 hg w5 hbox hb; have BK301 := Aside0.mk (hbox); have GW301 := gw_ hg; have GE301 := gw_ hg; replace HB := hb_ hb; clear hb hbox hg) | ((with_reducible refine gate_dst (N := 9) rfl ?_); refine be_ #[.int .i64 0, .int .i64 0] 51 ?_; intro gb302 hg w6 hbox hb; have BK302 := Aside0.mk (hbox); have GW302 := gw_ hg; have GE302 := gw_ hg; replace HB := hb_ hb; have NB301_302 := nl_ hg BK301; have NB302_301 := sy_ NB301_302; replace BK301 := bb_ BK301 hb; clear hb hbox hg; have hnb7 := NB302_301.out; have hnc7 := NB301_302.out; have hcz8_0 := bc_ BK302 0 (.int .i64 0); have hcz8_1 := bc_ BK302 1 (.int .i64 0); have hfz8_0 := bz_ BK302 0; have hfz8_1 := bz_ BK302 1))
 go_loopg [10] k (fun kq v10 w' => ∃ (x10_1 : Int) (x303000_1 : Int) (x303001_1 : Int), v10 = .int .i64 x10_1 ∧ Aside0 (trishawref01_window.l0 kq a0 a1 a2 a3 x10_1 x303000_1 x303001_1 = some (r1, r2)) ∧ Aside0 (kq ≤ k) ∧ Aside0 (w'.heap[gb301]? = some (.cells #[.int .i64 0, .int .i64 0] 51 (0, 0))) ∧ Aside0 (w'.heap[gb302]? = some (.cells #[.int .i64 x303000_1, .int .i64 x303001_1] 51 (0, 0))) ∧ Aside0 (Below w.heap.size w w'))
 case atStart => exact ⟨(0), (0), ((-1)), rs_, H', ⟨Nat.le_refl _⟩, ⟨by refine bk_ ?_; refine blk_far ?_ NB301_302.out _; refine bk_ ?_; refine blk_far ?_ NB301_302.out _; refine bk_ ?_; exact BK301.out⟩, ⟨by refine bk_ ?_; refine blk_put (cs := #[.int .i64 0, .int .i64 0]) ?_ 1 _ rfl; refine bk_ ?_; refine blk_put (cs := #[.int .i64 0, .int .i64 0]) ?_ 0 _ rfl; refine bk_ ?_; exact BK302.out⟩, ⟨bl_⟩⟩
 case round =>
  clear H'
  try clear p2
  try clear c7
  try clear hcz8_0
  try clear hcz8_1
  try clear hfz8_0
  try clear hfz8_1
  obtain ⟨x10_1, x303000_1, x303001_1, rfl, HA, HK1, BK301, BK302, HB⟩ := hrel
  cases gk with
  | zero => exact absurd HA.out (by simp [trishawref01_window.l0])
  | succ k1 =>
   have H := HA.out
   clear HA
   simp only [trishawref01_window.l0] at H
   by_cases c9 : x10_1 < a2
   ·rw [if_pos c9] at H
    have c9b0 : decide (x10_1 < a2) = true := decide_eq_true c9
    clear c9
    have HC10 := Aside0.mk H
    clear H
    go_upto_region 5 with (fail)
    go_cut [38] (fun v38 wc => ∃ (kq : Nat) (x38_9 : Bool), v38 = .bool x38_9 ∧ Aside0 (trishawref01_window.j1 kq a0 a1 a2 a3 x10_1 x38_9 x303000_1 x303001_1 = some (r1, r2)) ∧ Aside0 (kq ≤ k1) ∧ Aside0 (wc.heap[gb301]? = some (.cells #[.int .i64 0, .int .i64 0] 51 (0, 0))) ∧ Aside0 (wc.heap[gb302]? = some (.cells #[.int .i64 x303000_1, .int .i64 x303001_1] 51 (0, 0))) ∧ Aside0 (Below w.heap.size w wc))
    case first =>
     have H := HC10.out
     clear HC10
     by_cases c11 : (wrap64 (a1 * a2)) ≤ (wrap64 ((wrap64 ((wrap64 (x10_1 + 1)) * a0)) + a3))
     ·rw [if_pos c11] at H
      have c11b0 : decide ((wrap64 (a1 * a2)) ≤ (wrap64 ((wrap64 ((wrap64 (x10_1 + 1)) * a0)) + a3))) = true := decide_eq_true c11
      clear c11
      (first | rw [c11b0] | (simp only [i64_w, i32_w]; rw [c11b0]) | skip)
      have H' := Aside0.mk H
      clear H
      go_wp2
      go_meet
      case rel => exact ⟨_, (decide ((wrap64 ((wrap64 (a1 - 1)) * a2)) ≥ (wrap64 ((wrap64 (x10_1 * a0)) - a3)))), rs_, H', ⟨by have := HK1.out; first | omega | exact Nat.le_refl _⟩, ⟨bk_ BK301.out⟩, ⟨bk_ BK302.out⟩, ⟨bl_⟩⟩
     ·rw [if_neg c11] at H
      have c11b0 : decide ((wrap64 (a1 * a2)) ≤ (wrap64 ((wrap64 ((wrap64 (x10_1 + 1)) * a0)) + a3))) = false := decide_eq_false c11
      clear c11
      (first | rw [c11b0] | (simp only [i64_w, i32_w]; rw [c11b0]) | skip)
      have H' := Aside0.mk H
      clear H
      go_wp2
      go_meet
      case rel => exact ⟨_, (false), rs_, H', ⟨by have := HK1.out; first | omega | exact Nat.le_refl _⟩, ⟨bk_ BK301.out⟩, ⟨bk_ BK302.out⟩, ⟨bl_⟩⟩
    case rest =>
     clear HC10
     try clear c1
     try clear p2
     try clear p6
     try clear c7
     try clear c9
     try clear c9b0
     try clear c11
     try clear c11b0
     try clear hcz8_0
     try clear hcz8_1
     try clear hfz8_0
     try clear hfz8_1
     try clear p2
     obtain ⟨kq, x38_9, rfl, HA, HJ9, BK301, BK302, HB⟩ := hcut
     cases kq with
     | zero => exact absurd HA.out (by simp [trishawref01_window.j1])
     | succ kj9 =>
      have H := HA.out
      clear HA
      simp only [trishawref01_window.j1] at H
      by_cases c12 : x38_9 = true
      ·subst c12
       have H1 : (if x303001_1 < 0 then (trishawref01_window.l0 kj9 a0 a1 a2 a3 (wrap64 (x10_1 + 1)) x10_1 x10_1) else (trishawref01_window.l0 kj9 a0 a1 a2 a3 (wrap64 (x10_1 + 1)) x303000_1 x10_1)) = some (r1, r2) := by rw [if_pos rfl] at H; exact H
       clear H
       have H := H1
       clear H1
       by_cases c13 : x303001_1 < 0
       ·rw [if_pos c13] at H
        have c13b0 : decide (x303001_1 < 0) = true := decide_eq_true c13
        clear c13
        have H' := Aside0.mk H
        clear H
        have hnb14 := NB302_301.out
        have hnc14 := NB301_302.out
        have hcz15_0 := bc_ BK302 0 (.int .i64 x303000_1)
        have hcz15_1 := bc_ BK302 1 (.int .i64 x303001_1)
        have hfz15_0 := bz_ BK302 0
        have hfz15_1 := bz_ BK302 1
        go_wp2
        go_roundg kj9
        case measure => have := HK1.out; have := HJ9.out; omega
        case rel => exact ⟨(wrap64 (x10_1 + 1)), (x10_1), (x10_1), rs_, H', ⟨by have := HK1.out; have := HJ9.out; omega⟩, ⟨by refine bk_ ?_; refine blk_far ?_ NB301_302.out _; refine bk_ ?_; refine blk_far ?_ NB301_302.out _; refine bk_ ?_; exact BK301.out⟩, ⟨by refine bk_ ?_; refine blk_put (cs := #[.int .i64 x10_1, .int .i64 x303001_1]) ?_ 1 _ rfl; refine bk_ ?_; refine blk_put (cs := #[.int .i64 x303000_1, .int .i64 x303001_1]) ?_ 0 _ rfl; refine bk_ ?_; exact BK302.out⟩, ⟨bl_⟩⟩
       ·rw [if_neg c13] at H
        have c13b0 : decide (x303001_1 < 0) = false := decide_eq_false c13
        clear c13
        have H' := Aside0.mk H
        clear H
        have hnb16 := NB302_301.out
        have hnc16 := NB301_302.out
        have hcz17_0 := bc_ BK302 0 (.int .i64 x303000_1)
        have hcz17_1 := bc_ BK302 1 (.int .i64 x303001_1)
        have hfz17_0 := bz_ BK302 0
        have hfz17_1 := bz_ BK302 1
        go_wp2
        go_roundg kj9
        case measure => have := HK1.out; have := HJ9.out; omega
        case rel => exact ⟨(wrap64 (x10_1 + 1)), (x303000_1), (x10_1), rs_, H', ⟨by have := HK1.out; have := HJ9.out; omega⟩, ⟨by refine bk_ ?_; refine blk_far ?_ NB301_302.out _; refine bk_ ?_; exact BK301.out⟩, ⟨by refine bk_ ?_; refine blk_put (cs := #[.int .i64 x303000_1, .int .i64 x303001_1]) ?_ 1 _ rfl; refine bk_ ?_; exact BK302.out⟩, ⟨bl_⟩⟩
      ·replace c12 := Bool.eq_false_iff.mpr c12
       subst c12
       have H1 : (trishawref01_window.l0 kj9 a0 a1 a2 a3 (wrap64 (x10_1 + 1)) x303000_1 x303001_1) = some (r1, r2) := by rw [if_neg (show ¬ (false = true) by decide)] at H; exact H
       clear H
       have H := H1
       clear H1
       have H' := Aside0.mk H
       clear H
       go_wp2
       go_roundg kj9
       case measure => have := HK1.out; have := HJ9.out; omega
       case rel => exact ⟨(wrap64 (x10_1 + 1)), (x303000_1), (x303001_1), rs_, H', ⟨by have := HK1.out; have := HJ9.out; omega⟩, ⟨bk_ BK301.out⟩, ⟨bk_ BK302.out⟩, ⟨bl_⟩⟩
   ·rw [if_neg c9] at H
    have c9b0 : decide (x10_1 < a2) = false := decide_eq_false c9
    clear c9
    simp only [Option.some.injEq, Prod.mk.injEq] at H
    obtain ⟨rfl, rfl⟩ := H
    have hnb18 := NB302_301.out
    have hnc18 := NB301_302.out
    have hcz19_0 := bc_ BK302 0 (.int .i64 x303000_1)
    have hcz19_1 := bc_ BK302 1 (.int .i64 x303001_1)
    have hfz19_0 := bz_ BK302 0
    have hfz19_1 := bz_ BK302 1
    have hcz20_0 := bc_ BK301 0 (.int .i64 0)
    have hcz20_1 := bc_ BK301 1 (.int .i64 0)
    have hfz20_0 := bz_ BK301 0
    have hfz20_1 := bz_ BK301 1
    go_wp2
    refine bodyPost_ret (results_cell_row rfl _ _ gb301 51 #[.int .i64 x303000_1, .int .i64 x303001_1] (0, 0) _ rfl (by refine bk_ ?_; refine blk_put (cs := #[.int .i64 x303000_1, .int .i64 0]) ?_ 1 _ rfl; refine bk_ ?_; refine blk_put (cs := #[.int .i64 0, .int .i64 0]) ?_ 0 _ rfl; refine bk_ ?_; exact BK301.out) Tryd.underlying51 rfl (by kernel_rfl)) rfl ?_
    exact ⟨er_, bl_⟩

end Go.Proofs.YtgobffgogmnmpaaDoor.P
