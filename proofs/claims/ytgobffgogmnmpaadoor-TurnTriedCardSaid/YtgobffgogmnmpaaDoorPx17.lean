-- Written by wip/tools/myprint.py of this session's repo, over the kit's printer and hand texts.
import Derived.Test.YtgobffgogmnmpaaDoorPx0
import Derived.Test.YtgobffgogmnmpaaDoorPre
import Derived.Test.YtgobffgogmnmpaaDoorPx1
import Derived.Test.YtgobffgogmnmpaaDoorPx3
import Derived.Test.YtgobffgogmnmpaaDoorPx4
import Derived.Test.YtgobffgogmnmpaaDoorPx6
import Derived.Test.YtgobffgogmnmpaaDoorPx7
import Derived.Test.YtgobffgogmnmpaaDoorPx8
import Derived.Test.YtgobffgogmnmpaaDoorPx9
import Derived.Test.YtgobffgogmnmpaaDoorPx10
import Derived.Test.YtgobffgogmnmpaaDoorPx16
namespace Go.Proofs.YtgobffgogmnmpaaDoor.P
open Go.RowKit Go.Proofs.YtgobffgogmnmpaaDoorW.PrintWords Go.Proofs.YtgobffgogmnmpaaDoorW.PrintLast Go.Proofs.YtgobffgogmnmpaaDoorW.PrintMore
attribute [local go_sem] max2_int min2_int max_two min_two max_three min_three max_four min_four   -- for this text's walks alone
set_option linter.unusedVariables false
set_option linter.unusedSimpArgs false

attribute [local go_sem high] eqA26
/-! ### trishawlaw01_TurnTried: function 4 -/
mutual
def trishawlaw01_TurnTried.j0 : Nat → List Int → List Int → Int → Bool → Option (Bool)
  | 0, _, _, _, _ => none
  | k + 1, x0, x1, x5, x41 => if x41 = true then ((trishawlaw01_alive.f k).bind fun t397 => (some t397)) else (if 0 ≤ (x0.length : Int) then (if ((x0.length : Int) : Int).toNat ≤ 35184372088832 then (trishawlaw01_TurnTried.l0 k x0 x1 x5 (List.replicate ((x0.length : Int) : Int).toNat 0) 0) else (none)) else (none))
def trishawlaw01_TurnTried.l0 : Nat → List Int → List Int → Int → List Int → Int → Option (Bool)
  | 0, _, _, _, _, _ => none
  | k + 1, x0, x1, x5, x7, x8 => if x8 < x5 then (if 0 ≤ x8 then (if x8 < (x1.length : Int) then (if 0 ≤ (rd x1 x8) then (if (rd x1 x8) < (x7.length : Int) then (trishawlaw01_TurnTried.l0 k x0 x1 x5 (x7.set ((rd x1 x8) : Int).toNat (wrap64 ((rd x7 (rd x1 x8)) + 1))) (wrap64 (x8 + 1))) else (none)) else (none)) else (none)) else (none)) else ((trishawlaw01_same.f k x7 x0).bind fun t404 => (if t404 = true then ((turn_Deviation.f k x0 x1).bind fun bt406 => ((turn_Least.f k x0).bind fun bt410 => ((turn_Round.f k x0).bind fun bt414 => (if bt406.2.2 = 0 then (if bt410.2.2 = 0 then (if bt414.2 = 0 then ((trishawlaw01_small.f bt406.1 bt406.2.1).bind fun t418 => (if t418 = true then ((trishawlaw01_small.f bt410.1 bt410.2.1).bind fun t419 => (if t419 = true then ((trishawlaw01_atMost.f bt410.1 bt410.2.1 bt406.1 bt406.2.1).bind fun t420 => (if t420 = true then (trishawlaw01_TurnTried.j2 k x1 x5 bt414.1 ((bt414.1.length : Int) != x5) bt406.1 bt406.2.1 bt410.1 bt410.2.1) else (trishawlaw01_TurnTried.j2 k x1 x5 bt414.1 true bt406.1 bt406.2.1 bt410.1 bt410.2.1))) else (trishawlaw01_TurnTried.j2 k x1 x5 bt414.1 true bt406.1 bt406.2.1 bt410.1 bt410.2.1))) else (trishawlaw01_TurnTried.j2 k x1 x5 bt414.1 true bt406.1 bt406.2.1 bt410.1 bt410.2.1))) else (trishawlaw01_TurnTried.j2 k x1 x5 bt414.1 true bt406.1 bt406.2.1 bt410.1 bt410.2.1)) else (trishawlaw01_TurnTried.j2 k x1 x5 bt414.1 true bt406.1 bt406.2.1 bt410.1 bt410.2.1)) else (trishawlaw01_TurnTried.j2 k x1 x5 bt414.1 true bt406.1 bt406.2.1 bt410.1 bt410.2.1))))) else ((trishawlaw01_alive.f k).bind fun t405 => (some t405))))
def trishawlaw01_TurnTried.j2 : Nat → List Int → Int → List Int → Bool → Int → Int → Int → Int → Option (Bool)
  | 0, _, _, _, _, _, _, _, _ => none
  | k + 1, x1, x5, x13, x112, x410000, x410001, x414000, x414001 => if x112 = true then (some false) else (trishawlaw01_TurnTried.l1 k x1 x5 x13 0 x410000 x410001 x414000 x414001)
def trishawlaw01_TurnTried.l1 : Nat → List Int → Int → List Int → Int → Int → Int → Int → Int → Option (Bool)
  | 0, _, _, _, _, _, _, _, _ => none
  | k + 1, x1, x5, x13, x15, x410000, x410001, x414000, x414001 => if x15 < x5 then (trishawlaw01_TurnTried.j4 k x1 x5 x13 x15 (x410000 == x414000 && (x410001 == x414001)) x410000 x410001 x414000 x414001) else (trishawlaw01_TurnTried.j4 k x1 x5 x13 x15 false x410000 x410001 x414000 x414001)
def trishawlaw01_TurnTried.j4 : Nat → List Int → Int → List Int → Int → Bool → Int → Int → Int → Int → Option (Bool)
  | 0, _, _, _, _, _, _, _, _, _ => none
  | k + 1, x1, x5, x13, x15, x120, x410000, x410001, x414000, x414001 => if x120 = true then (if 0 ≤ x15 then (if x15 < (x13.length : Int) then (if x15 < (x1.length : Int) then (if (rd x13 x15) = (rd x1 x15) then (trishawlaw01_TurnTried.l1 k x1 x5 x13 (wrap64 (x15 + 1)) x410000 x410001 x414000 x414001) else (if (rd x13 x15) < (rd x1 x15) then ((trishawlaw01_alive.f k).bind fun t425 => (some t425)) else (some false))) else (none)) else (none)) else (none)) else ((trishawlaw01_alive.f k).bind fun t426 => (some t426))
end
def trishawlaw01_TurnTried.f (k : Nat) (l0 : List Int) (l1 : List Int) : Option (Bool) := (trishawref01_Shares.f k l0).bind fun bt393 => ((trishawlaw01_few.f l0 l1).bind fun t395 => (if t395 = true then (if bt393.2 = 0 then (if (l1.length : Int) = bt393.1 then ((trishawref01_Days.f k l1 (l0.length : Int)).bind fun t396 => (trishawlaw01_TurnTried.j0 k l0 l1 bt393.1 (t396 != 0))) else (trishawlaw01_TurnTried.j0 k l0 l1 bt393.1 true)) else (trishawlaw01_TurnTried.j0 k l0 l1 bt393.1 true)) else (trishawlaw01_TurnTried.j0 k l0 l1 bt393.1 true)))
theorem trishawlaw01_TurnTried.mono_l : ∀ k, (∀ y0 y1 y2 y3, LeO (trishawlaw01_TurnTried.j0 k y0 y1 y2 y3) (trishawlaw01_TurnTried.j0 (k + 1) y0 y1 y2 y3)) ∧ (∀ y0 y1 y2 y3 y4, LeO (trishawlaw01_TurnTried.l0 k y0 y1 y2 y3 y4) (trishawlaw01_TurnTried.l0 (k + 1) y0 y1 y2 y3 y4)) ∧ (∀ y0 y1 y2 y3 y4 y5 y6 y7, LeO (trishawlaw01_TurnTried.j2 k y0 y1 y2 y3 y4 y5 y6 y7) (trishawlaw01_TurnTried.j2 (k + 1) y0 y1 y2 y3 y4 y5 y6 y7)) ∧ (∀ y0 y1 y2 y3 y4 y5 y6 y7, LeO (trishawlaw01_TurnTried.l1 k y0 y1 y2 y3 y4 y5 y6 y7) (trishawlaw01_TurnTried.l1 (k + 1) y0 y1 y2 y3 y4 y5 y6 y7)) ∧ (∀ y0 y1 y2 y3 y4 y5 y6 y7 y8, LeO (trishawlaw01_TurnTried.j4 k y0 y1 y2 y3 y4 y5 y6 y7 y8) (trishawlaw01_TurnTried.j4 (k + 1) y0 y1 y2 y3 y4 y5 y6 y7 y8))
  | 0 => ⟨fun _ _ _ _ r h => by simp [trishawlaw01_TurnTried.j0] at h, fun _ _ _ _ _ r h => by simp [trishawlaw01_TurnTried.l0] at h, fun _ _ _ _ _ _ _ _ r h => by simp [trishawlaw01_TurnTried.j2] at h, fun _ _ _ _ _ _ _ _ r h => by simp [trishawlaw01_TurnTried.l1] at h, fun _ _ _ _ _ _ _ _ _ r h => by simp [trishawlaw01_TurnTried.j4] at h⟩
  | k + 1 => by
    obtain ⟨ih0, ih1, ih2, ih3, ih4⟩ := trishawlaw01_TurnTried.mono_l k
    refine ⟨?_, ?_, ?_, ?_, ?_⟩
    · intro y0 y1 y2 y3
      unfold trishawlaw01_TurnTried.j0
      repeat' first
      | (with_reducible exact ih0 _ _ _ _)
      | (with_reducible exact ih1 _ _ _ _ _)
      | (with_reducible exact ih2 _ _ _ _ _ _ _ _)
      | (with_reducible exact ih3 _ _ _ _ _ _ _ _)
      | (with_reducible exact ih4 _ _ _ _ _ _ _ _ _)
      | (with_reducible exact trishawlaw01_alive.mono _)
      | (with_reducible exact trishawlaw01_same.mono _ _ _)
      | (with_reducible exact trishawref01_Days.mono _ _ _)
      | (with_reducible exact trishawref01_Shares.mono _ _)
      | (with_reducible exact turn_Deviation.mono _ _ _)
      | (with_reducible exact turn_Least.mono _ _)
      | (with_reducible exact turn_Round.mono _ _)
      | (with_reducible exact LeO.refl _)
      | (with_reducible exact LeO.none _)
      | (with_reducible refine LeO.ite ?_ ?_)
      | (with_reducible refine LeO.bind ?_ (fun _ => ?_))
      | exact ih0 _ _ _ _
      | exact ih1 _ _ _ _ _
      | exact ih2 _ _ _ _ _ _ _ _
      | exact ih3 _ _ _ _ _ _ _ _
      | exact ih4 _ _ _ _ _ _ _ _ _
      | exact trishawlaw01_alive.mono _
      | exact trishawlaw01_same.mono _ _ _
      | exact trishawref01_Days.mono _ _ _
      | exact trishawref01_Shares.mono _ _
      | exact turn_Deviation.mono _ _ _
      | exact turn_Least.mono _ _
      | exact turn_Round.mono _ _
      | exact LeO.none _
      | refine LeO.ite ?_ ?_
      | refine LeO.bind ?_ (fun _ => ?_)
    · intro y0 y1 y2 y3 y4
      unfold trishawlaw01_TurnTried.l0
      repeat' first
      | (with_reducible exact ih0 _ _ _ _)
      | (with_reducible exact ih1 _ _ _ _ _)
      | (with_reducible exact ih2 _ _ _ _ _ _ _ _)
      | (with_reducible exact ih3 _ _ _ _ _ _ _ _)
      | (with_reducible exact ih4 _ _ _ _ _ _ _ _ _)
      | (with_reducible exact trishawlaw01_alive.mono _)
      | (with_reducible exact trishawlaw01_same.mono _ _ _)
      | (with_reducible exact trishawref01_Days.mono _ _ _)
      | (with_reducible exact trishawref01_Shares.mono _ _)
      | (with_reducible exact turn_Deviation.mono _ _ _)
      | (with_reducible exact turn_Least.mono _ _)
      | (with_reducible exact turn_Round.mono _ _)
      | (with_reducible exact LeO.refl _)
      | (with_reducible exact LeO.none _)
      | (with_reducible refine LeO.ite ?_ ?_)
      | (with_reducible refine LeO.bind ?_ (fun _ => ?_))
      | exact ih0 _ _ _ _
      | exact ih1 _ _ _ _ _
      | exact ih2 _ _ _ _ _ _ _ _
      | exact ih3 _ _ _ _ _ _ _ _
      | exact ih4 _ _ _ _ _ _ _ _ _
      | exact trishawlaw01_alive.mono _
      | exact trishawlaw01_same.mono _ _ _
      | exact trishawref01_Days.mono _ _ _
      | exact trishawref01_Shares.mono _ _
      | exact turn_Deviation.mono _ _ _
      | exact turn_Least.mono _ _
      | exact turn_Round.mono _ _
      | exact LeO.none _
      | refine LeO.ite ?_ ?_
      | refine LeO.bind ?_ (fun _ => ?_)
    · intro y0 y1 y2 y3 y4 y5 y6 y7
      unfold trishawlaw01_TurnTried.j2
      repeat' first
      | (with_reducible exact ih0 _ _ _ _)
      | (with_reducible exact ih1 _ _ _ _ _)
      | (with_reducible exact ih2 _ _ _ _ _ _ _ _)
      | (with_reducible exact ih3 _ _ _ _ _ _ _ _)
      | (with_reducible exact ih4 _ _ _ _ _ _ _ _ _)
      | (with_reducible exact trishawlaw01_alive.mono _)
      | (with_reducible exact trishawlaw01_same.mono _ _ _)
      | (with_reducible exact trishawref01_Days.mono _ _ _)
      | (with_reducible exact trishawref01_Shares.mono _ _)
      | (with_reducible exact turn_Deviation.mono _ _ _)
      | (with_reducible exact turn_Least.mono _ _)
      | (with_reducible exact turn_Round.mono _ _)
      | (with_reducible exact LeO.refl _)
      | (with_reducible exact LeO.none _)
      | (with_reducible refine LeO.ite ?_ ?_)
      | (with_reducible refine LeO.bind ?_ (fun _ => ?_))
      | exact ih0 _ _ _ _
      | exact ih1 _ _ _ _ _
      | exact ih2 _ _ _ _ _ _ _ _
      | exact ih3 _ _ _ _ _ _ _ _
      | exact ih4 _ _ _ _ _ _ _ _ _
      | exact trishawlaw01_alive.mono _
      | exact trishawlaw01_same.mono _ _ _
      | exact trishawref01_Days.mono _ _ _
      | exact trishawref01_Shares.mono _ _
      | exact turn_Deviation.mono _ _ _
      | exact turn_Least.mono _ _
      | exact turn_Round.mono _ _
      | exact LeO.none _
      | refine LeO.ite ?_ ?_
      | refine LeO.bind ?_ (fun _ => ?_)
    · intro y0 y1 y2 y3 y4 y5 y6 y7
      unfold trishawlaw01_TurnTried.l1
      repeat' first
      | (with_reducible exact ih0 _ _ _ _)
      | (with_reducible exact ih1 _ _ _ _ _)
      | (with_reducible exact ih2 _ _ _ _ _ _ _ _)
      | (with_reducible exact ih3 _ _ _ _ _ _ _ _)
      | (with_reducible exact ih4 _ _ _ _ _ _ _ _ _)
      | (with_reducible exact trishawlaw01_alive.mono _)
      | (with_reducible exact trishawlaw01_same.mono _ _ _)
      | (with_reducible exact trishawref01_Days.mono _ _ _)
      | (with_reducible exact trishawref01_Shares.mono _ _)
      | (with_reducible exact turn_Deviation.mono _ _ _)
      | (with_reducible exact turn_Least.mono _ _)
      | (with_reducible exact turn_Round.mono _ _)
      | (with_reducible exact LeO.refl _)
      | (with_reducible exact LeO.none _)
      | (with_reducible refine LeO.ite ?_ ?_)
      | (with_reducible refine LeO.bind ?_ (fun _ => ?_))
      | exact ih0 _ _ _ _
      | exact ih1 _ _ _ _ _
      | exact ih2 _ _ _ _ _ _ _ _
      | exact ih3 _ _ _ _ _ _ _ _
      | exact ih4 _ _ _ _ _ _ _ _ _
      | exact trishawlaw01_alive.mono _
      | exact trishawlaw01_same.mono _ _ _
      | exact trishawref01_Days.mono _ _ _
      | exact trishawref01_Shares.mono _ _
      | exact turn_Deviation.mono _ _ _
      | exact turn_Least.mono _ _
      | exact turn_Round.mono _ _
      | exact LeO.none _
      | refine LeO.ite ?_ ?_
      | refine LeO.bind ?_ (fun _ => ?_)
    · intro y0 y1 y2 y3 y4 y5 y6 y7 y8
      unfold trishawlaw01_TurnTried.j4
      repeat' first
      | (with_reducible exact ih0 _ _ _ _)
      | (with_reducible exact ih1 _ _ _ _ _)
      | (with_reducible exact ih2 _ _ _ _ _ _ _ _)
      | (with_reducible exact ih3 _ _ _ _ _ _ _ _)
      | (with_reducible exact ih4 _ _ _ _ _ _ _ _ _)
      | (with_reducible exact trishawlaw01_alive.mono _)
      | (with_reducible exact trishawlaw01_same.mono _ _ _)
      | (with_reducible exact trishawref01_Days.mono _ _ _)
      | (with_reducible exact trishawref01_Shares.mono _ _)
      | (with_reducible exact turn_Deviation.mono _ _ _)
      | (with_reducible exact turn_Least.mono _ _)
      | (with_reducible exact turn_Round.mono _ _)
      | (with_reducible exact LeO.refl _)
      | (with_reducible exact LeO.none _)
      | (with_reducible refine LeO.ite ?_ ?_)
      | (with_reducible refine LeO.bind ?_ (fun _ => ?_))
      | exact ih0 _ _ _ _
      | exact ih1 _ _ _ _ _
      | exact ih2 _ _ _ _ _ _ _ _
      | exact ih3 _ _ _ _ _ _ _ _
      | exact ih4 _ _ _ _ _ _ _ _ _
      | exact trishawlaw01_alive.mono _
      | exact trishawlaw01_same.mono _ _ _
      | exact trishawref01_Days.mono _ _ _
      | exact trishawref01_Shares.mono _ _
      | exact turn_Deviation.mono _ _ _
      | exact turn_Least.mono _ _
      | exact turn_Round.mono _ _
      | exact LeO.none _
      | refine LeO.ite ?_ ?_
      | refine LeO.bind ?_ (fun _ => ?_)
theorem trishawlaw01_TurnTried.mono : ∀ a0 a1 k, LeO (trishawlaw01_TurnTried.f k a0 a1) (trishawlaw01_TurnTried.f (k + 1) a0 a1) := by
  intro a0 a1 k
  obtain ⟨ih0, ih1, ih2, ih3, ih4⟩ := trishawlaw01_TurnTried.mono_l k
  unfold trishawlaw01_TurnTried.f
  repeat' first
      | (with_reducible exact ih0 _ _ _ _)
      | (with_reducible exact ih1 _ _ _ _ _)
      | (with_reducible exact ih2 _ _ _ _ _ _ _ _)
      | (with_reducible exact ih3 _ _ _ _ _ _ _ _)
      | (with_reducible exact ih4 _ _ _ _ _ _ _ _ _)
      | (with_reducible exact trishawlaw01_alive.mono _)
      | (with_reducible exact trishawlaw01_same.mono _ _ _)
      | (with_reducible exact trishawref01_Days.mono _ _ _)
      | (with_reducible exact trishawref01_Shares.mono _ _)
      | (with_reducible exact turn_Deviation.mono _ _ _)
      | (with_reducible exact turn_Least.mono _ _)
      | (with_reducible exact turn_Round.mono _ _)
      | (with_reducible exact LeO.refl _)
      | (with_reducible exact LeO.none _)
      | (with_reducible refine LeO.ite ?_ ?_)
      | (with_reducible refine LeO.bind ?_ (fun _ => ?_))
      | exact ih0 _ _ _ _
      | exact ih1 _ _ _ _ _
      | exact ih2 _ _ _ _ _ _ _ _
      | exact ih3 _ _ _ _ _ _ _ _
      | exact ih4 _ _ _ _ _ _ _ _ _
      | exact trishawlaw01_alive.mono _
      | exact trishawlaw01_same.mono _ _ _
      | exact trishawref01_Days.mono _ _ _
      | exact trishawref01_Shares.mono _ _
      | exact turn_Deviation.mono _ _ _
      | exact turn_Least.mono _ _
      | exact turn_Round.mono _ _
      | exact LeO.none _
      | refine LeO.ite ?_ ?_
      | refine LeO.bind ?_ (fun _ => ?_)
def trishawlaw01_TurnTried.T19 : Bool × List (List Nat × List Nat) := (true, [([], []), ([], []), ([0, 1], [0, 1]), ([2], [2]), ([], []), ([], []), ([4, 5], [4, 5]), ([6], [6]), ([3, 7], [3, 7])])
def trishawlaw01_TurnTried.B19 : List Nat := [0, 0, 3, 7, 0, 0, 48, 112, 255]
theorem trishawlaw01_TurnTried.tab19 : rtab .any (opsOf Tryd.f4 19) = trishawlaw01_TurnTried.T19 := by kernel_rfl
theorem trishawlaw01_TurnTried.bits19 : waitsOk trishawlaw01_TurnTried.T19.2 trishawlaw01_TurnTried.B19 = true := by kernel_rfl
def trishawlaw01_TurnTried.T20 : Bool × List (List Nat × List Nat) := (true, [([], []), ([], []), ([0, 1], [0, 1]), ([2], [2]), ([], []), ([], []), ([4, 5], [4, 5]), ([6], [6]), ([3, 7], [3, 7]), ([8], [8]), ([9, 9], [9]), ([9, 10], [9, 10]), ([11, 10, 0, 1, 2, 3, 4, 5, 6, 7, 8, 9, 10, 11], [11])])
def trishawlaw01_TurnTried.B20 : List Nat := [0, 0, 3, 7, 0, 0, 48, 112, 255, 511, 1023, 2047, 4095]
theorem trishawlaw01_TurnTried.tab20 : rtab .any (opsOf Tryd.f4 20) = trishawlaw01_TurnTried.T20 := by kernel_rfl
theorem trishawlaw01_TurnTried.bits20 : waitsOk trishawlaw01_TurnTried.T20.2 trishawlaw01_TurnTried.B20 = true := by kernel_rfl
set_option maxHeartbeats 8000000 in
set_option maxRecDepth 100000 in
theorem trishawlaw01_TurnTried.calls (k : Nat) (A0 : Option Addr) (c0 : Nat) (l0 : List Int) (A1 : Option Addr) (c1 : Nat) (l1 : List Int) (r : Bool) (w : World) (hr0 : Kd.C (Kd.int .i64) w A0 l0.length l0) (hc0 : l0.length ≤ c0) (hr1 : Kd.C (Kd.int .i64) w A1 l1.length l1) (hc1 : l1.length ≤ c1) (h : trishawlaw01_TurnTried.f k l0 l1 = some r) (hN0 : NoneLaid w) (hr_ : r = true) :
    Calls Tryd.prog 4 #[.slice A0 l0.length c0, .slice A1 l1.length c1] w fun e w' => e = .returned (.bool r) ∧ Below w.heap.size w w' := by
 have HN := Aside0.mk hN0
 clear hN0
 have hr := Aside0.mk hr_
 clear hr_
 have hu26 := Tryd.underlying26
 have HR0 := Aside0.mk hr0
 have HC0 := Aside0.mk hc0
 clear hr0 hc0
 have HR1 := Aside0.mk hr1
 have HC1 := Aside0.mk hc1
 clear hr1 hc1
 have HB := Aside0.mk (Below.refl w.heap.size w)
 have H : ((trishawref01_Shares.f k l0).bind fun bt393 => ((trishawlaw01_few.f l0 l1).bind fun t395 => (if t395 = true then (if bt393.2 = 0 then (if (l1.length : Int) = bt393.1 then ((trishawref01_Days.f k l1 (l0.length : Int)).bind fun t396 => (trishawlaw01_TurnTried.j0 k l0 l1 bt393.1 (t396 != 0))) else (trishawlaw01_TurnTried.j0 k l0 l1 bt393.1 true)) else (trishawlaw01_TurnTried.j0 k l0 l1 bt393.1 true)) else (trishawlaw01_TurnTried.j0 k l0 l1 bt393.1 true)))) = some r := h
 clear h
 replace H := Option.bind_eq_some_iff.mp H
 obtain ⟨⟨t393, t394⟩, A30, H⟩ := H
 replace H : ((trishawlaw01_few.f l0 l1).bind fun t395 => (if t395 = true then (if t394 = 0 then (if (l1.length : Int) = t393 then ((trishawref01_Days.f k l1 (l0.length : Int)).bind fun t396 => (trishawlaw01_TurnTried.j0 k l0 l1 t393 (t396 != 0))) else (trishawlaw01_TurnTried.j0 k l0 l1 t393 true)) else (trishawlaw01_TurnTried.j0 k l0 l1 t393 true)) else (trishawlaw01_TurnTried.j0 k l0 l1 t393 true))) = some r := H
 have A3 := Aside0.mk A30
 clear A30
 have HC4 := Aside0.mk H
 clear H
 go_enter Tryd.func4, Tryd.ntmps4
 go_upto_region 2 with (first | ((with_reducible refine gate_callee (f := 23) rfl ?_); refine goesL_ (some 18) rfl rfl Tryd.func23 (by kernel_rfl) rfl #[.slice A0 l0.length c0] rfl (as_) ?_; (with_reducible refine (trishawref01_Shares.calls k _ _ l0 t393 t394 _ ?side1 ?side2 A3.out).mono ?_); (case side1 => repeat (first | exact HR0.out | (with_reducible refine Kd.C_alloc ?_ _) | (with_reducible refine Kd.C_drewN ?_ _) | (with_reducible refine Kd.C_drew ?_))); (case side2 => exact HC0.out); rintro e w' ⟨rfl, ⟨nd, rfl⟩⟩; refine ⟨_, rfl, ?_⟩))
 (try simp only [Act.put, List.setIfInBounds_toArray, List.set_cons_zero, List.set_cons_succ])
 go_cut [41] (fun v41 wc => ∃ (kq : Nat) (x41_3 : Bool), v41 = .bool x41_3 ∧ Aside0 (trishawlaw01_TurnTried.j0 kq l0 l1 t393 x41_3 = some r) ∧ Aside0 (kq ≤ k) ∧ Aside0 (Below w.heap.size w wc))
 case first =>
  have H := HC4.out
  clear HC4
  replace H := Option.bind_eq_some_iff.mp H
  obtain ⟨t395, A50, H⟩ := H
  replace H : (if t395 = true then (if t394 = 0 then (if (l1.length : Int) = t393 then ((trishawref01_Days.f k l1 (l0.length : Int)).bind fun t396 => (trishawlaw01_TurnTried.j0 k l0 l1 t393 (t396 != 0))) else (trishawlaw01_TurnTried.j0 k l0 l1 t393 true)) else (trishawlaw01_TurnTried.j0 k l0 l1 t393 true)) else (trishawlaw01_TurnTried.j0 k l0 l1 t393 true)) = some r := H
  have A5 := Aside0.mk A50
  clear A50
  by_cases c6 : t395 = true
  ·subst c6
   have H1 : (if t394 = 0 then (if (l1.length : Int) = t393 then ((trishawref01_Days.f k l1 (l0.length : Int)).bind fun t396 => (trishawlaw01_TurnTried.j0 k l0 l1 t393 (t396 != 0))) else (trishawlaw01_TurnTried.j0 k l0 l1 t393 true)) else (trishawlaw01_TurnTried.j0 k l0 l1 t393 true)) = some r := by rw [if_pos rfl] at H; exact H
   clear H
   have H := H1
   clear H1
   by_cases c7 : t394 = 0
   ·rw [if_pos c7] at H
    have c7b0 : (t394 == 0) = true := beq_iff_eq.mpr c7
    have c7b1 : (t394 != 0) = false := bne_eq_false_iff_eq.mpr c7
    clear c7
    (first | rw [c7b0] | (simp only [i64_w, i32_w]; rw [c7b0]) | skip)
    by_cases c8 : (l1.length : Int) = t393
    ·rw [if_pos c8] at H
     have c8b0 : ((l1.length : Int) == t393) = true := beq_iff_eq.mpr c8
     have c8b1 : ((l1.length : Int) != t393) = false := bne_eq_false_iff_eq.mpr c8
     clear c8
     replace H := Option.bind_eq_some_iff.mp H
     obtain ⟨t396, A90, H⟩ := H
     replace H : (trishawlaw01_TurnTried.j0 k l0 l1 t393 (t396 != 0)) = some r := H
     have A9 := Aside0.mk A90
     clear A90
     have H' := Aside0.mk H
     clear H
     go_wp2_with (first | ((with_reducible refine gate_callee (f := 16) rfl ?_); refine goesL_ (some 23) rfl rfl Tryd.func16 (by kernel_rfl) rfl #[.slice A0 l0.length c0, .slice A1 l1.length c1] rfl (as_) ?_; (with_reducible refine (trishawlaw01_few.calls _ _ l0 _ _ l1 true _ ?side1 ?side2 ?side3 ?side4 A5.out).mono ?_); (case side1 => repeat (first | exact (Kd.C_below HR0.out HB.out) | (with_reducible refine Kd.C_alloc ?_ _) | (with_reducible refine Kd.C_drewN ?_ _) | (with_reducible refine Kd.C_drew ?_))); (case side2 => exact HC0.out); (case side3 => repeat (first | exact (Kd.C_below HR1.out HB.out) | (with_reducible refine Kd.C_alloc ?_ _) | (with_reducible refine Kd.C_drewN ?_ _) | (with_reducible refine Kd.C_drew ?_))); (case side4 => exact HC1.out); rintro e w' ⟨rfl, ⟨nd, rfl⟩⟩; refine ⟨_, rfl, ?_⟩) | (go_at_call 24; (with_reducible refine (trishawref01_Days.calls k _ _ l1 (l0.length : Int) t396 _ ?side1 ?side2 A9.out).mono ?_); (case side1 => repeat (first | exact (Kd.C_below HR1.out (bl_)) | (with_reducible refine Kd.C_alloc ?_ _) | (with_reducible refine Kd.C_drewN ?_ _) | (with_reducible refine Kd.C_drew ?_))); (case side2 => exact HC1.out); rintro e w' ⟨rfl, ⟨nd, rfl⟩⟩))
     go_meet
     case rel => exact ⟨_, ((t396 != 0)), (by first | rfl | (simp; done) | (simp [*]; done)), H', ⟨by first | omega | exact Nat.le_refl _⟩, ⟨bl_⟩⟩
    ·rw [if_neg c8] at H
     have c8b0 : ((l1.length : Int) == t393) = false := beq_eq_false_iff_ne.mpr c8
     have c8b1 : ((l1.length : Int) != t393) = true := bne_iff_ne.mpr c8
     have H' := Aside0.mk H
     clear H
     go_wp2_with (first | ((with_reducible refine gate_callee (f := 16) rfl ?_); refine goesL_ (some 23) rfl rfl Tryd.func16 (by kernel_rfl) rfl #[.slice A0 l0.length c0, .slice A1 l1.length c1] rfl (as_) ?_; (with_reducible refine (trishawlaw01_few.calls _ _ l0 _ _ l1 true _ ?side1 ?side2 ?side3 ?side4 A5.out).mono ?_); (case side1 => repeat (first | exact (Kd.C_below HR0.out HB.out) | (with_reducible refine Kd.C_alloc ?_ _) | (with_reducible refine Kd.C_drewN ?_ _) | (with_reducible refine Kd.C_drew ?_))); (case side2 => exact HC0.out); (case side3 => repeat (first | exact (Kd.C_below HR1.out HB.out) | (with_reducible refine Kd.C_alloc ?_ _) | (with_reducible refine Kd.C_drewN ?_ _) | (with_reducible refine Kd.C_drew ?_))); (case side4 => exact HC1.out); rintro e w' ⟨rfl, ⟨nd, rfl⟩⟩; refine ⟨_, rfl, ?_⟩))
     go_meet
     case rel => exact ⟨_, (true), (by first | rfl | (simp; done) | (simp [*]; done)), H', ⟨by first | omega | exact Nat.le_refl _⟩, ⟨bl_⟩⟩
   ·rw [if_neg c7] at H
    have c7b0 : (t394 == 0) = false := beq_eq_false_iff_ne.mpr c7
    have c7b1 : (t394 != 0) = true := bne_iff_ne.mpr c7
    (first | rw [c7b0] | (simp only [i64_w, i32_w]; rw [c7b0]) | skip)
    have H' := Aside0.mk H
    clear H
    go_wp2_with (first | ((with_reducible refine gate_callee (f := 16) rfl ?_); refine goesL_ (some 23) rfl rfl Tryd.func16 (by kernel_rfl) rfl #[.slice A0 l0.length c0, .slice A1 l1.length c1] rfl (as_) ?_; (with_reducible refine (trishawlaw01_few.calls _ _ l0 _ _ l1 true _ ?side1 ?side2 ?side3 ?side4 A5.out).mono ?_); (case side1 => repeat (first | exact (Kd.C_below HR0.out HB.out) | (with_reducible refine Kd.C_alloc ?_ _) | (with_reducible refine Kd.C_drewN ?_ _) | (with_reducible refine Kd.C_drew ?_))); (case side2 => exact HC0.out); (case side3 => repeat (first | exact (Kd.C_below HR1.out HB.out) | (with_reducible refine Kd.C_alloc ?_ _) | (with_reducible refine Kd.C_drewN ?_ _) | (with_reducible refine Kd.C_drew ?_))); (case side4 => exact HC1.out); rintro e w' ⟨rfl, ⟨nd, rfl⟩⟩; refine ⟨_, rfl, ?_⟩))
    go_meet
    case rel => exact ⟨_, (true), (by first | rfl | (simp; done) | (simp [*]; done)), H', ⟨by first | omega | exact Nat.le_refl _⟩, ⟨bl_⟩⟩
  ·replace c6 := Bool.eq_false_iff.mpr c6
   subst c6
   have H1 : (trishawlaw01_TurnTried.j0 k l0 l1 t393 true) = some r := by rw [if_neg (show ¬ (false = true) by decide)] at H; exact H
   clear H
   have H := H1
   clear H1
   have H' := Aside0.mk H
   clear H
   go_wp2_with (first | ((with_reducible refine gate_callee (f := 16) rfl ?_); refine goesL_ (some 23) rfl rfl Tryd.func16 (by kernel_rfl) rfl #[.slice A0 l0.length c0, .slice A1 l1.length c1] rfl (as_) ?_; (with_reducible refine (trishawlaw01_few.calls _ _ l0 _ _ l1 false _ ?side1 ?side2 ?side3 ?side4 A5.out).mono ?_); (case side1 => repeat (first | exact (Kd.C_below HR0.out HB.out) | (with_reducible refine Kd.C_alloc ?_ _) | (with_reducible refine Kd.C_drewN ?_ _) | (with_reducible refine Kd.C_drew ?_))); (case side2 => exact HC0.out); (case side3 => repeat (first | exact (Kd.C_below HR1.out HB.out) | (with_reducible refine Kd.C_alloc ?_ _) | (with_reducible refine Kd.C_drewN ?_ _) | (with_reducible refine Kd.C_drew ?_))); (case side4 => exact HC1.out); rintro e w' ⟨rfl, ⟨nd, rfl⟩⟩; refine ⟨_, rfl, ?_⟩))
   go_meet
   case rel => exact ⟨_, (true), (by first | rfl | (simp; done) | (simp [*]; done)), H', ⟨by first | omega | exact Nat.le_refl _⟩, ⟨bl_⟩⟩
 case rest =>
  clear HC4
  try clear c1
  try clear c2
  try clear p2
  try clear c4
  try clear c6
  try clear c7
  try clear c7b0
  try clear c7b1
  try clear c8
  try clear c8b0
  try clear c8b1
  obtain ⟨kq, x41_3, rfl, HA, HJ3, HB⟩ := hcut
  cases kq with
  | zero => exact absurd HA.out (by simp [trishawlaw01_TurnTried.j0])
  | succ kj3 =>
   have H := HA.out
   clear HA
   simp only [trishawlaw01_TurnTried.j0] at H
   by_cases c10 : x41_3 = true
   ·subst c10
    have H1 : ((trishawlaw01_alive.f kj3).bind fun t397 => (some t397)) = some r := by rw [if_pos rfl] at H; exact H
    clear H
    have H := H1
    clear H1
    replace H := Option.bind_eq_some_iff.mp H
    obtain ⟨t397, A110, H⟩ := H
    replace H : (some t397) = some r := H
    have A11 := Aside0.mk A110
    clear A110
    obtain rfl := Option.some.inj H
    go_wp2_with (first | ((with_reducible refine gate_callee (f := 17) rfl ?_); refine goesL_ (some 42) rfl rfl Tryd.func17 (by kernel_rfl) rfl #[] rfl (as_) ?_; (with_reducible refine (trishawlaw01_alive.calls kj3  t397 _ A11.out (HN.out.of (bl_))).mono ?_); rintro e w12 ⟨rfl, hb⟩; refine ⟨_, rfl, ?_⟩; have n0_ := Aside0.mk (below_step (bl_) hb); clear HB; have HB := n0_; clear n0_; (try clear hb); (try clear hb2); (try clear hk); (try clear hi)))
    go_ret
    exact ⟨by first | rfl | (simp [errW_none, errW_some] <;> rfl) | (simp [*, errW_none, errW_some] <;> rfl), bl_⟩
   ·replace c10 := Bool.eq_false_iff.mpr c10
    subst c10
    have H1 : (if 0 ≤ (l0.length : Int) then (if ((l0.length : Int) : Int).toNat ≤ 35184372088832 then (trishawlaw01_TurnTried.l0 kj3 l0 l1 t393 (List.replicate ((l0.length : Int) : Int).toNat 0) 0) else (none)) else (none)) = some r := by rw [if_neg (show ¬ (false = true) by decide)] at H; exact H
    clear H
    have H := H1
    clear H1
    have c13 : 0 ≤ (l0.length : Int) := fl_ fun c13 => by rw [if_neg c13] at H; exact absurd H (by simp)
    rw [if_pos c13] at H
    have c13b0 := eq_true c13
    have c13b1 : decide (0 ≤ (l0.length : Int)) = true := decide_eq_true c13
    clear c13
    have c14 : ((l0.length : Int) : Int).toNat ≤ 35184372088832 := fl_ fun c14 => by rw [if_neg c14] at H; exact absurd H (by simp)
    rw [if_pos c14] at H
    have c14b0 := eq_true c14
    have c14b1 : decide (((l0.length : Int) : Int).toNat ≤ 35184372088832) = true := decide_eq_true c14
    clear c14
    obtain ⟨y398, hy398⟩ : ∃ y_ : List Int, y_ = (List.replicate ((l0.length : Int) : Int).toNat 0) := ⟨_, rfl⟩
    replace H : (trishawlaw01_TurnTried.l0 kj3 l0 l1 t393 y398 0) = some r := by first | (rw [hy398]; with_reducible exact H) | (have H2_ := (Option.bind_some _ _).symm.trans H; rw [hy398]; with_reducible exact H2_) | (have H2_ := (Option.bind_some _ _).symm.trans H; with_reducible exact H2_) | with_reducible exact H | (rw [hy398]; exact H) | exact H
    have Ny398 := Aside0.mk hy398
    clear hy398
    have H' := Aside0.mk H
    clear H
    go_wp2_with (first | ((with_reducible refine gate_dst (N := 45) rfl ?_); (try (refine gate_guard (by rfl) ?_; dsimp only)); refine Kd.R_make (Kd.int .i64) _ 3 rfl (N := 45) rfl 22 _ _ rfl (l0.length : Int) rfl rfl Tryd.underlying22 (.int .i64 0) 8 info3 rfl (by decide) (by omega) 0 (ok := fun _ => True) (okp := fun _ => True) rfl (fun _ hk => hk) trivial (od_) (Nat.le_trans (Nat.mul_le_mul_right _ (od_ : (l0.length : Int).toNat ≤ 35184372088832)) (by omega)) (Below.refl _ _) (Nat.le_refl _) ?_; intro v399 w15 ho16 hb hg_ hnew_; clear hg_ hnew_; (first | rw [← Ny398.out] at ho16 | (simp only [Int.reduceToNat] at ho16; rw [← Ny398.out] at ho16)); have n0_ := Aside0.mk (Kd.R_lower ho16 (below_size (bl_))); have n1_ := Aside0.mk (below_step (bl_) hb); clear HB; have HO400 := n0_; have HB := n1_; clear n0_ n1_; clear hb ho16))
    go_loopg [8] kj3 (fun kq v8 w' => ∃ (x7_2 : List Int) (x8_2 : Int), v8 = .int .i64 x8_2 ∧ Aside0 (trishawlaw01_TurnTried.l0 kq l0 l1 t393 x7_2 x8_2 = some r) ∧ Aside0 (kq ≤ kj3) ∧ Aside0 (Kd.R (Kd.int .i64) 3 w' w.heap.size (fun _ => True) v399 x7_2) ∧ Aside0 (Below w.heap.size w w'))
    case atStart => exact ⟨(y398), (0), (by first | rfl | (simp; done) | (simp [*]; done)), H', ⟨Nat.le_refl _⟩, ⟨kr_ HO400.out⟩, ⟨bl_⟩⟩
    case round =>
     clear H'
     try clear c1
     try clear c2
     try clear p2
     try clear c4
     try clear c6
     try clear c7
     try clear c7b0
     try clear c7b1
     try clear c8
     try clear c8b0
     try clear c8b1
     try clear c10
     try clear c13
     try clear c13b0
     try clear c13b1
     try clear c14
     try clear c14b0
     try clear c14b1
     try clear c16
     try clear p2
     obtain ⟨x7_2, x8_2, rfl, HA, HK2, HO_7, HB⟩ := hrel
     cases gk with
     | zero => exact absurd HA.out (by simp [trishawlaw01_TurnTried.l0])
     | succ k2 =>
      have H := HA.out
      clear HA
      simp only [trishawlaw01_TurnTried.l0] at H
      by_cases c17 : x8_2 < t393
      ·rw [if_pos c17] at H
       have c17b0 : decide (x8_2 < t393) = true := decide_eq_true c17
       clear c17
       have c18 : 0 ≤ x8_2 := fl_ fun c18 => by rw [if_neg c18] at H; exact absurd H (by simp)
       rw [if_pos c18] at H
       have c18b0 : decide (0 ≤ x8_2) = true := decide_eq_true c18
       clear c18
       have c19 : x8_2 < (l1.length : Int) := fl_ fun c19 => by rw [if_neg c19] at H; exact absurd H (by simp)
       rw [if_pos c19] at H
       have c19b0 : decide (x8_2 < (l1.length : Int)) = true := decide_eq_true c19
       clear c19
       have c20 : 0 ≤ (rd l1 x8_2) := fl_ fun c20 => by rw [if_neg c20] at H; exact absurd H (by simp)
       rw [if_pos c20] at H
       have c20b0 : decide (0 ≤ (rd l1 x8_2)) = true := decide_eq_true c20
       clear c20
       have c21 : (rd l1 x8_2) < (x7_2.length : Int) := fl_ fun c21 => by rw [if_neg c21] at H; exact absurd H (by simp)
       rw [if_pos c21] at H
       have c21b0 : decide ((rd l1 x8_2) < (x7_2.length : Int)) = true := decide_eq_true c21
       clear c21
       obtain ⟨y403, hy403⟩ : ∃ y_ : List Int, y_ = (x7_2.set ((rd l1 x8_2) : Int).toNat (wrap64 ((rd x7_2 (rd l1 x8_2)) + 1))) := ⟨_, rfl⟩
       replace H : (trishawlaw01_TurnTried.l0 k2 l0 l1 t393 y403 (wrap64 (x8_2 + 1))) = some r := by first | (rw [hy403]; with_reducible exact H) | (have H2_ := (Option.bind_some _ _).symm.trans H; rw [hy403]; with_reducible exact H2_) | (have H2_ := (Option.bind_some _ _).symm.trans H; with_reducible exact H2_) | with_reducible exact H | (rw [hy403]; exact H) | exact H
       have Ny403 := Aside0.mk hy403
       clear hy403
       have H' := Aside0.mk H
       clear H
       have p401 : 0 ≤ (x8_2 : Int) := od_
       have q401 : x8_2 < (l1.length : Int) := od_
       obtain ⟨ad401, e401, hx401_0⟩ := Kd.at_int HR1.out x8_2 p401 q401
       cases e401
       replace hx401_0 := (HB.out.cell (World.block_lt_of_cell? w _ hx401_0)).trans hx401_0
       replace p401 := eq_true p401
       replace q401 := eq_true q401
       obtain ⟨Ao23, co23, eo23⟩ := Kd.R_slice HO_7.out
       subst eo23
       have p402 : 0 ≤ ((rd l1 x8_2) : Int) := od_
       have q402 : (rd l1 x8_2) < (x7_2.length : Int) := od_
       obtain ⟨ad402, e402, hx402_0⟩ := Kd.at_int (Kd.R_reads' HO_7.out).2.2 (rd l1 x8_2) p402 q402
       cases e402
       replace p402 := eq_true p402
       replace q402 := eq_true q402
       have p22 : 0 ≤ ((rd l1 x8_2) : Int) := od_
       have q22 : ((rd l1 x8_2) : Int) < ((x7_2.length : Int) : Int) := od_
       obtain ⟨go22, co22, eo22, gb22, gl22, cl22, HG22⟩ := Kd.R_form HO_7.out (by omega)
       (first | cases eo22 | (injection eo22 with ea_ en_ ec_; (first | subst ea_ | (injection ea_ with ea_; subst ea_)); subst ec_; clear en_))
       have GB22 := Aside0.mk gb22
       have GG22 := Aside0.mk HG22
       clear gb22 gl22 HG22
       (first | simp only [add_plain] at hx402_0 | skip)
       obtain ⟨hx22_0, hf22_0⟩ := Kd.R_celln 0 HO_7.out ((rd l1 x8_2) : Int) p22 q22
       replace p22 := eq_true p22
       replace q22 := eq_true q22
       have HP24 := Kd.R_putg HO_7.out ((rd l1 x8_2) : Int) (wrap64 ((rd x7_2 (rd l1 x8_2)) + 1))
       go_wp2_with (first | ((with_reducible refine gate_store (t := 3) (p := 59) rfl ?_); refine store_event (t := 3) (p := 59) (v := ?vo_w25) (w1 := (wr.setCell ⟨go22, ((rd l1 x8_2) : Int).toNat, none⟩ (.int .i64 (wrap64 ((rd x7_2 (rd l1 x8_2)) + 1))))) ?hg ?ho ?hn ?hr ?_; (case ho => rfl); (case hg => rfl); (case hn => rfl); (case hr => first | (go_simp; done) | (go_simp; rfl)); intro w25 hw; have hg : wr.grownBy w25 (some go22) := (by rw [hw]; exact HP24.2); have hp_ : Kd.R (Kd.int .i64) 3 w25 w.heap.size (fun _ => True) (.slice (some ⟨go22, 0, none⟩) x7_2.length co23) y403 := (by rw [hw, Ny403.out]; exact HP24.1); clear HP24; have n0_ := Aside0.mk (hp_); have n1_ := Aside0.mk ((by rw [hw]; exact below_set (HB.out) GB22.out : Below w.heap.size w w25)); clear HO_7; clear HB; have HO_7 := n0_; have HB := n1_; clear n0_ n1_; clear hg hw hp_))
       go_roundg k2
       case measure => have := HJ3.out; have := HK2.out; omega
       case rel => exact ⟨(y403), (wrap64 (x8_2 + 1)), (by first | rfl | (simp; done) | (simp [*]; done)), H', ⟨by have := HJ3.out; have := HK2.out; omega⟩, ⟨kr_ HO_7.out⟩, ⟨bl_⟩⟩
      ·rw [if_neg c17] at H
       have c17b0 : decide (x8_2 < t393) = false := decide_eq_false c17
       clear c17
       replace H := Option.bind_eq_some_iff.mp H
       obtain ⟨t404, A260, H⟩ := H
       replace H : (if t404 = true then ((turn_Deviation.f k2 l0 l1).bind fun bt406 => ((turn_Least.f k2 l0).bind fun bt410 => ((turn_Round.f k2 l0).bind fun bt414 => (if bt406.2.2 = 0 then (if bt410.2.2 = 0 then (if bt414.2 = 0 then ((trishawlaw01_small.f bt406.1 bt406.2.1).bind fun t418 => (if t418 = true then ((trishawlaw01_small.f bt410.1 bt410.2.1).bind fun t419 => (if t419 = true then ((trishawlaw01_atMost.f bt410.1 bt410.2.1 bt406.1 bt406.2.1).bind fun t420 => (if t420 = true then (trishawlaw01_TurnTried.j2 k2 l1 t393 bt414.1 ((bt414.1.length : Int) != t393) bt406.1 bt406.2.1 bt410.1 bt410.2.1) else (trishawlaw01_TurnTried.j2 k2 l1 t393 bt414.1 true bt406.1 bt406.2.1 bt410.1 bt410.2.1))) else (trishawlaw01_TurnTried.j2 k2 l1 t393 bt414.1 true bt406.1 bt406.2.1 bt410.1 bt410.2.1))) else (trishawlaw01_TurnTried.j2 k2 l1 t393 bt414.1 true bt406.1 bt406.2.1 bt410.1 bt410.2.1))) else (trishawlaw01_TurnTried.j2 k2 l1 t393 bt414.1 true bt406.1 bt406.2.1 bt410.1 bt410.2.1)) else (trishawlaw01_TurnTried.j2 k2 l1 t393 bt414.1 true bt406.1 bt406.2.1 bt410.1 bt410.2.1)) else (trishawlaw01_TurnTried.j2 k2 l1 t393 bt414.1 true bt406.1 bt406.2.1 bt410.1 bt410.2.1))))) else ((trishawlaw01_alive.f k2).bind fun t405 => (some t405))) = some r := H
       have A26 := Aside0.mk A260
       clear A260
       by_cases c27 : t404 = true
       ·subst c27
        have H1 : ((turn_Deviation.f k2 l0 l1).bind fun bt406 => ((turn_Least.f k2 l0).bind fun bt410 => ((turn_Round.f k2 l0).bind fun bt414 => (if bt406.2.2 = 0 then (if bt410.2.2 = 0 then (if bt414.2 = 0 then ((trishawlaw01_small.f bt406.1 bt406.2.1).bind fun t418 => (if t418 = true then ((trishawlaw01_small.f bt410.1 bt410.2.1).bind fun t419 => (if t419 = true then ((trishawlaw01_atMost.f bt410.1 bt410.2.1 bt406.1 bt406.2.1).bind fun t420 => (if t420 = true then (trishawlaw01_TurnTried.j2 k2 l1 t393 bt414.1 ((bt414.1.length : Int) != t393) bt406.1 bt406.2.1 bt410.1 bt410.2.1) else (trishawlaw01_TurnTried.j2 k2 l1 t393 bt414.1 true bt406.1 bt406.2.1 bt410.1 bt410.2.1))) else (trishawlaw01_TurnTried.j2 k2 l1 t393 bt414.1 true bt406.1 bt406.2.1 bt410.1 bt410.2.1))) else (trishawlaw01_TurnTried.j2 k2 l1 t393 bt414.1 true bt406.1 bt406.2.1 bt410.1 bt410.2.1))) else (trishawlaw01_TurnTried.j2 k2 l1 t393 bt414.1 true bt406.1 bt406.2.1 bt410.1 bt410.2.1)) else (trishawlaw01_TurnTried.j2 k2 l1 t393 bt414.1 true bt406.1 bt406.2.1 bt410.1 bt410.2.1)) else (trishawlaw01_TurnTried.j2 k2 l1 t393 bt414.1 true bt406.1 bt406.2.1 bt410.1 bt410.2.1))))) = some r := by rw [if_pos rfl] at H; exact H
        clear H
        have H := H1
        clear H1
        replace H := Option.bind_eq_some_iff.mp H
        obtain ⟨⟨t406, t407, t408⟩, A280, H⟩ := H
        replace H : ((turn_Least.f k2 l0).bind fun bt410 => ((turn_Round.f k2 l0).bind fun bt414 => (if t408 = 0 then (if bt410.2.2 = 0 then (if bt414.2 = 0 then ((trishawlaw01_small.f t406 t407).bind fun t418 => (if t418 = true then ((trishawlaw01_small.f bt410.1 bt410.2.1).bind fun t419 => (if t419 = true then ((trishawlaw01_atMost.f bt410.1 bt410.2.1 t406 t407).bind fun t420 => (if t420 = true then (trishawlaw01_TurnTried.j2 k2 l1 t393 bt414.1 ((bt414.1.length : Int) != t393) t406 t407 bt410.1 bt410.2.1) else (trishawlaw01_TurnTried.j2 k2 l1 t393 bt414.1 true t406 t407 bt410.1 bt410.2.1))) else (trishawlaw01_TurnTried.j2 k2 l1 t393 bt414.1 true t406 t407 bt410.1 bt410.2.1))) else (trishawlaw01_TurnTried.j2 k2 l1 t393 bt414.1 true t406 t407 bt410.1 bt410.2.1))) else (trishawlaw01_TurnTried.j2 k2 l1 t393 bt414.1 true t406 t407 bt410.1 bt410.2.1)) else (trishawlaw01_TurnTried.j2 k2 l1 t393 bt414.1 true t406 t407 bt410.1 bt410.2.1)) else (trishawlaw01_TurnTried.j2 k2 l1 t393 bt414.1 true t406 t407 bt410.1 bt410.2.1)))) = some r := H
        have A28 := Aside0.mk A280
        clear A280
        replace H := Option.bind_eq_some_iff.mp H
        obtain ⟨⟨t410, t411, t412⟩, A290, H⟩ := H
        replace H : ((turn_Round.f k2 l0).bind fun bt414 => (if t408 = 0 then (if t412 = 0 then (if bt414.2 = 0 then ((trishawlaw01_small.f t406 t407).bind fun t418 => (if t418 = true then ((trishawlaw01_small.f t410 t411).bind fun t419 => (if t419 = true then ((trishawlaw01_atMost.f t410 t411 t406 t407).bind fun t420 => (if t420 = true then (trishawlaw01_TurnTried.j2 k2 l1 t393 bt414.1 ((bt414.1.length : Int) != t393) t406 t407 t410 t411) else (trishawlaw01_TurnTried.j2 k2 l1 t393 bt414.1 true t406 t407 t410 t411))) else (trishawlaw01_TurnTried.j2 k2 l1 t393 bt414.1 true t406 t407 t410 t411))) else (trishawlaw01_TurnTried.j2 k2 l1 t393 bt414.1 true t406 t407 t410 t411))) else (trishawlaw01_TurnTried.j2 k2 l1 t393 bt414.1 true t406 t407 t410 t411)) else (trishawlaw01_TurnTried.j2 k2 l1 t393 bt414.1 true t406 t407 t410 t411)) else (trishawlaw01_TurnTried.j2 k2 l1 t393 bt414.1 true t406 t407 t410 t411))) = some r := H
        have A29 := Aside0.mk A290
        clear A290
        replace H := Option.bind_eq_some_iff.mp H
        obtain ⟨⟨t414, t415⟩, A300, H⟩ := H
        replace H : (if t408 = 0 then (if t412 = 0 then (if t415 = 0 then ((trishawlaw01_small.f t406 t407).bind fun t418 => (if t418 = true then ((trishawlaw01_small.f t410 t411).bind fun t419 => (if t419 = true then ((trishawlaw01_atMost.f t410 t411 t406 t407).bind fun t420 => (if t420 = true then (trishawlaw01_TurnTried.j2 k2 l1 t393 t414 ((t414.length : Int) != t393) t406 t407 t410 t411) else (trishawlaw01_TurnTried.j2 k2 l1 t393 t414 true t406 t407 t410 t411))) else (trishawlaw01_TurnTried.j2 k2 l1 t393 t414 true t406 t407 t410 t411))) else (trishawlaw01_TurnTried.j2 k2 l1 t393 t414 true t406 t407 t410 t411))) else (trishawlaw01_TurnTried.j2 k2 l1 t393 t414 true t406 t407 t410 t411)) else (trishawlaw01_TurnTried.j2 k2 l1 t393 t414 true t406 t407 t410 t411)) else (trishawlaw01_TurnTried.j2 k2 l1 t393 t414 true t406 t407 t410 t411)) = some r := H
        have A30 := Aside0.mk A300
        clear A300
        have HC31 := Aside0.mk H
        clear H
        obtain ⟨Ao32, co32, eo32⟩ := Kd.R_slice HO_7.out
        subst eo32
        go_upto_region 14 with (first | ((with_reducible refine gate_callee (f := 22) rfl ?_); refine goesL_ (some 62) rfl rfl Tryd.func22 (by kernel_rfl) rfl #[.slice Ao32 x7_2.length co32, .slice A0 l0.length c0] rfl (as_) ?_; (with_reducible refine (trishawlaw01_same.calls k2 _ _ x7_2 _ _ l0 true _ ?side1 ?side2 ?side3 ?side4 A26.out).mono ?_); (case side1 => repeat (first | exact (Kd.R_reads' HO_7.out).2.2 | (with_reducible refine Kd.C_alloc ?_ _) | (with_reducible refine Kd.C_drewN ?_ _) | (with_reducible refine Kd.C_drew ?_))); (case side2 => exact (Kd.R_reads' HO_7.out).2.1); (case side3 => repeat (first | exact (Kd.C_below HR0.out HB.out) | (with_reducible refine Kd.C_alloc ?_ _) | (with_reducible refine Kd.C_drewN ?_ _) | (with_reducible refine Kd.C_drew ?_))); (case side4 => exact HC0.out); rintro e w' ⟨rfl, ⟨nd, rfl⟩⟩; refine ⟨_, rfl, ?_⟩; (try (rw [drewN_self wr]; generalize hq_ : World.drewN wr _ = wr; have n0_ : Aside0 (Kd.R (Kd.int .i64) 3 wr w.heap.size (fun _ => True) (.slice Ao32 x7_2.length co32) x7_2) := ⟨by rw [← hq_]; exact (kr_ HO_7.out)⟩; have n1_ : Aside0 (Below w.heap.size w wr) := ⟨by rw [← hq_]; exact (bl_)⟩; clear HO_7 HB hq_; have HO_7 := n0_; have HB := n1_; clear n0_ n1_))) | ((with_reducible refine gate_callee (f := 25) rfl ?_); refine goesL_ (some 68) rfl rfl Tryd.func25 (by kernel_rfl) rfl #[.slice A0 l0.length c0, .slice A1 l1.length c1] rfl (as_) ?_; (with_reducible refine (turn_Deviation.calls k2 _ _ l0 _ _ l1 t406 t407 t408 _ ?side1 ?side2 ?side3 ?side4 A28.out).mono ?_); (case side1 => repeat (first | exact (Kd.C_below HR0.out HB.out) | (with_reducible refine Kd.C_alloc ?_ _) | (with_reducible refine Kd.C_drewN ?_ _) | (with_reducible refine Kd.C_drew ?_))); (case side2 => exact HC0.out); (case side3 => repeat (first | exact (Kd.C_below HR1.out HB.out) | (with_reducible refine Kd.C_alloc ?_ _) | (with_reducible refine Kd.C_drewN ?_ _) | (with_reducible refine Kd.C_drew ?_))); (case side4 => exact HC1.out); rintro e w33 ⟨rfl, hb⟩; refine ⟨_, rfl, ?_⟩; have n0_ := Aside0.mk (Kd.R_below (kr_ HO_7.out) hb); have n1_ := Aside0.mk (below_step (bl_) hb); clear HO_7; clear HB; have HO_7 := n0_; have HB := n1_; clear n0_ n1_; (try clear hb); (try clear hb2); (try clear hk); (try clear hi)) | ((with_reducible refine gate_dst (N := 9) rfl ?_); (try (refine gate_guard (by rfl) ?_; dsimp only)); refine box_event ?hg (N := 9) ?hd (cs := #[.int .i64 0, .int .i64 0]) (t := 26) ?hr ?_; (case hd => rfl); (case hg => rfl); (case hr => first | (go_simp; done) | (go_simp; rfl)); intro gb409 hg w34 hbox hb; have n0_ := Aside0.mk (Kd.R_below (kr_ HO_7.out) hb); have n1_ := Aside0.mk (below_step (bl_) hb); have n2_ := Aside0.mk (hbox); have n3_ := Aside0.mk ((by rw [hg]; exact (below_size (bl_)) : w.heap.size ≤ gb409)); have n4_ := Aside0.mk ((by rw [hg]; exact (below_size (bl_)) : w.heap.size ≤ gb409)); clear HO_7; clear HB; have HO_7 := n0_; have HB := n1_; have BK409 := n2_; have GW409 := n3_; have GE409 := n4_; clear n0_ n1_ n2_ n3_ n4_; clear hb hbox hg; have hcz35_0 : w34.cell? ⟨gb409, 0, none⟩ = some (.int .i64 0) := (blk_cell BK409.out 0).trans rfl; have hcz35_1 : w34.cell? ⟨gb409, 1, none⟩ = some (.int .i64 0) := (blk_cell BK409.out 1).trans rfl; have hfz35_0 := blk_frozen BK409.out 0; have hfz35_1 := blk_frozen BK409.out 1) | ((with_reducible refine gate_callee (f := 18) rfl ?_); refine goesL_ (some 73) rfl rfl Tryd.func18 (by kernel_rfl) rfl #[.slice A0 l0.length c0] rfl (as_) ?_; (with_reducible refine (turn_Least.calls k2 _ _ l0 t410 t411 t412 _ ?side1 ?side2 A29.out (HN.out.of (bl_))).mono ?_); (case side1 => exact Kd.C_below HR0.out (bl_)); (case side2 => exact HC0.out); rintro e w36 ⟨rfl, hb⟩; refine ⟨_, rfl, ?_⟩; have n0_ := Aside0.mk (Kd.R_below (by (with_reducible repeat (first | apply Kd.R_alloc | apply Kd.R_drewN | apply Kd.R_drew)); exact (Kd.R_mono (Kd.R_far (p := ⟨gb409, 1, none⟩) (Kd.R_far (p := ⟨gb409, 0, none⟩) (Kd.R_types HO_7.out BK409.out (by decide)) (fun _ hk => hk.2) (.int .i64 t406)) (fun _ hk => hk.2) (.int .i64 t407)) (fun _ h_ => h_.1))) hb); have n1_ := Aside0.mk (blk_below (g := gb409) (o := .cells #[.int .i64 t406, .int .i64 t407] 26 (0, 0)) (by (with_reducible repeat (first | refine blk_drewN ?_ _ | refine blk_drew ?_ | refine blk_alloc ?_ _)); refine blk_put (cs := #[.int .i64 t406, .int .i64 0]) ?_ 1 _ rfl; (with_reducible repeat (first | refine blk_drewN ?_ _ | refine blk_drew ?_ | refine blk_alloc ?_ _)); refine blk_put (cs := #[.int .i64 0, .int .i64 0]) ?_ 0 _ rfl; (with_reducible repeat (first | refine blk_drewN ?_ _ | refine blk_drew ?_ | refine blk_alloc ?_ _)); exact BK409.out) hb); have n2_ := Aside0.mk (below_step (bl_) hb); clear HO_7; clear BK409; clear HB; have HO_7 := n0_; have BK409 := n1_; have HB := n2_; clear n0_ n1_ n2_; (try clear hb); (try clear hb2); (try clear hk); (try clear hi)) | ((with_reducible refine gate_dst (N := 11) rfl ?_); (try (refine gate_guard (by rfl) ?_; dsimp only)); refine box_event ?hg (N := 11) ?hd (cs := #[.int .i64 0, .int .i64 0]) (t := 26) ?hr ?_; (case hd => rfl); (case hg => rfl); (case hr => first | (go_simp; done) | (go_simp; rfl)); intro gb413 hg w37 hbox hb; have n0_ := Aside0.mk (Kd.R_below (kr_ HO_7.out) hb); have n1_ := Aside0.mk (blk_below (g := gb409) (o := .cells #[.int .i64 t406, .int .i64 t407] 26 (0, 0)) (bk_ BK409.out) hb); have n2_ := Aside0.mk (below_step (bl_) hb); have n3_ := Aside0.mk (hbox); have n4_ := Aside0.mk ((by rw [hg]; exact (below_size (bl_)) : w.heap.size ≤ gb413)); have n5_ := Aside0.mk ((by rw [hg]; exact (below_size (bl_)) : w.heap.size ≤ gb413)); have n6_ := Aside0.mk ((by rw [hg]; exact Nat.ne_of_lt (blk_lt (g := gb409) (o := .cells #[.int .i64 t406, .int .i64 t407] 26 (0, 0)) (bk_ BK409.out)) : gb409 ≠ gb413)); have n7_ := Aside0.mk ((by rw [hg]; exact Nat.ne_of_gt (blk_lt (g := gb409) (o := .cells #[.int .i64 t406, .int .i64 t407] 26 (0, 0)) (bk_ BK409.out)) : gb413 ≠ gb409)); clear HO_7; clear BK409; clear HB; have HO_7 := n0_; have BK409 := n1_; have HB := n2_; have BK413 := n3_; have GW413 := n4_; have GE413 := n5_; have NB409_413 := n6_; have NB413_409 := n7_; clear n0_ n1_ n2_ n3_ n4_ n5_ n6_ n7_; clear hb hbox hg; have hnb38 := NB413_409.out; have hnc38 := NB409_413.out; have hcz39_0 : w37.cell? ⟨gb413, 0, none⟩ = some (.int .i64 0) := (blk_cell BK413.out 0).trans rfl; have hcz39_1 : w37.cell? ⟨gb413, 1, none⟩ = some (.int .i64 0) := (blk_cell BK413.out 1).trans rfl; have hfz39_0 := blk_frozen BK413.out 0; have hfz39_1 := blk_frozen BK413.out 1) | ((with_reducible refine gate_callee (f := 20) rfl ?_); refine goesL_ (some 78) rfl rfl Tryd.func20 (by kernel_rfl) rfl #[.slice A0 l0.length c0] rfl (as_) ?_; (with_reducible refine (turn_Round.calls k2 _ _ l0 t414 t415 _ ?side1 ?side2 A30.out (HN.out.of (bl_))).mono ?_); (case side1 => exact Kd.C_below HR0.out (bl_)); (case side2 => exact HC0.out); rintro e w40 ⟨v416, rfl, ho0, hb⟩; refine ⟨_, rfl, ?_⟩; have n0_ := Aside0.mk (Kd.R_elder' (by (with_reducible repeat (first | apply Kd.R_alloc | apply Kd.R_drewN | apply Kd.R_drew)); exact (Kd.R_mono (Kd.R_far (p := ⟨gb413, 1, none⟩) (Kd.R_far (p := ⟨gb413, 0, none⟩) (Kd.R_types HO_7.out BK413.out (by decide)) (fun _ hk => hk.2) (.int .i64 t410)) (fun _ hk => hk.2) (.int .i64 t411)) (fun _ h_ => h_.1))) (Kd.R_base ho0) hb); have n1_ := Aside0.mk (Kd.R_lower (Kd.R_new' ho0 (Kd.R_lt (by (with_reducible repeat (first | apply Kd.R_alloc | apply Kd.R_drewN | apply Kd.R_drew)); exact (Kd.R_mono (Kd.R_far (p := ⟨gb413, 1, none⟩) (Kd.R_far (p := ⟨gb413, 0, none⟩) (Kd.R_types HO_7.out BK413.out (by decide)) (fun _ hk => hk.2) (.int .i64 t410)) (fun _ hk => hk.2) (.int .i64 t411)) (fun _ h_ => h_.1))))) (below_size (bl_))); have n2_ := Aside0.mk (blk_below (g := gb409) (o := .cells #[.int .i64 t406, .int .i64 t407] 26 (0, 0)) (by (with_reducible repeat (first | refine blk_drewN ?_ _ | refine blk_drew ?_ | refine blk_alloc ?_ _)); refine blk_far ?_ NB409_413.out _; (with_reducible repeat (first | refine blk_drewN ?_ _ | refine blk_drew ?_ | refine blk_alloc ?_ _)); refine blk_far ?_ NB409_413.out _; (with_reducible repeat (first | refine blk_drewN ?_ _ | refine blk_drew ?_ | refine blk_alloc ?_ _)); exact BK409.out) hb); have n3_ := Aside0.mk (blk_below (g := gb413) (o := .cells #[.int .i64 t410, .int .i64 t411] 26 (0, 0)) (by (with_reducible repeat (first | refine blk_drewN ?_ _ | refine blk_drew ?_ | refine blk_alloc ?_ _)); refine blk_put (cs := #[.int .i64 t410, .int .i64 0]) ?_ 1 _ rfl; (with_reducible repeat (first | refine blk_drewN ?_ _ | refine blk_drew ?_ | refine blk_alloc ?_ _)); refine blk_put (cs := #[.int .i64 0, .int .i64 0]) ?_ 0 _ rfl; (with_reducible repeat (first | refine blk_drewN ?_ _ | refine blk_drew ?_ | refine blk_alloc ?_ _)); exact BK413.out) hb); have n4_ := Aside0.mk (below_step (bl_) hb); clear HO_7; clear BK409; clear BK413; clear HB; have HO_7 := n0_; have HO417 := n1_; have BK409 := n2_; have BK413 := n3_; have HB := n4_; clear n0_ n1_ n2_ n3_ n4_; (try clear hb); (try clear hb2); (try clear hk); (try clear hi); (try clear ho0)))
        (try simp only [Act.put, List.setIfInBounds_toArray, List.set_cons_zero, List.set_cons_succ])
        go_cut [112] (fun v112 wc => ∃ (kq : Nat) (x112_30 : Bool), v112 = .bool x112_30 ∧ Aside0 (trishawlaw01_TurnTried.j2 kq l1 t393 t414 x112_30 t406 t407 t410 t411 = some r) ∧ Aside0 (kq ≤ k2) ∧ Aside0 (Kd.R (Kd.int .i64) 3 wc w.heap.size (fun _ => True) v416 t414) ∧ Aside0 (wc.heap[gb409]? = some (.cells #[.int .i64 t406, .int .i64 t407] 26 (0, 0))) ∧ Aside0 (wc.heap[gb413]? = some (.cells #[.int .i64 t410, .int .i64 t411] 26 (0, 0))) ∧ Aside0 (Below w.heap.size w wc))
        case first =>
         have H := HC31.out
         clear HC31
         by_cases c41 : t408 = 0
         ·rw [if_pos c41] at H
          have c41b0 : (t408 == 0) = true := beq_iff_eq.mpr c41
          have c41b1 : (t408 != 0) = false := bne_eq_false_iff_eq.mpr c41
          clear c41
          (first | rw [c41b0] | (simp only [i64_w, i32_w]; rw [c41b0]) | skip)
          by_cases c42 : t412 = 0
          ·rw [if_pos c42] at H
           have c42b0 : (t412 == 0) = true := beq_iff_eq.mpr c42
           have c42b1 : (t412 != 0) = false := bne_eq_false_iff_eq.mpr c42
           clear c42
           by_cases c43 : t415 = 0
           ·rw [if_pos c43] at H
            have c43b0 : (t415 == 0) = true := beq_iff_eq.mpr c43
            have c43b1 : (t415 != 0) = false := bne_eq_false_iff_eq.mpr c43
            clear c43
            replace H := Option.bind_eq_some_iff.mp H
            obtain ⟨t418, A440, H⟩ := H
            replace H : (if t418 = true then ((trishawlaw01_small.f t410 t411).bind fun t419 => (if t419 = true then ((trishawlaw01_atMost.f t410 t411 t406 t407).bind fun t420 => (if t420 = true then (trishawlaw01_TurnTried.j2 k2 l1 t393 t414 ((t414.length : Int) != t393) t406 t407 t410 t411) else (trishawlaw01_TurnTried.j2 k2 l1 t393 t414 true t406 t407 t410 t411))) else (trishawlaw01_TurnTried.j2 k2 l1 t393 t414 true t406 t407 t410 t411))) else (trishawlaw01_TurnTried.j2 k2 l1 t393 t414 true t406 t407 t410 t411)) = some r := H
            have A44 := Aside0.mk A440
            clear A440
            by_cases c45 : t418 = true
            ·subst c45
             have H1 : ((trishawlaw01_small.f t410 t411).bind fun t419 => (if t419 = true then ((trishawlaw01_atMost.f t410 t411 t406 t407).bind fun t420 => (if t420 = true then (trishawlaw01_TurnTried.j2 k2 l1 t393 t414 ((t414.length : Int) != t393) t406 t407 t410 t411) else (trishawlaw01_TurnTried.j2 k2 l1 t393 t414 true t406 t407 t410 t411))) else (trishawlaw01_TurnTried.j2 k2 l1 t393 t414 true t406 t407 t410 t411))) = some r := by rw [if_pos rfl] at H; exact H
             clear H
             have H := H1
             clear H1
             replace H := Option.bind_eq_some_iff.mp H
             obtain ⟨t419, A460, H⟩ := H
             replace H : (if t419 = true then ((trishawlaw01_atMost.f t410 t411 t406 t407).bind fun t420 => (if t420 = true then (trishawlaw01_TurnTried.j2 k2 l1 t393 t414 ((t414.length : Int) != t393) t406 t407 t410 t411) else (trishawlaw01_TurnTried.j2 k2 l1 t393 t414 true t406 t407 t410 t411))) else (trishawlaw01_TurnTried.j2 k2 l1 t393 t414 true t406 t407 t410 t411)) = some r := H
             have A46 := Aside0.mk A460
             clear A460
             by_cases c47 : t419 = true
             ·subst c47
              have H1 : ((trishawlaw01_atMost.f t410 t411 t406 t407).bind fun t420 => (if t420 = true then (trishawlaw01_TurnTried.j2 k2 l1 t393 t414 ((t414.length : Int) != t393) t406 t407 t410 t411) else (trishawlaw01_TurnTried.j2 k2 l1 t393 t414 true t406 t407 t410 t411))) = some r := by rw [if_pos rfl] at H; exact H
              clear H
              have H := H1
              clear H1
              replace H := Option.bind_eq_some_iff.mp H
              obtain ⟨t420, A480, H⟩ := H
              replace H : (if t420 = true then (trishawlaw01_TurnTried.j2 k2 l1 t393 t414 ((t414.length : Int) != t393) t406 t407 t410 t411) else (trishawlaw01_TurnTried.j2 k2 l1 t393 t414 true t406 t407 t410 t411)) = some r := H
              have A48 := Aside0.mk A480
              clear A480
              by_cases c49 : t420 = true
              ·subst c49
               have H1 : (trishawlaw01_TurnTried.j2 k2 l1 t393 t414 ((t414.length : Int) != t393) t406 t407 t410 t411) = some r := by rw [if_pos rfl] at H; exact H
               clear H
               have H := H1
               clear H1
               have H' := Aside0.mk H
               clear H
               have hnb50 := NB409_413.out
               have hnc50 := NB413_409.out
               have hcz51_0 : w40.cell? ⟨gb409, 0, none⟩ = some (.int .i64 t406) := (blk_cell BK409.out 0).trans rfl
               have hcz51_1 : w40.cell? ⟨gb409, 1, none⟩ = some (.int .i64 t407) := (blk_cell BK409.out 1).trans rfl
               have hfz51_0 := blk_frozen BK409.out 0
               have hfz51_1 := blk_frozen BK409.out 1
               go_wp2_with (first | (go_at_call 26; (with_reducible refine (trishawlaw01_small.calls t406 t407 true _ A44.out).mono ?_); rintro e w52 ⟨rfl, hb⟩; have n0_ := Aside0.mk (Kd.R_below (kr_ HO_7.out) hb); have n1_ := Aside0.mk (Kd.R_below (kr_ HO417.out) hb); have n2_ := Aside0.mk (blk_below (g := gb409) (o := .cells #[.int .i64 t406, .int .i64 t407] 26 (0, 0)) (bk_ BK409.out) hb); have n3_ := Aside0.mk (blk_below (g := gb413) (o := .cells #[.int .i64 t410, .int .i64 t411] 26 (0, 0)) (bk_ BK413.out) hb); have n4_ := Aside0.mk (below_step (bl_) hb); clear HO_7; clear HO417; clear BK409; clear BK413; clear HB; have HO_7 := n0_; have HO417 := n1_; have BK409 := n2_; have BK413 := n3_; have HB := n4_; clear n0_ n1_ n2_ n3_ n4_; (try clear hb); (try clear hb2); (try clear hk); (try clear hi); have hcz53_0 : w52.cell? ⟨gb413, 0, none⟩ = some (.int .i64 t410) := (blk_cell BK413.out 0).trans rfl; have hcz53_1 : w52.cell? ⟨gb413, 1, none⟩ = some (.int .i64 t411) := (blk_cell BK413.out 1).trans rfl; have hfz53_0 := blk_frozen BK413.out 0; have hfz53_1 := blk_frozen BK413.out 1) | (go_at_call 26; (with_reducible refine (trishawlaw01_small.calls t410 t411 true _ A46.out).mono ?_); rintro e w54 ⟨rfl, hb⟩; have n0_ := Aside0.mk (Kd.R_below (kr_ HO_7.out) hb); have n1_ := Aside0.mk (Kd.R_below (kr_ HO417.out) hb); have n2_ := Aside0.mk (blk_below (g := gb409) (o := .cells #[.int .i64 t406, .int .i64 t407] 26 (0, 0)) (bk_ BK409.out) hb); have n3_ := Aside0.mk (blk_below (g := gb413) (o := .cells #[.int .i64 t410, .int .i64 t411] 26 (0, 0)) (bk_ BK413.out) hb); have n4_ := Aside0.mk (below_step (bl_) hb); clear HO_7; clear HO417; clear BK409; clear BK413; clear HB; have HO_7 := n0_; have HO417 := n1_; have BK409 := n2_; have BK413 := n3_; have HB := n4_; clear n0_ n1_ n2_ n3_ n4_; (try clear hb); (try clear hb2); (try clear hk); (try clear hi); have hcz55_0 : w54.cell? ⟨gb413, 0, none⟩ = some (.int .i64 t410) := (blk_cell BK413.out 0).trans rfl; have hcz55_1 : w54.cell? ⟨gb413, 1, none⟩ = some (.int .i64 t411) := (blk_cell BK413.out 1).trans rfl; have hfz55_0 := blk_frozen BK413.out 0; have hfz55_1 := blk_frozen BK413.out 1; have hcz56_0 : w54.cell? ⟨gb409, 0, none⟩ = some (.int .i64 t406) := (blk_cell BK409.out 0).trans rfl; have hcz56_1 : w54.cell? ⟨gb409, 1, none⟩ = some (.int .i64 t407) := (blk_cell BK409.out 1).trans rfl; have hfz56_0 := blk_frozen BK409.out 0; have hfz56_1 := blk_frozen BK409.out 1) | (go_at_call 27; (with_reducible refine (trishawlaw01_atMost.calls t410 t411 t406 t407 true _ A48.out).mono ?_); rintro e w57 ⟨rfl, hb⟩; have n0_ := Aside0.mk (Kd.R_below (kr_ HO_7.out) hb); have n1_ := Aside0.mk (Kd.R_below (kr_ HO417.out) hb); have n2_ := Aside0.mk (blk_below (g := gb409) (o := .cells #[.int .i64 t406, .int .i64 t407] 26 (0, 0)) (bk_ BK409.out) hb); have n3_ := Aside0.mk (blk_below (g := gb413) (o := .cells #[.int .i64 t410, .int .i64 t411] 26 (0, 0)) (bk_ BK413.out) hb); have n4_ := Aside0.mk (below_step (bl_) hb); clear HO_7; clear HO417; clear BK409; clear BK413; clear HB; have HO_7 := n0_; have HO417 := n1_; have BK409 := n2_; have BK413 := n3_; have HB := n4_; clear n0_ n1_ n2_ n3_ n4_; (try clear hb); (try clear hb2); (try clear hk); (try clear hi); obtain ⟨Ao58, co58, eo58⟩ := Kd.R_slice HO417.out; subst eo58))
               go_meet
               case rel => exact ⟨_, (((t414.length : Int) != t393)), (by first | rfl | (simp; done) | (simp [*]; done)), H', ⟨by have := HJ3.out; have := HK2.out; first | omega | exact Nat.le_refl _⟩, ⟨by (with_reducible repeat (first | apply Kd.R_alloc | apply Kd.R_drewN | apply Kd.R_drew)); exact Kd.R_mono HO417.out (fun _ hk => trivial)⟩, ⟨bk_ BK409.out⟩, ⟨bk_ BK413.out⟩, ⟨bl_⟩⟩
              ·replace c49 := Bool.eq_false_iff.mpr c49
               subst c49
               have H1 : (trishawlaw01_TurnTried.j2 k2 l1 t393 t414 true t406 t407 t410 t411) = some r := by rw [if_neg (show ¬ (false = true) by decide)] at H; exact H
               clear H
               have H := H1
               clear H1
               have H' := Aside0.mk H
               clear H
               have hnb59 := NB409_413.out
               have hnc59 := NB413_409.out
               have hcz60_0 : w40.cell? ⟨gb409, 0, none⟩ = some (.int .i64 t406) := (blk_cell BK409.out 0).trans rfl
               have hcz60_1 : w40.cell? ⟨gb409, 1, none⟩ = some (.int .i64 t407) := (blk_cell BK409.out 1).trans rfl
               have hfz60_0 := blk_frozen BK409.out 0
               have hfz60_1 := blk_frozen BK409.out 1
               go_wp2_with (first | (go_at_call 26; (with_reducible refine (trishawlaw01_small.calls t406 t407 true _ A44.out).mono ?_); rintro e w61 ⟨rfl, hb⟩; have n0_ := Aside0.mk (Kd.R_below (kr_ HO_7.out) hb); have n1_ := Aside0.mk (Kd.R_below (kr_ HO417.out) hb); have n2_ := Aside0.mk (blk_below (g := gb409) (o := .cells #[.int .i64 t406, .int .i64 t407] 26 (0, 0)) (bk_ BK409.out) hb); have n3_ := Aside0.mk (blk_below (g := gb413) (o := .cells #[.int .i64 t410, .int .i64 t411] 26 (0, 0)) (bk_ BK413.out) hb); have n4_ := Aside0.mk (below_step (bl_) hb); clear HO_7; clear HO417; clear BK409; clear BK413; clear HB; have HO_7 := n0_; have HO417 := n1_; have BK409 := n2_; have BK413 := n3_; have HB := n4_; clear n0_ n1_ n2_ n3_ n4_; (try clear hb); (try clear hb2); (try clear hk); (try clear hi); have hcz62_0 : w61.cell? ⟨gb413, 0, none⟩ = some (.int .i64 t410) := (blk_cell BK413.out 0).trans rfl; have hcz62_1 : w61.cell? ⟨gb413, 1, none⟩ = some (.int .i64 t411) := (blk_cell BK413.out 1).trans rfl; have hfz62_0 := blk_frozen BK413.out 0; have hfz62_1 := blk_frozen BK413.out 1) | (go_at_call 26; (with_reducible refine (trishawlaw01_small.calls t410 t411 true _ A46.out).mono ?_); rintro e w63 ⟨rfl, hb⟩; have n0_ := Aside0.mk (Kd.R_below (kr_ HO_7.out) hb); have n1_ := Aside0.mk (Kd.R_below (kr_ HO417.out) hb); have n2_ := Aside0.mk (blk_below (g := gb409) (o := .cells #[.int .i64 t406, .int .i64 t407] 26 (0, 0)) (bk_ BK409.out) hb); have n3_ := Aside0.mk (blk_below (g := gb413) (o := .cells #[.int .i64 t410, .int .i64 t411] 26 (0, 0)) (bk_ BK413.out) hb); have n4_ := Aside0.mk (below_step (bl_) hb); clear HO_7; clear HO417; clear BK409; clear BK413; clear HB; have HO_7 := n0_; have HO417 := n1_; have BK409 := n2_; have BK413 := n3_; have HB := n4_; clear n0_ n1_ n2_ n3_ n4_; (try clear hb); (try clear hb2); (try clear hk); (try clear hi); have hcz64_0 : w63.cell? ⟨gb413, 0, none⟩ = some (.int .i64 t410) := (blk_cell BK413.out 0).trans rfl; have hcz64_1 : w63.cell? ⟨gb413, 1, none⟩ = some (.int .i64 t411) := (blk_cell BK413.out 1).trans rfl; have hfz64_0 := blk_frozen BK413.out 0; have hfz64_1 := blk_frozen BK413.out 1; have hcz65_0 : w63.cell? ⟨gb409, 0, none⟩ = some (.int .i64 t406) := (blk_cell BK409.out 0).trans rfl; have hcz65_1 : w63.cell? ⟨gb409, 1, none⟩ = some (.int .i64 t407) := (blk_cell BK409.out 1).trans rfl; have hfz65_0 := blk_frozen BK409.out 0; have hfz65_1 := blk_frozen BK409.out 1) | (go_at_call 27; (with_reducible refine (trishawlaw01_atMost.calls t410 t411 t406 t407 false _ A48.out).mono ?_); rintro e w66 ⟨rfl, hb⟩; have n0_ := Aside0.mk (Kd.R_below (kr_ HO_7.out) hb); have n1_ := Aside0.mk (Kd.R_below (kr_ HO417.out) hb); have n2_ := Aside0.mk (blk_below (g := gb409) (o := .cells #[.int .i64 t406, .int .i64 t407] 26 (0, 0)) (bk_ BK409.out) hb); have n3_ := Aside0.mk (blk_below (g := gb413) (o := .cells #[.int .i64 t410, .int .i64 t411] 26 (0, 0)) (bk_ BK413.out) hb); have n4_ := Aside0.mk (below_step (bl_) hb); clear HO_7; clear HO417; clear BK409; clear BK413; clear HB; have HO_7 := n0_; have HO417 := n1_; have BK409 := n2_; have BK413 := n3_; have HB := n4_; clear n0_ n1_ n2_ n3_ n4_; (try clear hb); (try clear hb2); (try clear hk); (try clear hi)))
               go_meet
               case rel => exact ⟨_, (true), (by first | rfl | (simp; done) | (simp [*]; done)), H', ⟨by have := HJ3.out; have := HK2.out; first | omega | exact Nat.le_refl _⟩, ⟨by (with_reducible repeat (first | apply Kd.R_alloc | apply Kd.R_drewN | apply Kd.R_drew)); exact Kd.R_mono HO417.out (fun _ hk => trivial)⟩, ⟨bk_ BK409.out⟩, ⟨bk_ BK413.out⟩, ⟨bl_⟩⟩
             ·replace c47 := Bool.eq_false_iff.mpr c47
              subst c47
              have H1 : (trishawlaw01_TurnTried.j2 k2 l1 t393 t414 true t406 t407 t410 t411) = some r := by rw [if_neg (show ¬ (false = true) by decide)] at H; exact H
              clear H
              have H := H1
              clear H1
              have H' := Aside0.mk H
              clear H
              have hnb67 := NB409_413.out
              have hnc67 := NB413_409.out
              have hcz68_0 : w40.cell? ⟨gb409, 0, none⟩ = some (.int .i64 t406) := (blk_cell BK409.out 0).trans rfl
              have hcz68_1 : w40.cell? ⟨gb409, 1, none⟩ = some (.int .i64 t407) := (blk_cell BK409.out 1).trans rfl
              have hfz68_0 := blk_frozen BK409.out 0
              have hfz68_1 := blk_frozen BK409.out 1
              go_wp2_with (first | (go_at_call 26; (with_reducible refine (trishawlaw01_small.calls t406 t407 true _ A44.out).mono ?_); rintro e w69 ⟨rfl, hb⟩; have n0_ := Aside0.mk (Kd.R_below (kr_ HO_7.out) hb); have n1_ := Aside0.mk (Kd.R_below (kr_ HO417.out) hb); have n2_ := Aside0.mk (blk_below (g := gb409) (o := .cells #[.int .i64 t406, .int .i64 t407] 26 (0, 0)) (bk_ BK409.out) hb); have n3_ := Aside0.mk (blk_below (g := gb413) (o := .cells #[.int .i64 t410, .int .i64 t411] 26 (0, 0)) (bk_ BK413.out) hb); have n4_ := Aside0.mk (below_step (bl_) hb); clear HO_7; clear HO417; clear BK409; clear BK413; clear HB; have HO_7 := n0_; have HO417 := n1_; have BK409 := n2_; have BK413 := n3_; have HB := n4_; clear n0_ n1_ n2_ n3_ n4_; (try clear hb); (try clear hb2); (try clear hk); (try clear hi); have hcz70_0 : w69.cell? ⟨gb413, 0, none⟩ = some (.int .i64 t410) := (blk_cell BK413.out 0).trans rfl; have hcz70_1 : w69.cell? ⟨gb413, 1, none⟩ = some (.int .i64 t411) := (blk_cell BK413.out 1).trans rfl; have hfz70_0 := blk_frozen BK413.out 0; have hfz70_1 := blk_frozen BK413.out 1) | (go_at_call 26; (with_reducible refine (trishawlaw01_small.calls t410 t411 false _ A46.out).mono ?_); rintro e w71 ⟨rfl, hb⟩; have n0_ := Aside0.mk (Kd.R_below (kr_ HO_7.out) hb); have n1_ := Aside0.mk (Kd.R_below (kr_ HO417.out) hb); have n2_ := Aside0.mk (blk_below (g := gb409) (o := .cells #[.int .i64 t406, .int .i64 t407] 26 (0, 0)) (bk_ BK409.out) hb); have n3_ := Aside0.mk (blk_below (g := gb413) (o := .cells #[.int .i64 t410, .int .i64 t411] 26 (0, 0)) (bk_ BK413.out) hb); have n4_ := Aside0.mk (below_step (bl_) hb); clear HO_7; clear HO417; clear BK409; clear BK413; clear HB; have HO_7 := n0_; have HO417 := n1_; have BK409 := n2_; have BK413 := n3_; have HB := n4_; clear n0_ n1_ n2_ n3_ n4_; (try clear hb); (try clear hb2); (try clear hk); (try clear hi)))
              go_meet
              case rel => exact ⟨_, (true), (by first | rfl | (simp; done) | (simp [*]; done)), H', ⟨by have := HJ3.out; have := HK2.out; first | omega | exact Nat.le_refl _⟩, ⟨by (with_reducible repeat (first | apply Kd.R_alloc | apply Kd.R_drewN | apply Kd.R_drew)); exact Kd.R_mono HO417.out (fun _ hk => trivial)⟩, ⟨bk_ BK409.out⟩, ⟨bk_ BK413.out⟩, ⟨bl_⟩⟩
            ·replace c45 := Bool.eq_false_iff.mpr c45
             subst c45
             have H1 : (trishawlaw01_TurnTried.j2 k2 l1 t393 t414 true t406 t407 t410 t411) = some r := by rw [if_neg (show ¬ (false = true) by decide)] at H; exact H
             clear H
             have H := H1
             clear H1
             have H' := Aside0.mk H
             clear H
             have hnb72 := NB409_413.out
             have hnc72 := NB413_409.out
             have hcz73_0 : w40.cell? ⟨gb409, 0, none⟩ = some (.int .i64 t406) := (blk_cell BK409.out 0).trans rfl
             have hcz73_1 : w40.cell? ⟨gb409, 1, none⟩ = some (.int .i64 t407) := (blk_cell BK409.out 1).trans rfl
             have hfz73_0 := blk_frozen BK409.out 0
             have hfz73_1 := blk_frozen BK409.out 1
             go_wp2_with (first | (go_at_call 26; (with_reducible refine (trishawlaw01_small.calls t406 t407 false _ A44.out).mono ?_); rintro e w74 ⟨rfl, hb⟩; have n0_ := Aside0.mk (Kd.R_below (kr_ HO_7.out) hb); have n1_ := Aside0.mk (Kd.R_below (kr_ HO417.out) hb); have n2_ := Aside0.mk (blk_below (g := gb409) (o := .cells #[.int .i64 t406, .int .i64 t407] 26 (0, 0)) (bk_ BK409.out) hb); have n3_ := Aside0.mk (blk_below (g := gb413) (o := .cells #[.int .i64 t410, .int .i64 t411] 26 (0, 0)) (bk_ BK413.out) hb); have n4_ := Aside0.mk (below_step (bl_) hb); clear HO_7; clear HO417; clear BK409; clear BK413; clear HB; have HO_7 := n0_; have HO417 := n1_; have BK409 := n2_; have BK413 := n3_; have HB := n4_; clear n0_ n1_ n2_ n3_ n4_; (try clear hb); (try clear hb2); (try clear hk); (try clear hi)))
             go_meet
             case rel => exact ⟨_, (true), (by first | rfl | (simp; done) | (simp [*]; done)), H', ⟨by have := HJ3.out; have := HK2.out; first | omega | exact Nat.le_refl _⟩, ⟨by (with_reducible repeat (first | apply Kd.R_alloc | apply Kd.R_drewN | apply Kd.R_drew)); exact Kd.R_mono HO417.out (fun _ hk => trivial)⟩, ⟨bk_ BK409.out⟩, ⟨bk_ BK413.out⟩, ⟨bl_⟩⟩
           ·rw [if_neg c43] at H
            have c43b0 : (t415 == 0) = false := beq_eq_false_iff_ne.mpr c43
            have c43b1 : (t415 != 0) = true := bne_iff_ne.mpr c43
            have H' := Aside0.mk H
            clear H
            go_wp2
            go_meet
            case rel => exact ⟨_, (true), (by first | rfl | (simp; done) | (simp [*]; done)), H', ⟨by have := HJ3.out; have := HK2.out; first | omega | exact Nat.le_refl _⟩, ⟨by (with_reducible repeat (first | apply Kd.R_alloc | apply Kd.R_drewN | apply Kd.R_drew)); exact Kd.R_mono HO417.out (fun _ hk => trivial)⟩, ⟨bk_ BK409.out⟩, ⟨bk_ BK413.out⟩, ⟨bl_⟩⟩
          ·rw [if_neg c42] at H
           have c42b0 : (t412 == 0) = false := beq_eq_false_iff_ne.mpr c42
           have c42b1 : (t412 != 0) = true := bne_iff_ne.mpr c42
           have H' := Aside0.mk H
           clear H
           go_wp2
           go_meet
           case rel => exact ⟨_, (true), (by first | rfl | (simp; done) | (simp [*]; done)), H', ⟨by have := HJ3.out; have := HK2.out; first | omega | exact Nat.le_refl _⟩, ⟨by (with_reducible repeat (first | apply Kd.R_alloc | apply Kd.R_drewN | apply Kd.R_drew)); exact Kd.R_mono HO417.out (fun _ hk => trivial)⟩, ⟨bk_ BK409.out⟩, ⟨bk_ BK413.out⟩, ⟨bl_⟩⟩
         ·rw [if_neg c41] at H
          have c41b0 : (t408 == 0) = false := beq_eq_false_iff_ne.mpr c41
          have c41b1 : (t408 != 0) = true := bne_iff_ne.mpr c41
          (first | rw [c41b0] | (simp only [i64_w, i32_w]; rw [c41b0]) | skip)
          have H' := Aside0.mk H
          clear H
          go_wp2
          go_meet
          case rel => exact ⟨_, (true), (by first | rfl | (simp; done) | (simp [*]; done)), H', ⟨by have := HJ3.out; have := HK2.out; first | omega | exact Nat.le_refl _⟩, ⟨by (with_reducible repeat (first | apply Kd.R_alloc | apply Kd.R_drewN | apply Kd.R_drew)); exact Kd.R_mono HO417.out (fun _ hk => trivial)⟩, ⟨bk_ BK409.out⟩, ⟨bk_ BK413.out⟩, ⟨bl_⟩⟩
        case rest =>
         clear HC31
         try clear c1
         try clear c2
         try clear p2
         try clear q2
         try clear hx2
         try clear hf2
         try clear c3
         try clear c4
         try clear p4
         try clear q4
         try clear hx4
         try clear c5
         try clear c6
         try clear p6
         try clear c7
         try clear c7b0
         try clear c7b1
         try clear c8
         try clear c8b0
         try clear c8b1
         try clear c10
         try clear c13
         try clear c13b0
         try clear c13b1
         try clear c14
         try clear c14b0
         try clear c14b1
         try clear c16
         try clear c17
         try clear c17b0
         try clear c18
         try clear c18b0
         try clear c19
         try clear c19b0
         try clear c20
         try clear c20b0
         try clear c21
         try clear c21b0
         try clear c22
         try clear p22
         try clear q22
         try clear hx22
         try clear hf22
         try clear c23
         try clear c25
         try clear c27
         try clear c38
         try clear p40
         try clear q40
         try clear hx40
         try clear c41
         try clear c41b0
         try clear c41b1
         try clear c42
         try clear c42b0
         try clear c42b1
         try clear c43
         try clear c43b0
         try clear c43b1
         try clear c45
         try clear c47
         try clear c49
         try clear c50
         try clear c59
         try clear p64
         try clear c67
         try clear c72
         try clear hcz35_0
         try clear hcz35_1
         try clear hcz39_0
         try clear hcz39_1
         try clear hcz51_0
         try clear hcz51_1
         try clear hcz53_0
         try clear hcz53_1
         try clear hcz55_0
         try clear hcz55_1
         try clear hcz56_0
         try clear hcz56_1
         try clear hcz60_0
         try clear hcz60_1
         try clear hcz62_0
         try clear hcz62_1
         try clear hcz64_0
         try clear hcz64_1
         try clear hcz65_0
         try clear hcz65_1
         try clear hcz68_0
         try clear hcz68_1
         try clear hcz70_0
         try clear hcz70_1
         try clear hcz73_0
         try clear hcz73_1
         try clear hfz35_0
         try clear hfz35_1
         try clear hfz39_0
         try clear hfz39_1
         try clear hfz51_0
         try clear hfz51_1
         try clear hfz53_0
         try clear hfz53_1
         try clear hfz55_0
         try clear hfz55_1
         try clear hfz56_0
         try clear hfz56_1
         try clear hfz60_0
         try clear hfz60_1
         try clear hfz62_0
         try clear hfz62_1
         try clear hfz64_0
         try clear hfz64_1
         try clear hfz65_0
         try clear hfz65_1
         try clear hfz68_0
         try clear hfz68_1
         try clear hfz70_0
         try clear hfz70_1
         try clear hfz73_0
         try clear hfz73_1
         try clear hx22_0
         try clear hx401_0
         try clear hx402_0
         try clear p2
         try clear p22
         try clear p401
         try clear p402
         try clear q22
         try clear q401
         try clear q402
         obtain ⟨kq, x112_30, rfl, HA, HJ30, HO_13, BK409, BK413, HB⟩ := hcut
         cases kq with
         | zero => exact absurd HA.out (by simp [trishawlaw01_TurnTried.j2])
         | succ kj30 =>
          have H := HA.out
          clear HA
          simp only [trishawlaw01_TurnTried.j2] at H
          by_cases c75 : x112_30 = true
          ·subst c75
           have H1 : (some false) = some r := by rw [if_pos rfl] at H; exact H
           clear H
           have H := H1
           clear H1
           exact absurd (Option.some.inj (H.trans (congrArg some hr.out))) (by decide)
          ·replace c75 := Bool.eq_false_iff.mpr c75
           subst c75
           have H1 : (trishawlaw01_TurnTried.l1 kj30 l1 t393 t414 0 t406 t407 t410 t411) = some r := by rw [if_neg (show ¬ (false = true) by decide)] at H; exact H
           clear H
           have H := H1
           clear H1
           have H' := Aside0.mk H
           clear H
           go_wp2
           go_loopg [15] kj30 (fun kq v15 w' => ∃ (x15_4 : Int), v15 = .int .i64 x15_4 ∧ Aside0 (trishawlaw01_TurnTried.l1 kq l1 t393 t414 x15_4 t406 t407 t410 t411 = some r) ∧ Aside0 (kq ≤ kj30) ∧ Aside0 (Kd.R (Kd.int .i64) 3 w' w.heap.size (fun _ => True) v416 t414) ∧ Aside0 (w'.heap[gb409]? = some (.cells #[.int .i64 t406, .int .i64 t407] 26 (0, 0))) ∧ Aside0 (w'.heap[gb413]? = some (.cells #[.int .i64 t410, .int .i64 t411] 26 (0, 0))) ∧ Aside0 (Below w.heap.size w w'))
           case atStart => exact ⟨(0), (by first | rfl | (simp; done) | (simp [*]; done)), H', ⟨Nat.le_refl _⟩, ⟨kr_ HO_13.out⟩, ⟨bk_ BK409.out⟩, ⟨bk_ BK413.out⟩, ⟨bl_⟩⟩
           case round =>
            clear H'
            try clear c1
            try clear c2
            try clear p2
            try clear q2
            try clear hx2
            try clear hf2
            try clear c3
            try clear c4
            try clear p4
            try clear q4
            try clear hx4
            try clear c5
            try clear c6
            try clear p6
            try clear c7
            try clear c7b0
            try clear c7b1
            try clear c8
            try clear c8b0
            try clear c8b1
            try clear c10
            try clear c13
            try clear c13b0
            try clear c13b1
            try clear c14
            try clear c14b0
            try clear c14b1
            try clear c16
            try clear c17
            try clear c17b0
            try clear c18
            try clear c18b0
            try clear c19
            try clear c19b0
            try clear c20
            try clear c20b0
            try clear c21
            try clear c21b0
            try clear c22
            try clear p22
            try clear q22
            try clear hx22
            try clear hf22
            try clear c23
            try clear c25
            try clear c27
            try clear c38
            try clear p40
            try clear q40
            try clear hx40
            try clear c41
            try clear c41b0
            try clear c41b1
            try clear c42
            try clear c42b0
            try clear c42b1
            try clear c43
            try clear c43b0
            try clear c43b1
            try clear c45
            try clear c47
            try clear c49
            try clear c50
            try clear c59
            try clear p64
            try clear c67
            try clear c72
            try clear c75
            try clear hcz35_0
            try clear hcz35_1
            try clear hcz39_0
            try clear hcz39_1
            try clear hcz51_0
            try clear hcz51_1
            try clear hcz53_0
            try clear hcz53_1
            try clear hcz55_0
            try clear hcz55_1
            try clear hcz56_0
            try clear hcz56_1
            try clear hcz60_0
            try clear hcz60_1
            try clear hcz62_0
            try clear hcz62_1
            try clear hcz64_0
            try clear hcz64_1
            try clear hcz65_0
            try clear hcz65_1
            try clear hcz68_0
            try clear hcz68_1
            try clear hcz70_0
            try clear hcz70_1
            try clear hcz73_0
            try clear hcz73_1
            try clear hfz35_0
            try clear hfz35_1
            try clear hfz39_0
            try clear hfz39_1
            try clear hfz51_0
            try clear hfz51_1
            try clear hfz53_0
            try clear hfz53_1
            try clear hfz55_0
            try clear hfz55_1
            try clear hfz56_0
            try clear hfz56_1
            try clear hfz60_0
            try clear hfz60_1
            try clear hfz62_0
            try clear hfz62_1
            try clear hfz64_0
            try clear hfz64_1
            try clear hfz65_0
            try clear hfz65_1
            try clear hfz68_0
            try clear hfz68_1
            try clear hfz70_0
            try clear hfz70_1
            try clear hfz73_0
            try clear hfz73_1
            try clear hx22_0
            try clear hx401_0
            try clear hx402_0
            try clear p2
            try clear p22
            try clear p4
            try clear p40
            try clear p401
            try clear p402
            try clear p6
            try clear p64
            try clear q2
            try clear q22
            try clear q4
            try clear q40
            try clear q401
            try clear q402
            obtain ⟨x15_4, rfl, HA, HK4, HO_13, BK409, BK413, HB⟩ := hrel
            cases gk with
            | zero => exact absurd HA.out (by simp [trishawlaw01_TurnTried.l1])
            | succ k4 =>
             have H := HA.out
             clear HA
             simp only [trishawlaw01_TurnTried.l1] at H
             have HC76 := Aside0.mk H
             clear H
             go_upto_region 17 with (fail)
             go_cut [120] (fun v120 wc => ∃ (kq : Nat) (x120_75 : Bool), v120 = .bool x120_75 ∧ Aside0 (trishawlaw01_TurnTried.j4 kq l1 t393 t414 x15_4 x120_75 t406 t407 t410 t411 = some r) ∧ Aside0 (kq ≤ k4) ∧ Aside0 (Kd.R (Kd.int .i64) 3 wc w.heap.size (fun _ => True) v416 t414) ∧ Aside0 (wc.heap[gb409]? = some (.cells #[.int .i64 t406, .int .i64 t407] 26 (0, 0))) ∧ Aside0 (wc.heap[gb413]? = some (.cells #[.int .i64 t410, .int .i64 t411] 26 (0, 0))) ∧ Aside0 (Below w.heap.size w wc))
             case first =>
              have H := HC76.out
              clear HC76
              by_cases c77 : x15_4 < t393
              ·rw [if_pos c77] at H
               have c77b0 : decide (x15_4 < t393) = true := decide_eq_true c77
               clear c77
               (first | rw [c77b0] | (simp only [i64_w, i32_w]; rw [c77b0]) | skip)
               have H' := Aside0.mk H
               clear H
               have hnb78 := NB409_413.out
               have hnc78 := NB413_409.out
               have hcz79_0 : wr.cell? ⟨gb409, 0, none⟩ = some (.int .i64 t406) := (blk_cell BK409.out 0).trans rfl
               have hcz79_1 : wr.cell? ⟨gb409, 1, none⟩ = some (.int .i64 t407) := (blk_cell BK409.out 1).trans rfl
               have hfz79_0 := blk_frozen BK409.out 0
               have hfz79_1 := blk_frozen BK409.out 1
               have hcz80_0 : wr.cell? ⟨gb413, 0, none⟩ = some (.int .i64 t410) := (blk_cell BK413.out 0).trans rfl
               have hcz80_1 : wr.cell? ⟨gb413, 1, none⟩ = some (.int .i64 t411) := (blk_cell BK413.out 1).trans rfl
               have hfz80_0 := blk_frozen BK413.out 0
               have hfz80_1 := blk_frozen BK413.out 1
               go_wp2
               go_meet
               case rel => exact ⟨_, ((t406 == t410 && (t407 == t411))), (by first | rfl | (simp; done) | (simp [*]; done)), H', ⟨by have := HJ3.out; have := HK2.out; have := HJ30.out; have := HK4.out; first | omega | exact Nat.le_refl _⟩, ⟨kr_ HO_13.out⟩, ⟨bk_ BK409.out⟩, ⟨bk_ BK413.out⟩, ⟨bl_⟩⟩
              ·rw [if_neg c77] at H
               have c77b0 : decide (x15_4 < t393) = false := decide_eq_false c77
               clear c77
               (first | rw [c77b0] | (simp only [i64_w, i32_w]; rw [c77b0]) | skip)
               have H' := Aside0.mk H
               clear H
               go_wp2
               go_meet
               case rel => exact ⟨_, (false), (by first | rfl | (simp; done) | (simp [*]; done)), H', ⟨by have := HJ3.out; have := HK2.out; have := HJ30.out; have := HK4.out; first | omega | exact Nat.le_refl _⟩, ⟨kr_ HO_13.out⟩, ⟨bk_ BK409.out⟩, ⟨bk_ BK413.out⟩, ⟨bl_⟩⟩
             case rest =>
              clear HC76
              try clear c1
              try clear c2
              try clear p2
              try clear q2
              try clear hx2
              try clear hf2
              try clear c3
              try clear c4
              try clear p4
              try clear q4
              try clear hx4
              try clear c5
              try clear c6
              try clear p6
              try clear c7
              try clear c7b0
              try clear c7b1
              try clear c8
              try clear c8b0
              try clear c8b1
              try clear c10
              try clear c13
              try clear c13b0
              try clear c13b1
              try clear c14
              try clear c14b0
              try clear c14b1
              try clear c16
              try clear c17
              try clear c17b0
              try clear c18
              try clear c18b0
              try clear c19
              try clear c19b0
              try clear c20
              try clear c20b0
              try clear c21
              try clear c21b0
              try clear c22
              try clear p22
              try clear q22
              try clear hx22
              try clear hf22
              try clear c23
              try clear c25
              try clear c27
              try clear c38
              try clear p40
              try clear q40
              try clear hx40
              try clear c41
              try clear c41b0
              try clear c41b1
              try clear c42
              try clear c42b0
              try clear c42b1
              try clear c43
              try clear c43b0
              try clear c43b1
              try clear c45
              try clear c47
              try clear c49
              try clear c50
              try clear c59
              try clear p64
              try clear c67
              try clear c72
              try clear c75
              try clear c77
              try clear c77b0
              try clear c78
              try clear hcz35_0
              try clear hcz35_1
              try clear hcz39_0
              try clear hcz39_1
              try clear hcz51_0
              try clear hcz51_1
              try clear hcz53_0
              try clear hcz53_1
              try clear hcz55_0
              try clear hcz55_1
              try clear hcz56_0
              try clear hcz56_1
              try clear hcz60_0
              try clear hcz60_1
              try clear hcz62_0
              try clear hcz62_1
              try clear hcz64_0
              try clear hcz64_1
              try clear hcz65_0
              try clear hcz65_1
              try clear hcz68_0
              try clear hcz68_1
              try clear hcz70_0
              try clear hcz70_1
              try clear hcz73_0
              try clear hcz73_1
              try clear hcz79_0
              try clear hcz79_1
              try clear hcz80_0
              try clear hcz80_1
              try clear hfz35_0
              try clear hfz35_1
              try clear hfz39_0
              try clear hfz39_1
              try clear hfz51_0
              try clear hfz51_1
              try clear hfz53_0
              try clear hfz53_1
              try clear hfz55_0
              try clear hfz55_1
              try clear hfz56_0
              try clear hfz56_1
              try clear hfz60_0
              try clear hfz60_1
              try clear hfz62_0
              try clear hfz62_1
              try clear hfz64_0
              try clear hfz64_1
              try clear hfz65_0
              try clear hfz65_1
              try clear hfz68_0
              try clear hfz68_1
              try clear hfz70_0
              try clear hfz70_1
              try clear hfz73_0
              try clear hfz73_1
              try clear hfz79_0
              try clear hfz79_1
              try clear hfz80_0
              try clear hfz80_1
              try clear hx22_0
              try clear hx401_0
              try clear hx402_0
              try clear p2
              try clear p22
              try clear p4
              try clear p40
              try clear p401
              try clear p402
              try clear p6
              try clear p64
              try clear q2
              try clear q22
              try clear q4
              try clear q40
              try clear q401
              try clear q402
              obtain ⟨kq, x120_75, rfl, HA, HJ75, HO_13, BK409, BK413, HB⟩ := hcut
              cases kq with
              | zero => exact absurd HA.out (by simp [trishawlaw01_TurnTried.j4])
              | succ kj75 =>
               have H := HA.out
               clear HA
               simp only [trishawlaw01_TurnTried.j4] at H
               by_cases c81 : x120_75 = true
               ·subst c81
                have H1 : (if 0 ≤ x15_4 then (if x15_4 < (t414.length : Int) then (if x15_4 < (l1.length : Int) then (if (rd t414 x15_4) = (rd l1 x15_4) then (trishawlaw01_TurnTried.l1 kj75 l1 t393 t414 (wrap64 (x15_4 + 1)) t406 t407 t410 t411) else (if (rd t414 x15_4) < (rd l1 x15_4) then ((trishawlaw01_alive.f kj75).bind fun t425 => (some t425)) else (some false))) else (none)) else (none)) else (none)) = some r := by rw [if_pos rfl] at H; exact H
                clear H
                have H := H1
                clear H1
                have c82 : 0 ≤ x15_4 := fl_ fun c82 => by rw [if_neg c82] at H; exact absurd H (by simp)
                rw [if_pos c82] at H
                have c82b0 : decide (0 ≤ x15_4) = true := decide_eq_true c82
                clear c82
                have c83 : x15_4 < (t414.length : Int) := fl_ fun c83 => by rw [if_neg c83] at H; exact absurd H (by simp)
                rw [if_pos c83] at H
                have c83b0 : decide (x15_4 < (t414.length : Int)) = true := decide_eq_true c83
                clear c83
                have c84 : x15_4 < (l1.length : Int) := fl_ fun c84 => by rw [if_neg c84] at H; exact absurd H (by simp)
                rw [if_pos c84] at H
                have c84b0 : decide (x15_4 < (l1.length : Int)) = true := decide_eq_true c84
                clear c84
                by_cases c85 : (rd t414 x15_4) = (rd l1 x15_4)
                ·rw [if_pos c85] at H
                 have c85b0 : ((rd t414 x15_4) == (rd l1 x15_4)) = true := beq_iff_eq.mpr c85
                 have c85b1 : ((rd t414 x15_4) != (rd l1 x15_4)) = false := bne_eq_false_iff_eq.mpr c85
                 clear c85
                 have H' := Aside0.mk H
                 clear H
                 try go_wp2
                 have n0_ := Aside0.mk (Kd.R_drew HO_13.out)
                 have n1_ := Aside0.mk (blk_drew BK409.out)
                 have n2_ := Aside0.mk (blk_drew BK413.out)
                 have n3_ := Aside0.mk (below_drew1 HB.out)
                 clear HO_13
                 clear BK409
                 clear BK413
                 clear HB
                 have HO_13 := n0_
                 have BK409 := n1_
                 have BK413 := n2_
                 have HB := n3_
                 clear n0_ n1_ n2_ n3_
                 obtain ⟨Ao87, co87, eo87⟩ := Kd.R_slice HO_13.out
                 (first | subst eo87 | (injection eo87 with f1_ f2_ f3_; have f4_ := f1_.symm; have f5_ := f3_.symm; clear f1_ f2_ f3_; subst f4_; subst f5_))
                 have p421 : 0 ≤ (x15_4 : Int) := od_
                 have q421 : x15_4 < (t414.length : Int) := od_
                 obtain ⟨ad421, e421, hx421_0⟩ := Kd.at_int (Kd.R_reads' HO_13.out).2.2 x15_4 p421 q421
                 cases e421
                 replace p421 := eq_true p421
                 replace q421 := eq_true q421
                 have p422 : 0 ≤ (x15_4 : Int) := od_
                 have q422 : x15_4 < (l1.length : Int) := od_
                 obtain ⟨ad422, e422, hx422_0⟩ := Kd.at_int HR1.out x15_4 p422 q422
                 have hw422_0 := hx422_0
                 cases e422
                 replace hx422_0 := (HB.out.cell (World.block_lt_of_cell? w _ hx422_0)).trans hx422_0
                 replace p422 := eq_true p422
                 replace q422 := eq_true q422
                 refine start_ (n := 9) (S := fun w' => w'.cell? (ad421.add (x15_4).toNat) = some (.int .i64 (rd t414 x15_4)) ∧ w'.cell? (ad422.add (x15_4).toNat) = some (.int .i64 (rd l1 x15_4))) (ds := []) #[false, false, false, false, false, false, false, false, false] (by kernel_rfl) rfl rfl ⟨hx421_0, ((HB.out.cell (World.block_lt_of_cell? w _ hw422_0)).trans hw422_0)⟩ (fun hHeld => ?_); refine with_tabW trishawlaw01_TurnTried.tab19 trishawlaw01_TurnTried.bits19 (fun HT_ HW_ => ?_)
                 generalize wc.drew = w86 at HO_13 BK409 BK413 HB hx421_0 hx422_0 hHeld ⊢
                 refine pu_ 0 123 HT_.out (h := ?_)
                 refine pu_ 1 124 HT_.out (h := ?_)
                 refine pu_ 2 125 HT_.out (h := ?_)
                 refine pu_ 4 127 HT_.out (h := ?_)
                 refine pu_ 5 128 HT_.out (h := ?_)
                 refine pu_ 6 129 HT_.out (h := ?_)
                 refine ta_ 3 126 HT_.out HW_.out hHeld (h := ?_)
                 refine ta_ 7 130 HT_.out HW_.out hHeld (h := ?_)
                 refine pu_ 8 131 HT_.out (h := ?_)
                 refine done_ (done_of HT_.out (by kernel_rfl)) ?_
                 try go_wp2
                 go_roundg kj75
                 case measure => have := HJ3.out; have := HK2.out; have := HJ30.out; have := HK4.out; have := HJ75.out; omega
                 case rel => exact ⟨(wrap64 (x15_4 + 1)), (by first | rfl | (simp; done) | (simp [*]; done)), H', ⟨by have := HJ3.out; have := HK2.out; have := HJ30.out; have := HK4.out; have := HJ75.out; omega⟩, ⟨kr_ HO_13.out⟩, ⟨bk_ BK409.out⟩, ⟨bk_ BK413.out⟩, ⟨bl_⟩⟩
                ·rw [if_neg c85] at H
                 have c85b0 : ((rd t414 x15_4) == (rd l1 x15_4)) = false := beq_eq_false_iff_ne.mpr c85
                 have c85b1 : ((rd t414 x15_4) != (rd l1 x15_4)) = true := bne_iff_ne.mpr c85
                 by_cases c88 : (rd t414 x15_4) < (rd l1 x15_4)
                 ·rw [if_pos c88] at H
                  have c88b0 : decide ((rd t414 x15_4) < (rd l1 x15_4)) = true := decide_eq_true c88
                  clear c88
                  replace H := Option.bind_eq_some_iff.mp H
                  obtain ⟨t425, A890, H⟩ := H
                  replace H : (some t425) = some r := H
                  have A89 := Aside0.mk A890
                  clear A890
                  obtain rfl := Option.some.inj H
                  try go_wp2
                  have n0_ := Aside0.mk (Kd.R_drew HO_13.out)
                  have n1_ := Aside0.mk (blk_drew BK409.out)
                  have n2_ := Aside0.mk (blk_drew BK413.out)
                  have n3_ := Aside0.mk (below_drew1 HB.out)
                  clear HO_13
                  clear BK409
                  clear BK413
                  clear HB
                  have HO_13 := n0_
                  have BK409 := n1_
                  have BK413 := n2_
                  have HB := n3_
                  clear n0_ n1_ n2_ n3_
                  obtain ⟨Ao91, co91, eo91⟩ := Kd.R_slice HO_13.out
                  (first | subst eo91 | (injection eo91 with f1_ f2_ f3_; have f4_ := f1_.symm; have f5_ := f3_.symm; clear f1_ f2_ f3_; subst f4_; subst f5_))
                  have p421 : 0 ≤ (x15_4 : Int) := od_
                  have q421 : x15_4 < (t414.length : Int) := od_
                  obtain ⟨ad421, e421, hx421_0⟩ := Kd.at_int (Kd.R_reads' HO_13.out).2.2 x15_4 p421 q421
                  cases e421
                  replace p421 := eq_true p421
                  replace q421 := eq_true q421
                  have p422 : 0 ≤ (x15_4 : Int) := od_
                  have q422 : x15_4 < (l1.length : Int) := od_
                  obtain ⟨ad422, e422, hx422_0⟩ := Kd.at_int HR1.out x15_4 p422 q422
                  have hw422_0 := hx422_0
                  cases e422
                  replace hx422_0 := (HB.out.cell (World.block_lt_of_cell? w _ hx422_0)).trans hx422_0
                  replace p422 := eq_true p422
                  replace q422 := eq_true q422
                  refine start_ (n := 9) (S := fun w' => w'.cell? (ad421.add (x15_4).toNat) = some (.int .i64 (rd t414 x15_4)) ∧ w'.cell? (ad422.add (x15_4).toNat) = some (.int .i64 (rd l1 x15_4))) (ds := []) #[false, false, false, false, false, false, false, false, false] (by kernel_rfl) rfl rfl ⟨hx421_0, ((HB.out.cell (World.block_lt_of_cell? w _ hw422_0)).trans hw422_0)⟩ (fun hHeld => ?_); refine with_tabW trishawlaw01_TurnTried.tab19 trishawlaw01_TurnTried.bits19 (fun HT_ HW_ => ?_)
                  generalize wc.drew = w90 at HO_13 BK409 BK413 HB hx421_0 hx422_0 hHeld ⊢
                  refine pu_ 0 123 HT_.out (h := ?_)
                  refine pu_ 1 124 HT_.out (h := ?_)
                  refine pu_ 2 125 HT_.out (h := ?_)
                  refine pu_ 4 127 HT_.out (h := ?_)
                  refine pu_ 5 128 HT_.out (h := ?_)
                  refine pu_ 6 129 HT_.out (h := ?_)
                  refine ta_ 3 126 HT_.out HW_.out hHeld (h := ?_)
                  refine ta_ 7 130 HT_.out HW_.out hHeld (h := ?_)
                  refine pu_ 8 131 HT_.out (h := ?_)
                  refine done_ (done_of HT_.out (by kernel_rfl)) ?_
                  try go_wp2
                  have n0_ := Aside0.mk (Kd.R_drew HO_13.out)
                  have n1_ := Aside0.mk (blk_drew BK409.out)
                  have n2_ := Aside0.mk (blk_drew BK413.out)
                  have n3_ := Aside0.mk (below_drew1 HB.out)
                  clear HO_13
                  clear BK409
                  clear BK413
                  clear HB
                  have HO_13 := n0_
                  have BK409 := n1_
                  have BK413 := n2_
                  have HB := n3_
                  clear n0_ n1_ n2_ n3_
                  have p423 : 0 ≤ (x15_4 : Int) := od_
                  have q423 : x15_4 < (t414.length : Int) := od_
                  obtain ⟨ad423, e423, hx423_0⟩ := Kd.at_int (Kd.R_reads' HO_13.out).2.2 x15_4 p423 q423
                  obtain rfl : ad421 = ad423 := (by injection e423)
                  replace p423 := eq_true p423
                  replace q423 := eq_true q423
                  have p424 : 0 ≤ (x15_4 : Int) := od_
                  have q424 : x15_4 < (l1.length : Int) := od_
                  obtain ⟨ad424, e424, hx424_0⟩ := Kd.at_int HR1.out x15_4 p424 q424
                  have hw424_0 := hx424_0
                  obtain rfl : ad422 = ad424 := (by injection e424)
                  replace hx424_0 := (HB.out.cell (World.block_lt_of_cell? w _ hx424_0)).trans hx424_0
                  replace p424 := eq_true p424
                  replace q424 := eq_true q424
                  refine start_ (n := 13) (S := fun w' => w'.cell? (ad421.add (x15_4).toNat) = some (.int .i64 (rd t414 x15_4)) ∧ w'.cell? (ad422.add (x15_4).toNat) = some (.int .i64 (rd l1 x15_4))) (ds := []) #[false, false, false, false, false, false, false, false, false, false, false, false, false] (by kernel_rfl) rfl rfl ⟨hx423_0, ((HB.out.cell (World.block_lt_of_cell? w _ hw424_0)).trans hw424_0)⟩ (fun hHeld => ?_); refine with_tabW trishawlaw01_TurnTried.tab20 trishawlaw01_TurnTried.bits20 (fun HT_ HW_ => ?_)
                  generalize w90.drew = w92 at HO_13 BK409 BK413 HB hx423_0 hx424_0 hHeld ⊢
                  refine pu_ 0 132 HT_.out (h := ?_)
                  refine pu_ 1 133 HT_.out (h := ?_)
                  refine pu_ 2 134 HT_.out (h := ?_)
                  refine pu_ 4 136 HT_.out (h := ?_)
                  refine pu_ 5 137 HT_.out (h := ?_)
                  refine pu_ 6 138 HT_.out (h := ?_)
                  refine ta_ 3 135 HT_.out HW_.out hHeld (h := ?_)
                  refine ta_ 7 139 HT_.out HW_.out hHeld (h := ?_)
                  refine pu_ 8 140 HT_.out (h := ?_)
                  refine pu_ 9 141 HT_.out (h := ?_)
                  refine one_ (i := 10) (N := some 142) #[true, true, true, true, true, true, true, true, true, true, true, false, false] rfl rfl (one_of HT_.out (by kernel_rfl)) (by decide) (fun K hK => ?_)
                  refine goes_ Tryd.func17 (by kernel_rfl) rfl #[] (by rfl) rfl rfl (as_) ?_
                  with_reducible refine (trishawlaw01_alive.calls kj75  t425 _ A89.out (HN.out.of (bl_))).mono ?_
                  rintro e w93 ⟨rfl, hb⟩
                  have HS0_ := (hb.cell (World.block_lt_of_cell? _ _ (hHeld.1))).trans (hHeld.1)
                  refine ⟨_, rfl, ?_⟩
                  have n0_ := Aside0.mk (Kd.R_below (kr_ HO_13.out) hb)
                  have n1_ := Aside0.mk (blk_below (g := gb409) (o := .cells #[.int .i64 t406, .int .i64 t407] 26 (0, 0)) (bk_ BK409.out) hb)
                  have n2_ := Aside0.mk (blk_below (g := gb413) (o := .cells #[.int .i64 t410, .int .i64 t411] 26 (0, 0)) (bk_ BK413.out) hb)
                  have n3_ := Aside0.mk (below_step (bl_) hb)
                  clear HO_13
                  clear BK409
                  clear BK413
                  clear HB
                  have HO_13 := n0_
                  have BK409 := n1_
                  have BK413 := n2_
                  have HB := n3_
                  clear n0_ n1_ n2_ n3_
                  (try clear hb)
                  (try clear hb2)
                  (try clear hk)
                  (try clear hi)
                  refine hK.out _ _ ⟨HS0_, ((HB.out.cell (World.block_lt_of_cell? w _ hw424_0)).trans hw424_0)⟩ (fun hHeld => ?_)
                  clear hK K
                  refine norm_ (a' := ?_) ?_ ?_
                  rotate_left
                  ·show Act.put _ (some 142) _ = _
                   simp only [Act.put, List.setIfInBounds_toArray, List.set_cons_zero, List.set_cons_succ, i64_w, i32_w]
                   rfl
                  refine pu_ 11 143 HT_.out (h := ?_)
                  refine pu_ 12 4 HT_.out (h := ?_)
                  refine done_ (done_of HT_.out (by kernel_rfl)) ?_
                  try go_wp2
                  go_ret
                  exact ⟨by first | rfl | (simp [errW_none, errW_some] <;> rfl) | (simp [*, errW_none, errW_some] <;> rfl), bl_⟩
                 ·rw [if_neg c88] at H
                  have c88b0 : decide ((rd t414 x15_4) < (rd l1 x15_4)) = false := decide_eq_false c88
                  clear c88
                  exact absurd (Option.some.inj (H.trans (congrArg some hr.out))) (by decide)
               ·replace c81 := Bool.eq_false_iff.mpr c81
                subst c81
                have H1 : ((trishawlaw01_alive.f kj75).bind fun t426 => (some t426)) = some r := by rw [if_neg (show ¬ (false = true) by decide)] at H; exact H
                clear H
                have H := H1
                clear H1
                replace H := Option.bind_eq_some_iff.mp H
                obtain ⟨t426, A970, H⟩ := H
                replace H : (some t426) = some r := H
                have A97 := Aside0.mk A970
                clear A970
                obtain rfl := Option.some.inj H
                go_wp2_with (first | ((with_reducible refine gate_callee (f := 17) rfl ?_); refine goesL_ (some 144) rfl rfl Tryd.func17 (by kernel_rfl) rfl #[] rfl (as_) ?_; (with_reducible refine (trishawlaw01_alive.calls kj75  t426 _ A97.out (HN.out.of (bl_))).mono ?_); rintro e w98 ⟨rfl, hb⟩; refine ⟨_, rfl, ?_⟩; have n0_ := Aside0.mk (Kd.R_below (kr_ HO_13.out) hb); have n1_ := Aside0.mk (blk_below (g := gb409) (o := .cells #[.int .i64 t406, .int .i64 t407] 26 (0, 0)) (bk_ BK409.out) hb); have n2_ := Aside0.mk (blk_below (g := gb413) (o := .cells #[.int .i64 t410, .int .i64 t411] 26 (0, 0)) (bk_ BK413.out) hb); have n3_ := Aside0.mk (below_step (bl_) hb); clear HO_13; clear BK409; clear BK413; clear HB; have HO_13 := n0_; have BK409 := n1_; have BK413 := n2_; have HB := n3_; clear n0_ n1_ n2_ n3_; (try clear hb); (try clear hb2); (try clear hk); (try clear hi)))
                go_ret
                exact ⟨by first | rfl | (simp [errW_none, errW_some] <;> rfl) | (simp [*, errW_none, errW_some] <;> rfl), bl_⟩
       ·replace c27 := Bool.eq_false_iff.mpr c27
        subst c27
        have H1 : ((trishawlaw01_alive.f k2).bind fun t405 => (some t405)) = some r := by rw [if_neg (show ¬ (false = true) by decide)] at H; exact H
        clear H
        have H := H1
        clear H1
        replace H := Option.bind_eq_some_iff.mp H
        obtain ⟨t405, A990, H⟩ := H
        replace H : (some t405) = some r := H
        have A99 := Aside0.mk A990
        clear A990
        obtain rfl := Option.some.inj H
        obtain ⟨Ao100, co100, eo100⟩ := Kd.R_slice HO_7.out
        subst eo100
        go_wp2_with (first | ((with_reducible refine gate_callee (f := 22) rfl ?_); refine goesL_ (some 62) rfl rfl Tryd.func22 (by kernel_rfl) rfl #[.slice Ao100 x7_2.length co100, .slice A0 l0.length c0] rfl (as_) ?_; (with_reducible refine (trishawlaw01_same.calls k2 _ _ x7_2 _ _ l0 false _ ?side1 ?side2 ?side3 ?side4 A26.out).mono ?_); (case side1 => repeat (first | exact (Kd.R_reads' HO_7.out).2.2 | (with_reducible refine Kd.C_alloc ?_ _) | (with_reducible refine Kd.C_drewN ?_ _) | (with_reducible refine Kd.C_drew ?_))); (case side2 => exact (Kd.R_reads' HO_7.out).2.1); (case side3 => repeat (first | exact (Kd.C_below HR0.out HB.out) | (with_reducible refine Kd.C_alloc ?_ _) | (with_reducible refine Kd.C_drewN ?_ _) | (with_reducible refine Kd.C_drew ?_))); (case side4 => exact HC0.out); rintro e w' ⟨rfl, ⟨nd, rfl⟩⟩; refine ⟨_, rfl, ?_⟩) | ((with_reducible refine gate_callee (f := 17) rfl ?_); refine goesL_ (some 64) rfl rfl Tryd.func17 (by kernel_rfl) rfl #[] rfl (as_) ?_; (with_reducible refine (trishawlaw01_alive.calls k2  t405 _ A99.out (HN.out.of (bl_))).mono ?_); rintro e w101 ⟨rfl, hb⟩; refine ⟨_, rfl, ?_⟩; have n0_ := Aside0.mk (Kd.R_below (kr_ HO_7.out) hb); have n1_ := Aside0.mk (below_step (bl_) hb); clear HO_7; clear HB; have HO_7 := n0_; have HB := n1_; clear n0_ n1_; (try clear hb); (try clear hb2); (try clear hk); (try clear hi)))
        go_ret
        exact ⟨by first | rfl | (simp [errW_none, errW_some] <;> rfl) | (simp [*, errW_none, errW_some] <;> rfl), bl_⟩

/-- THE ONE PURE STATEMENT of trishawlaw01_TurnTried: yours. -/
def trishawlaw01_TurnTried.Pure : Prop := ∀ (l0 : List Int) (l1 : List Int), l0.length ≤ maxLen → l0.length * 8 ≤ 140737488351232 → (∀ x ∈ l0, (Lit.int .i64 x).wf = true) → l1.length ≤ maxLen → l1.length * 8 ≤ 140737488351232 → (∀ x ∈ l1, (Lit.int .i64 x).wf = true) → ∃ k, trishawlaw01_TurnTried.f k l0 l1 = some true
theorem trishawlaw01_TurnTried.walk (P : trishawlaw01_TurnTried.Pure) (a0 : Option Addr) (len0 cap0 : Nat) (z0 : List Int) (a1 : Option Addr) (len1 cap1 : Nat) (z1 : List Int) (w : World) (w0 : (a0 = none ∧ len0 = 0 ∧ cap0 = 0 ∧ z0 = []) ∨ ∃ x, a0 = some x ∧ len0 ≤ cap0 ∧ cap0 ≤ maxLen ∧ z0.length = cap0 ∧ (∀ i, i < z0.length → w.cell? (x.add i) = some (.int .i64 (z0.getD i 0))) ∧ ∀ n ∈ z0, (Lit.int .i64 n).wf = true) (y0 : len0 * 8 ≤ 140737488351232) (w1 : (a1 = none ∧ len1 = 0 ∧ cap1 = 0 ∧ z1 = []) ∨ ∃ x, a1 = some x ∧ len1 ≤ cap1 ∧ cap1 ≤ maxLen ∧ z1.length = cap1 ∧ (∀ i, i < z1.length → w.cell? (x.add i) = some (.int .i64 (z1.getD i 0))) ∧ ∀ n ∈ z1, (Lit.int .i64 n).wf = true) (y1 : len1 * 8 ≤ 140737488351232) (hN0 : NoneLaid w) :
    Calls Tryd.prog 4 #[.slice a0 len0 cap0, .slice a1 len1 cap1] w fun e w' => e = .returned (.bool true) ∧ Below w.heap.size w w' := by
 obtain ⟨l0, rfl, hr0, hm0, hw0, hc0⟩ := ReadsInt.ofRowC w0
 obtain ⟨l1, rfl, hr1, hm1, hw1, hc1⟩ := ReadsInt.ofRowC w1
 obtain ⟨k, h⟩ := P l0 l1 hm0 y0 hw0 hm1 y1 hw1
 refine (trishawlaw01_TurnTried.calls k _ _ l0 _ _ l1 true w (Kd.C_of_reads (d := (0 : Int)) (h1 := fun _ => rfl) hr0) hc0 (Kd.C_of_reads (d := (0 : Int)) (h1 := fun _ => rfl) hr1) hc1 h hN0 rfl).mono ?_
 rintro e w' ⟨rfl, hd⟩
 exact ⟨rfl, hd⟩

end Go.Proofs.YtgobffgogmnmpaaDoor.P
