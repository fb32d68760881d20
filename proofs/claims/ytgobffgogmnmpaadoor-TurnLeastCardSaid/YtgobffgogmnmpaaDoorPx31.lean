-- Written by wip/tools/myprint.py of this session's repo, over the kit's printer and hand texts.
import Derived.Test.YtgobffgogmnmpaaDoorPx0
import Derived.Test.YtgobffgogmnmpaaDoorPre
import Derived.Test.YtgobffgogmnmpaaDoorPx1
import Derived.Test.YtgobffgogmnmpaaDoorPx4
import Derived.Test.YtgobffgogmnmpaaDoorPx6
import Derived.Test.YtgobffgogmnmpaaDoorPx7
import Derived.Test.YtgobffgogmnmpaaDoorPx8
import Derived.Test.YtgobffgogmnmpaaDoorPx9
import Derived.Test.YtgobffgogmnmpaaDoorPx10
import Derived.Test.YtgobffgogmnmpaaDoorPx16
import Derived.Test.YtgobffgogmnmpaaDoorPx30
namespace Go.Proofs.YtgobffgogmnmpaaDoor.P
open Go.RowKit Go.Proofs.YtgobffgogmnmpaaDoorW.PrintWords Go.Proofs.YtgobffgogmnmpaaDoorW.PrintLast Go.Proofs.YtgobffgogmnmpaaDoorW.PrintMore
attribute [local go_sem] max2_int min2_int max_two min_two max_three min_three max_four min_four   -- for this text's walks alone
set_option linter.unusedVariables false
set_option linter.unusedSimpArgs false

attribute [local go_sem high] eqA26
/-! ### trishawlaw01_TurnLeast: function 12 -/
mutual
def trishawlaw01_TurnLeast.j0 : Nat → List Int → Int → Bool → Option (Bool)
  | 0, _, _, _ => none
  | k + 1, x0, x3, x28 => if x28 = true then ((trishawlaw01_alive.f k).bind fun t771 => (some t771)) else ((turn_Least.f k x0).bind fun bt772 => ((turn_Round.f k x0).bind fun bt776 => ((turn_Deviation.f k x0 bt776.1).bind fun bt780 => (if bt772.2.2 = 0 then (if bt776.2 = 0 then (if bt780.2.2 = 0 then ((trishawlaw01_small.f bt772.1 bt772.2.1).bind fun t784 => (if t784 = true then (if (!(bt780.1 == bt772.1) || (!(bt780.2.1 == bt772.2.1))) = true then (trishawlaw01_TurnLeast.j1 k x0 x3 bt776.1 true bt772.1 bt772.2.1) else (if bt772.2.1 = 0 then (none) else (if (Int.tmod x3 bt772.2.1) = 0 then (trishawlaw01_TurnLeast.j1 k x0 x3 bt776.1 ((bt776.1.length : Int) != x3) bt772.1 bt772.2.1) else (trishawlaw01_TurnLeast.j1 k x0 x3 bt776.1 true bt772.1 bt772.2.1)))) else (trishawlaw01_TurnLeast.j1 k x0 x3 bt776.1 true bt772.1 bt772.2.1))) else (trishawlaw01_TurnLeast.j1 k x0 x3 bt776.1 true bt772.1 bt772.2.1)) else (trishawlaw01_TurnLeast.j1 k x0 x3 bt776.1 true bt772.1 bt772.2.1)) else (trishawlaw01_TurnLeast.j1 k x0 x3 bt776.1 true bt772.1 bt772.2.1)))))
def trishawlaw01_TurnLeast.j1 : Nat → List Int → Int → List Int → Bool → Int → Int → Option (Bool)
  | 0, _, _, _, _, _, _ => none
  | k + 1, x0, x3, x7, x78, x776000, x776001 => if x78 = true then (some false) else (if 0 ≤ (x0.length : Int) then (if ((x0.length : Int) : Int).toNat ≤ 35184372088832 then (trishawlaw01_TurnLeast.l0 k x0 x3 x7 0 (List.replicate ((x0.length : Int) : Int).toNat 0) 0 x776000 x776001) else (none)) else (none))
def trishawlaw01_TurnLeast.l0 : Nat → List Int → Int → List Int → Int → List Int → Int → Int → Int → Option (Bool)
  | 0, _, _, _, _, _, _, _, _ => none
  | k + 1, x0, x3, x7, x11, x12, x13, x776000, x776001 => if x13 < (x0.length : Int) then (if 0 ≤ x13 then (trishawlaw01_TurnLeast.l0 k x0 x3 x7 (mx x11 (rd x0 x13)) x12 (wrap64 (x13 + 1)) x776000 x776001) else (none)) else (trishawlaw01_TurnLeast.l1 k x0 x3 x7 x11 x12 0 x776000 x776001)
def trishawlaw01_TurnLeast.l1 : Nat → List Int → Int → List Int → Int → List Int → Int → Int → Int → Option (Bool)
  | 0, _, _, _, _, _, _, _, _ => none
  | k + 1, x0, x3, x7, x11, x12, x14, x776000, x776001 => if x14 < x3 then (if 0 ≤ x14 then (if x14 < (x7.length : Int) then (if (rd x7 x14) < 0 then (some false) else (if (rd x7 x14) ≥ (x0.length : Int) then (some false) else (if 0 ≤ (rd x7 x14) then (if (rd x7 x14) < (x12.length : Int) then (trishawlaw01_TurnLeast.l1 k x0 x3 x7 x11 (x12.set ((rd x7 x14) : Int).toNat (wrap64 ((rd x12 (rd x7 x14)) + 1))) (wrap64 (x14 + 1)) x776000 x776001) else (none)) else (none)))) else (none)) else (none)) else (if x776001 = 0 then (none) else (if (wrap64 (x776000 * (wrap64 (Int.tdiv x3 x776001)))) < (wrap64 (x3 - x11)) then (trishawlaw01_TurnLeast.j4 k x0 x3 (wrap64 (x776000 * (wrap64 (Int.tdiv x3 x776001)))) true x776000 x776001) else ((trishawlaw01_same.f k x12 x0).bind fun t794 => (if t794 = true then (if (x0.length : Int) > 1 then ((trishawlaw01_atMost.f x776000 x776001 (wrap64 ((wrap64 (2 * (x0.length : Int))) - 3)) (wrap64 ((wrap64 (2 * (x0.length : Int))) - 2))).bind fun t795 => (trishawlaw01_TurnLeast.j4 k x0 x3 (wrap64 (x776000 * (wrap64 (Int.tdiv x3 x776001)))) (!t795) x776000 x776001)) else (trishawlaw01_TurnLeast.j4 k x0 x3 (wrap64 (x776000 * (wrap64 (Int.tdiv x3 x776001)))) false x776000 x776001)) else (trishawlaw01_TurnLeast.j4 k x0 x3 (wrap64 (x776000 * (wrap64 (Int.tdiv x3 x776001)))) true x776000 x776001)))))
def trishawlaw01_TurnLeast.j4 : Nat → List Int → Int → Int → Bool → Int → Int → Option (Bool)
  | 0, _, _, _, _, _, _ => none
  | k + 1, x0, x3, x15, x158, x776000, x776001 => if x158 = true then (some false) else ((turn_Feasible.f k x0 x776000 x776001).bind fun bt796 => (if bt796.2 = 0 then (trishawlaw01_TurnLeast.j5 k x0 x3 x15 (!bt796.1)) else (trishawlaw01_TurnLeast.j5 k x0 x3 x15 true)))
def trishawlaw01_TurnLeast.j5 : Nat → List Int → Int → Int → Bool → Option (Bool)
  | 0, _, _, _, _ => none
  | k + 1, x0, x3, x15, x170 => if x170 = true then (some false) else (if x15 = 0 then (if (x0.length : Int) = 1 then ((trishawlaw01_alive.f k).bind fun t798 => (some t798)) else (some false)) else ((trishawref01_Ratio.f k (wrap64 (x15 - 1)) x3).bind fun bt799 => ((turn_Feasible.f k x0 bt799.1 bt799.2).bind fun bt801 => (if bt801.2 = 0 then (if bt801.1 = true then (some false) else ((trishawlaw01_alive.f k).bind fun t803 => (some t803))) else (some false)))))
end
def trishawlaw01_TurnLeast.f (k : Nat) (l0 : List Int) : Option (Bool) := (trishawref01_Shares.f k l0).bind fun bt769 => (if (l0.length : Int) > 30 then (trishawlaw01_TurnLeast.j0 k l0 bt769.1 true) else (trishawlaw01_TurnLeast.j0 k l0 bt769.1 (bt769.2 != 0)))
theorem trishawlaw01_TurnLeast.mono_l : ∀ k, (∀ y0 y1 y2, LeO (trishawlaw01_TurnLeast.j0 k y0 y1 y2) (trishawlaw01_TurnLeast.j0 (k + 1) y0 y1 y2)) ∧ (∀ y0 y1 y2 y3 y4 y5, LeO (trishawlaw01_TurnLeast.j1 k y0 y1 y2 y3 y4 y5) (trishawlaw01_TurnLeast.j1 (k + 1) y0 y1 y2 y3 y4 y5)) ∧ (∀ y0 y1 y2 y3 y4 y5 y6 y7, LeO (trishawlaw01_TurnLeast.l0 k y0 y1 y2 y3 y4 y5 y6 y7) (trishawlaw01_TurnLeast.l0 (k + 1) y0 y1 y2 y3 y4 y5 y6 y7)) ∧ (∀ y0 y1 y2 y3 y4 y5 y6 y7, LeO (trishawlaw01_TurnLeast.l1 k y0 y1 y2 y3 y4 y5 y6 y7) (trishawlaw01_TurnLeast.l1 (k + 1) y0 y1 y2 y3 y4 y5 y6 y7)) ∧ (∀ y0 y1 y2 y3 y4 y5, LeO (trishawlaw01_TurnLeast.j4 k y0 y1 y2 y3 y4 y5) (trishawlaw01_TurnLeast.j4 (k + 1) y0 y1 y2 y3 y4 y5)) ∧ (∀ y0 y1 y2 y3, LeO (trishawlaw01_TurnLeast.j5 k y0 y1 y2 y3) (trishawlaw01_TurnLeast.j5 (k + 1) y0 y1 y2 y3))
  | 0 => ⟨fun _ _ _ r h => by simp [trishawlaw01_TurnLeast.j0] at h, fun _ _ _ _ _ _ r h => by simp [trishawlaw01_TurnLeast.j1] at h, fun _ _ _ _ _ _ _ _ r h => by simp [trishawlaw01_TurnLeast.l0] at h, fun _ _ _ _ _ _ _ _ r h => by simp [trishawlaw01_TurnLeast.l1] at h, fun _ _ _ _ _ _ r h => by simp [trishawlaw01_TurnLeast.j4] at h, fun _ _ _ _ r h => by simp [trishawlaw01_TurnLeast.j5] at h⟩
  | k + 1 => by
    obtain ⟨ih0, ih1, ih2, ih3, ih4, ih5⟩ := trishawlaw01_TurnLeast.mono_l k
    refine ⟨?_, ?_, ?_, ?_, ?_, ?_⟩
    · intro y0 y1 y2
      unfold trishawlaw01_TurnLeast.j0
      repeat' first
      | (with_reducible exact ih0 _ _ _)
      | (with_reducible exact ih1 _ _ _ _ _ _)
      | (with_reducible exact ih2 _ _ _ _ _ _ _ _)
      | (with_reducible exact ih3 _ _ _ _ _ _ _ _)
      | (with_reducible exact ih4 _ _ _ _ _ _)
      | (with_reducible exact ih5 _ _ _ _)
      | (with_reducible exact trishawlaw01_alive.mono _)
      | (with_reducible exact trishawlaw01_same.mono _ _ _)
      | (with_reducible exact trishawref01_Ratio.mono _ _ _)
      | (with_reducible exact trishawref01_Shares.mono _ _)
      | (with_reducible exact turn_Deviation.mono _ _ _)
      | (with_reducible exact turn_Feasible.mono _ _ _ _)
      | (with_reducible exact turn_Least.mono _ _)
      | (with_reducible exact turn_Round.mono _ _)
      | (with_reducible exact LeO.refl _)
      | (with_reducible exact LeO.none _)
      | (with_reducible refine LeO.ite ?_ ?_)
      | (with_reducible refine LeO.bind ?_ (fun _ => ?_))
      | exact ih0 _ _ _
      | exact ih1 _ _ _ _ _ _
      | exact ih2 _ _ _ _ _ _ _ _
      | exact ih3 _ _ _ _ _ _ _ _
      | exact ih4 _ _ _ _ _ _
      | exact ih5 _ _ _ _
      | exact trishawlaw01_alive.mono _
      | exact trishawlaw01_same.mono _ _ _
      | exact trishawref01_Ratio.mono _ _ _
      | exact trishawref01_Shares.mono _ _
      | exact turn_Deviation.mono _ _ _
      | exact turn_Feasible.mono _ _ _ _
      | exact turn_Least.mono _ _
      | exact turn_Round.mono _ _
      | exact LeO.none _
      | refine LeO.ite ?_ ?_
      | refine LeO.bind ?_ (fun _ => ?_)
    · intro y0 y1 y2 y3 y4 y5
      unfold trishawlaw01_TurnLeast.j1
      repeat' first
      | (with_reducible exact ih0 _ _ _)
      | (with_reducible exact ih1 _ _ _ _ _ _)
      | (with_reducible exact ih2 _ _ _ _ _ _ _ _)
      | (with_reducible exact ih3 _ _ _ _ _ _ _ _)
      | (with_reducible exact ih4 _ _ _ _ _ _)
      | (with_reducible exact ih5 _ _ _ _)
      | (with_reducible exact trishawlaw01_alive.mono _)
      | (with_reducible exact trishawlaw01_same.mono _ _ _)
      | (with_reducible exact trishawref01_Ratio.mono _ _ _)
      | (with_reducible exact trishawref01_Shares.mono _ _)
      | (with_reducible exact turn_Deviation.mono _ _ _)
      | (with_reducible exact turn_Feasible.mono _ _ _ _)
      | (with_reducible exact turn_Least.mono _ _)
      | (with_reducible exact turn_Round.mono _ _)
      | (with_reducible exact LeO.refl _)
      | (with_reducible exact LeO.none _)
      | (with_reducible refine LeO.ite ?_ ?_)
      | (with_reducible refine LeO.bind ?_ (fun _ => ?_))
      | exact ih0 _ _ _
      | exact ih1 _ _ _ _ _ _
      | exact ih2 _ _ _ _ _ _ _ _
      | exact ih3 _ _ _ _ _ _ _ _
      | exact ih4 _ _ _ _ _ _
      | exact ih5 _ _ _ _
      | exact trishawlaw01_alive.mono _
      | exact trishawlaw01_same.mono _ _ _
      | exact trishawref01_Ratio.mono _ _ _
      | exact trishawref01_Shares.mono _ _
      | exact turn_Deviation.mono _ _ _
      | exact turn_Feasible.mono _ _ _ _
      | exact turn_Least.mono _ _
      | exact turn_Round.mono _ _
      | exact LeO.none _
      | refine LeO.ite ?_ ?_
      | refine LeO.bind ?_ (fun _ => ?_)
    · intro y0 y1 y2 y3 y4 y5 y6 y7
      unfold trishawlaw01_TurnLeast.l0
      repeat' first
      | (with_reducible exact ih0 _ _ _)
      | (with_reducible exact ih1 _ _ _ _ _ _)
      | (with_reducible exact ih2 _ _ _ _ _ _ _ _)
      | (with_reducible exact ih3 _ _ _ _ _ _ _ _)
      | (with_reducible exact ih4 _ _ _ _ _ _)
      | (with_reducible exact ih5 _ _ _ _)
      | (with_reducible exact trishawlaw01_alive.mono _)
      | (with_reducible exact trishawlaw01_same.mono _ _ _)
      | (with_reducible exact trishawref01_Ratio.mono _ _ _)
      | (with_reducible exact trishawref01_Shares.mono _ _)
      | (with_reducible exact turn_Deviation.mono _ _ _)
      | (with_reducible exact turn_Feasible.mono _ _ _ _)
      | (with_reducible exact turn_Least.mono _ _)
      | (with_reducible exact turn_Round.mono _ _)
      | (with_reducible exact LeO.refl _)
      | (with_reducible exact LeO.none _)
      | (with_reducible refine LeO.ite ?_ ?_)
      | (with_reducible refine LeO.bind ?_ (fun _ => ?_))
      | exact ih0 _ _ _
      | exact ih1 _ _ _ _ _ _
      | exact ih2 _ _ _ _ _ _ _ _
      | exact ih3 _ _ _ _ _ _ _ _
      | exact ih4 _ _ _ _ _ _
      | exact ih5 _ _ _ _
      | exact trishawlaw01_alive.mono _
      | exact trishawlaw01_same.mono _ _ _
      | exact trishawref01_Ratio.mono _ _ _
      | exact trishawref01_Shares.mono _ _
      | exact turn_Deviation.mono _ _ _
      | exact turn_Feasible.mono _ _ _ _
      | exact turn_Least.mono _ _
      | exact turn_Round.mono _ _
      | exact LeO.none _
      | refine LeO.ite ?_ ?_
      | refine LeO.bind ?_ (fun _ => ?_)
    · intro y0 y1 y2 y3 y4 y5 y6 y7
      unfold trishawlaw01_TurnLeast.l1
      repeat' first
      | (with_reducible exact ih0 _ _ _)
      | (with_reducible exact ih1 _ _ _ _ _ _)
      | (with_reducible exact ih2 _ _ _ _ _ _ _ _)
      | (with_reducible exact ih3 _ _ _ _ _ _ _ _)
      | (with_reducible exact ih4 _ _ _ _ _ _)
      | (with_reducible exact ih5 _ _ _ _)
      | (with_reducible exact trishawlaw01_alive.mono _)
      | (with_reducible exact trishawlaw01_same.mono _ _ _)
      | (with_reducible exact trishawref01_Ratio.mono _ _ _)
      | (with_reducible exact trishawref01_Shares.mono _ _)
      | (with_reducible exact turn_Deviation.mono _ _ _)
      | (with_reducible exact turn_Feasible.mono _ _ _ _)
      | (with_reducible exact turn_Least.mono _ _)
      | (with_reducible exact turn_Round.mono _ _)
      | (with_reducible exact LeO.refl _)
      | (with_reducible exact LeO.none _)
      | (with_reducible refine LeO.ite ?_ ?_)
      | (with_reducible refine LeO.bind ?_ (fun _ => ?_))
      | exact ih0 _ _ _
      | exact ih1 _ _ _ _ _ _
      | exact ih2 _ _ _ _ _ _ _ _
      | exact ih3 _ _ _ _ _ _ _ _
      | exact ih4 _ _ _ _ _ _
      | exact ih5 _ _ _ _
      | exact trishawlaw01_alive.mono _
      | exact trishawlaw01_same.mono _ _ _
      | exact trishawref01_Ratio.mono _ _ _
      | exact trishawref01_Shares.mono _ _
      | exact turn_Deviation.mono _ _ _
      | exact turn_Feasible.mono _ _ _ _
      | exact turn_Least.mono _ _
      | exact turn_Round.mono _ _
      | exact LeO.none _
      | refine LeO.ite ?_ ?_
      | refine LeO.bind ?_ (fun _ => ?_)
    · intro y0 y1 y2 y3 y4 y5
      unfold trishawlaw01_TurnLeast.j4
      repeat' first
      | (with_reducible exact ih0 _ _ _)
      | (with_reducible exact ih1 _ _ _ _ _ _)
      | (with_reducible exact ih2 _ _ _ _ _ _ _ _)
      | (with_reducible exact ih3 _ _ _ _ _ _ _ _)
      | (with_reducible exact ih4 _ _ _ _ _ _)
      | (with_reducible exact ih5 _ _ _ _)
      | (with_reducible exact trishawlaw01_alive.mono _)
      | (with_reducible exact trishawlaw01_same.mono _ _ _)
      | (with_reducible exact trishawref01_Ratio.mono _ _ _)
      | (with_reducible exact trishawref01_Shares.mono _ _)
      | (with_reducible exact turn_Deviation.mono _ _ _)
      | (with_reducible exact turn_Feasible.mono _ _ _ _)
      | (with_reducible exact turn_Least.mono _ _)
      | (with_reducible exact turn_Round.mono _ _)
      | (with_reducible exact LeO.refl _)
      | (with_reducible exact LeO.none _)
      | (with_reducible refine LeO.ite ?_ ?_)
      | (with_reducible refine LeO.bind ?_ (fun _ => ?_))
      | exact ih0 _ _ _
      | exact ih1 _ _ _ _ _ _
      | exact ih2 _ _ _ _ _ _ _ _
      | exact ih3 _ _ _ _ _ _ _ _
      | exact ih4 _ _ _ _ _ _
      | exact ih5 _ _ _ _
      | exact trishawlaw01_alive.mono _
      | exact trishawlaw01_same.mono _ _ _
      | exact trishawref01_Ratio.mono _ _ _
      | exact trishawref01_Shares.mono _ _
      | exact turn_Deviation.mono _ _ _
      | exact turn_Feasible.mono _ _ _ _
      | exact turn_Least.mono _ _
      | exact turn_Round.mono _ _
      | exact LeO.none _
      | refine LeO.ite ?_ ?_
      | refine LeO.bind ?_ (fun _ => ?_)
    · intro y0 y1 y2 y3
      unfold trishawlaw01_TurnLeast.j5
      repeat' first
      | (with_reducible exact ih0 _ _ _)
      | (with_reducible exact ih1 _ _ _ _ _ _)
      | (with_reducible exact ih2 _ _ _ _ _ _ _ _)
      | (with_reducible exact ih3 _ _ _ _ _ _ _ _)
      | (with_reducible exact ih4 _ _ _ _ _ _)
      | (with_reducible exact ih5 _ _ _ _)
      | (with_reducible exact trishawlaw01_alive.mono _)
      | (with_reducible exact trishawlaw01_same.mono _ _ _)
      | (with_reducible exact trishawref01_Ratio.mono _ _ _)
      | (with_reducible exact trishawref01_Shares.mono _ _)
      | (with_reducible exact turn_Deviation.mono _ _ _)
      | (with_reducible exact turn_Feasible.mono _ _ _ _)
      | (with_reducible exact turn_Least.mono _ _)
      | (with_reducible exact turn_Round.mono _ _)
      | (with_reducible exact LeO.refl _)
      | (with_reducible exact LeO.none _)
      | (with_reducible refine LeO.ite ?_ ?_)
      | (with_reducible refine LeO.bind ?_ (fun _ => ?_))
      | exact ih0 _ _ _
      | exact ih1 _ _ _ _ _ _
      | exact ih2 _ _ _ _ _ _ _ _
      | exact ih3 _ _ _ _ _ _ _ _
      | exact ih4 _ _ _ _ _ _
      | exact ih5 _ _ _ _
      | exact trishawlaw01_alive.mono _
      | exact trishawlaw01_same.mono _ _ _
      | exact trishawref01_Ratio.mono _ _ _
      | exact trishawref01_Shares.mono _ _
      | exact turn_Deviation.mono _ _ _
      | exact turn_Feasible.mono _ _ _ _
      | exact turn_Least.mono _ _
      | exact turn_Round.mono _ _
      | exact LeO.none _
      | refine LeO.ite ?_ ?_
      | refine LeO.bind ?_ (fun _ => ?_)
theorem trishawlaw01_TurnLeast.mono : ∀ a0 k, LeO (trishawlaw01_TurnLeast.f k a0) (trishawlaw01_TurnLeast.f (k + 1) a0) := by
  intro a0 k
  obtain ⟨ih0, ih1, ih2, ih3, ih4, ih5⟩ := trishawlaw01_TurnLeast.mono_l k
  unfold trishawlaw01_TurnLeast.f
  repeat' first
      | (with_reducible exact ih0 _ _ _)
      | (with_reducible exact ih1 _ _ _ _ _ _)
      | (with_reducible exact ih2 _ _ _ _ _ _ _ _)
      | (with_reducible exact ih3 _ _ _ _ _ _ _ _)
      | (with_reducible exact ih4 _ _ _ _ _ _)
      | (with_reducible exact ih5 _ _ _ _)
      | (with_reducible exact trishawlaw01_alive.mono _)
      | (with_reducible exact trishawlaw01_same.mono _ _ _)
      | (with_reducible exact trishawref01_Ratio.mono _ _ _)
      | (with_reducible exact trishawref01_Shares.mono _ _)
      | (with_reducible exact turn_Deviation.mono _ _ _)
      | (with_reducible exact turn_Feasible.mono _ _ _ _)
      | (with_reducible exact turn_Least.mono _ _)
      | (with_reducible exact turn_Round.mono _ _)
      | (with_reducible exact LeO.refl _)
      | (with_reducible exact LeO.none _)
      | (with_reducible refine LeO.ite ?_ ?_)
      | (with_reducible refine LeO.bind ?_ (fun _ => ?_))
      | exact ih0 _ _ _
      | exact ih1 _ _ _ _ _ _
      | exact ih2 _ _ _ _ _ _ _ _
      | exact ih3 _ _ _ _ _ _ _ _
      | exact ih4 _ _ _ _ _ _
      | exact ih5 _ _ _ _
      | exact trishawlaw01_alive.mono _
      | exact trishawlaw01_same.mono _ _ _
      | exact trishawref01_Ratio.mono _ _ _
      | exact trishawref01_Shares.mono _ _
      | exact turn_Deviation.mono _ _ _
      | exact turn_Feasible.mono _ _ _ _
      | exact turn_Least.mono _ _
      | exact turn_Round.mono _ _
      | exact LeO.none _
      | refine LeO.ite ?_ ?_
      | refine LeO.bind ?_ (fun _ => ?_)
set_option maxHeartbeats 8000000 in
set_option maxRecDepth 100000 in
theorem trishawlaw01_TurnLeast.calls (k : Nat) (A0 : Option Addr) (c0 : Nat) (l0 : List Int) (r : Bool) (w : World) (hr0 : Kd.C (Kd.int .i64) w A0 l0.length l0) (hc0 : l0.length ≤ c0) (h : trishawlaw01_TurnLeast.f k l0 = some r) (hN0 : NoneLaid w) (hr_ : r = true) :
    Calls Tryd.prog 12 #[.slice A0 l0.length c0] w fun e w' => e = .returned (.bool r) ∧ Below w.heap.size w w' := by
 have HN := Aside0.mk hN0
 clear hN0
 have hr := Aside0.mk hr_
 clear hr_
 have hu26 := Tryd.underlying26
 have HR0 := Aside0.mk hr0
 have HC0 := Aside0.mk hc0
 clear hr0 hc0
 have HB := Aside0.mk (Below.refl w.heap.size w)
 have H : ((trishawref01_Shares.f k l0).bind fun bt769 => (if (l0.length : Int) > 30 then (trishawlaw01_TurnLeast.j0 k l0 bt769.1 true) else (trishawlaw01_TurnLeast.j0 k l0 bt769.1 (bt769.2 != 0)))) = some r := h
 clear h
 replace H := Option.bind_eq_some_iff.mp H
 obtain ⟨⟨t769, t770⟩, A20, H⟩ := H
 replace H : (if (l0.length : Int) > 30 then (trishawlaw01_TurnLeast.j0 k l0 t769 true) else (trishawlaw01_TurnLeast.j0 k l0 t769 (t770 != 0))) = some r := H
 have A2 := Aside0.mk A20
 clear A20
 have HC3 := Aside0.mk H
 clear H
 go_enter Tryd.func12, Tryd.ntmps12
 go_upto_region 2 with (first | (go_at_call 23; (with_reducible refine (trishawref01_Shares.calls k _ _ l0 t769 t770 _ ?side1 ?side2 A2.out).mono ?_); (case side1 => repeat (first | exact HR0.out | (with_reducible refine Kd.C_alloc ?_ _) | (with_reducible refine Kd.C_drewN ?_ _) | (with_reducible refine Kd.C_drew ?_))); (case side2 => exact HC0.out); rintro e w' ⟨rfl, ⟨nd, rfl⟩⟩; (try first | exact ⟨rfl, _, World.drewN_drewN _ _ _⟩ | exact ⟨rfl, _, Eq.trans (World.drewN_drewN _ _ _) (congrArg (World.drewN _) (Nat.add_assoc _ _ _))⟩)))
 repeat (go_quiet (first | (go_at_call 23; (with_reducible refine (trishawref01_Shares.calls k _ _ l0 t769 t770 _ ?side1 ?side2 A2.out).mono ?_); (case side1 => repeat (first | exact HR0.out | (with_reducible refine Kd.C_alloc ?_ _) | (with_reducible refine Kd.C_drewN ?_ _) | (with_reducible refine Kd.C_drew ?_))); (case side2 => exact HC0.out); rintro e w' ⟨rfl, ⟨nd, rfl⟩⟩; (try first | exact ⟨rfl, _, World.drewN_drewN _ _ _⟩ | exact ⟨rfl, _, Eq.trans (World.drewN_drewN _ _ _) (congrArg (World.drewN _) (Nat.add_assoc _ _ _))⟩))); go_upto_region 2 with (first | (go_at_call 23; (with_reducible refine (trishawref01_Shares.calls k _ _ l0 t769 t770 _ ?side1 ?side2 A2.out).mono ?_); (case side1 => repeat (first | exact HR0.out | (with_reducible refine Kd.C_alloc ?_ _) | (with_reducible refine Kd.C_drewN ?_ _) | (with_reducible refine Kd.C_drew ?_))); (case side2 => exact HC0.out); rintro e w' ⟨rfl, ⟨nd, rfl⟩⟩; (try first | exact ⟨rfl, _, World.drewN_drewN _ _ _⟩ | exact ⟨rfl, _, Eq.trans (World.drewN_drewN _ _ _) (congrArg (World.drewN _) (Nat.add_assoc _ _ _))⟩))))
 (try simp only [Act.put, List.setIfInBounds_toArray, List.set_cons_zero, List.set_cons_succ])
 go_cut [28] (fun v28 wc => ∃ (kq : Nat) (x28_2 : Bool), v28 = .bool x28_2 ∧ Aside0 (trishawlaw01_TurnLeast.j0 kq l0 t769 x28_2 = some r) ∧ Aside0 (kq ≤ k) ∧ Aside0 (Below w.heap.size w wc))
 case first =>
  have H := HC3.out
  clear HC3
  by_cases c4 : (l0.length : Int) > 30
  ·rw [if_pos c4] at H
   have c4b0 : decide (30 < (l0.length : Int)) = true := decide_eq_true c4
   have c4b1 : decide (30 < l0.length) = true := decide_eq_true (by omega)
   clear c4
   (first | rw [c4b0] | (simp only [i64_w, i32_w]; rw [c4b0]) | skip)
   have H' := Aside0.mk H
   clear H
   go_wp2
   repeat (go_quiet (fail); try go_wp2)
   go_meet
   case rel => exact ⟨_, (true), (by first | rfl | (simp; done) | (simp [*]; done)), H', ⟨by first | omega | exact Nat.le_refl _⟩, ⟨bl_⟩⟩
  ·rw [if_neg c4] at H
   have c4b0 : decide (30 < (l0.length : Int)) = false := decide_eq_false c4
   have c4b1 : decide (30 < l0.length) = false := decide_eq_false (by omega)
   clear c4
   (first | rw [c4b0] | (simp only [i64_w, i32_w]; rw [c4b0]) | skip)
   have H' := Aside0.mk H
   clear H
   go_wp2
   repeat (go_quiet (fail); try go_wp2)
   go_meet
   case rel => exact ⟨_, ((t770 != 0)), (by first | rfl | (simp; done) | (simp [*]; done)), H', ⟨by first | omega | exact Nat.le_refl _⟩, ⟨bl_⟩⟩
 case rest =>
  clear HC3
  try clear c1
  try clear p2
  try clear c4
  try clear c4b0
  try clear c4b1
  obtain ⟨kq, x28_2, rfl, HA, HJ2, HB⟩ := hcut
  cases kq with
  | zero => exact absurd HA.out (by simp [trishawlaw01_TurnLeast.j0])
  | succ kj2 =>
   have H := HA.out
   clear HA
   simp only [trishawlaw01_TurnLeast.j0] at H
   by_cases c5 : x28_2 = true
   ·subst c5
    have H1 : ((trishawlaw01_alive.f kj2).bind fun t771 => (some t771)) = some r := by rw [if_pos rfl] at H; exact H
    clear H
    have H := H1
    clear H1
    replace H := Option.bind_eq_some_iff.mp H
    obtain ⟨t771, A60, H⟩ := H
    replace H : (some t771) = some r := H
    have A6 := Aside0.mk A60
    clear A60
    obtain rfl := Option.some.inj H
    go_wp2_with (first | (go_at_call 17; (with_reducible refine (trishawlaw01_alive.calls kj2  t771 _ A6.out (HN.out.of (bl_))).mono ?_); rintro e w7 ⟨rfl, hb⟩; have n0_ := Aside0.mk (below_step (bl_) hb); clear HB; have HB := n0_; clear n0_; (try clear hb); (try clear hb2); (try clear hk); (try clear hi)))
    repeat (go_quiet (first | (go_at_call 17; (with_reducible refine (trishawlaw01_alive.calls kj2  t771 _ A6.out (HN.out.of (bl_))).mono ?_); rintro e w7 ⟨rfl, hb⟩; have n0_ := Aside0.mk (below_step (bl_) hb); clear HB; have HB := n0_; clear n0_; (try clear hb); (try clear hb2); (try clear hk); (try clear hi))); try go_wp2_with (first | (go_at_call 17; (with_reducible refine (trishawlaw01_alive.calls kj2  t771 _ A6.out (HN.out.of (bl_))).mono ?_); rintro e w7 ⟨rfl, hb⟩; have n0_ := Aside0.mk (below_step (bl_) hb); clear HB; have HB := n0_; clear n0_; (try clear hb); (try clear hb2); (try clear hk); (try clear hi))))
    go_ret
    exact ⟨by first | rfl | (simp [errW_none, errW_some] <;> rfl) | (simp [*, errW_none, errW_some] <;> rfl), bl_⟩
   ·replace c5 := Bool.eq_false_iff.mpr c5
    subst c5
    have H1 : ((turn_Least.f kj2 l0).bind fun bt772 => ((turn_Round.f kj2 l0).bind fun bt776 => ((turn_Deviation.f kj2 l0 bt776.1).bind fun bt780 => (if bt772.2.2 = 0 then (if bt776.2 = 0 then (if bt780.2.2 = 0 then ((trishawlaw01_small.f bt772.1 bt772.2.1).bind fun t784 => (if t784 = true then (if (!(bt780.1 == bt772.1) || (!(bt780.2.1 == bt772.2.1))) = true then (trishawlaw01_TurnLeast.j1 kj2 l0 t769 bt776.1 true bt772.1 bt772.2.1) else (if bt772.2.1 = 0 then (none) else (if (Int.tmod t769 bt772.2.1) = 0 then (trishawlaw01_TurnLeast.j1 kj2 l0 t769 bt776.1 ((bt776.1.length : Int) != t769) bt772.1 bt772.2.1) else (trishawlaw01_TurnLeast.j1 kj2 l0 t769 bt776.1 true bt772.1 bt772.2.1)))) else (trishawlaw01_TurnLeast.j1 kj2 l0 t769 bt776.1 true bt772.1 bt772.2.1))) else (trishawlaw01_TurnLeast.j1 kj2 l0 t769 bt776.1 true bt772.1 bt772.2.1)) else (trishawlaw01_TurnLeast.j1 kj2 l0 t769 bt776.1 true bt772.1 bt772.2.1)) else (trishawlaw01_TurnLeast.j1 kj2 l0 t769 bt776.1 true bt772.1 bt772.2.1))))) = some r := by rw [if_neg (show ¬ (false = true) by decide)] at H; exact H
    clear H
    have H := H1
    clear H1
    replace H := Option.bind_eq_some_iff.mp H
    obtain ⟨⟨t772, t773, t774⟩, A80, H⟩ := H
    replace H : ((turn_Round.f kj2 l0).bind fun bt776 => ((turn_Deviation.f kj2 l0 bt776.1).bind fun bt780 => (if t774 = 0 then (if bt776.2 = 0 then (if bt780.2.2 = 0 then ((trishawlaw01_small.f t772 t773).bind fun t784 => (if t784 = true then (if (!(bt780.1 == t772) || (!(bt780.2.1 == t773))) = true then (trishawlaw01_TurnLeast.j1 kj2 l0 t769 bt776.1 true t772 t773) else (if t773 = 0 then (none) else (if (Int.tmod t769 t773) = 0 then (trishawlaw01_TurnLeast.j1 kj2 l0 t769 bt776.1 ((bt776.1.length : Int) != t769) t772 t773) else (trishawlaw01_TurnLeast.j1 kj2 l0 t769 bt776.1 true t772 t773)))) else (trishawlaw01_TurnLeast.j1 kj2 l0 t769 bt776.1 true t772 t773))) else (trishawlaw01_TurnLeast.j1 kj2 l0 t769 bt776.1 true t772 t773)) else (trishawlaw01_TurnLeast.j1 kj2 l0 t769 bt776.1 true t772 t773)) else (trishawlaw01_TurnLeast.j1 kj2 l0 t769 bt776.1 true t772 t773)))) = some r := H
    have A8 := Aside0.mk A80
    clear A80
    replace H := Option.bind_eq_some_iff.mp H
    obtain ⟨⟨t776, t777⟩, A90, H⟩ := H
    replace H : ((turn_Deviation.f kj2 l0 t776).bind fun bt780 => (if t774 = 0 then (if t777 = 0 then (if bt780.2.2 = 0 then ((trishawlaw01_small.f t772 t773).bind fun t784 => (if t784 = true then (if (!(bt780.1 == t772) || (!(bt780.2.1 == t773))) = true then (trishawlaw01_TurnLeast.j1 kj2 l0 t769 t776 true t772 t773) else (if t773 = 0 then (none) else (if (Int.tmod t769 t773) = 0 then (trishawlaw01_TurnLeast.j1 kj2 l0 t769 t776 ((t776.length : Int) != t769) t772 t773) else (trishawlaw01_TurnLeast.j1 kj2 l0 t769 t776 true t772 t773)))) else (trishawlaw01_TurnLeast.j1 kj2 l0 t769 t776 true t772 t773))) else (trishawlaw01_TurnLeast.j1 kj2 l0 t769 t776 true t772 t773)) else (trishawlaw01_TurnLeast.j1 kj2 l0 t769 t776 true t772 t773)) else (trishawlaw01_TurnLeast.j1 kj2 l0 t769 t776 true t772 t773))) = some r := H
    have A9 := Aside0.mk A90
    clear A90
    replace H := Option.bind_eq_some_iff.mp H
    obtain ⟨⟨t780, t781, t782⟩, A100, H⟩ := H
    replace H : (if t774 = 0 then (if t777 = 0 then (if t782 = 0 then ((trishawlaw01_small.f t772 t773).bind fun t784 => (if t784 = true then (if (!(t780 == t772) || (!(t781 == t773))) = true then (trishawlaw01_TurnLeast.j1 kj2 l0 t769 t776 true t772 t773) else (if t773 = 0 then (none) else (if (Int.tmod t769 t773) = 0 then (trishawlaw01_TurnLeast.j1 kj2 l0 t769 t776 ((t776.length : Int) != t769) t772 t773) else (trishawlaw01_TurnLeast.j1 kj2 l0 t769 t776 true t772 t773)))) else (trishawlaw01_TurnLeast.j1 kj2 l0 t769 t776 true t772 t773))) else (trishawlaw01_TurnLeast.j1 kj2 l0 t769 t776 true t772 t773)) else (trishawlaw01_TurnLeast.j1 kj2 l0 t769 t776 true t772 t773)) else (trishawlaw01_TurnLeast.j1 kj2 l0 t769 t776 true t772 t773)) = some r := H
    have A10 := Aside0.mk A100
    clear A100
    have HC11 := Aside0.mk H
    clear H
    go_upto_region 7 with (first | (go_at_call 18; (with_reducible refine (turn_Least.calls kj2 _ _ l0 t772 t773 t774 _ ?side1 ?side2 A8.out (HN.out.of (bl_))).mono ?_); (case side1 => repeat (first | exact (Kd.C_below HR0.out HB.out) | (with_reducible refine Kd.C_alloc ?_ _) | (with_reducible refine Kd.C_drewN ?_ _) | (with_reducible refine Kd.C_drew ?_))); (case side2 => exact HC0.out); rintro e w12 ⟨rfl, hb⟩; have n0_ := Aside0.mk (below_step (bl_) hb); clear HB; have HB := n0_; clear n0_; (try clear hb); (try clear hb2); (try clear hk); (try clear hi)) | ((with_reducible refine gate_dst (N := 5) rfl ?_); (try (refine gate_guard (by rfl) ?_; dsimp only)); refine box_event ?hg (N := 5) ?hd (cs := #[.int .i64 0, .int .i64 0]) (t := 26) ?hr ?_; (case hd => rfl); (case hg => rfl); (case hr => first | (go_simp; done) | (go_simp; rfl)); intro gb775 hg w13 hbox hb; have n0_ := Aside0.mk (below_step (bl_) hb); have n1_ := Aside0.mk (hbox); have n2_ := Aside0.mk ((by rw [hg]; exact (below_size (bl_)) : w.heap.size ≤ gb775)); have n3_ := Aside0.mk ((by rw [hg]; exact (below_size (bl_)) : w.heap.size ≤ gb775)); clear HB; have HB := n0_; have BK775 := n1_; have GW775 := n2_; have GE775 := n3_; clear n0_ n1_ n2_ n3_; clear hb hbox hg; have hcz14_0 : w13.cell? ⟨gb775, 0, none⟩ = some (.int .i64 0) := (blk_cell BK775.out 0).trans rfl; have hcz14_1 : w13.cell? ⟨gb775, 1, none⟩ = some (.int .i64 0) := (blk_cell BK775.out 1).trans rfl; have hfz14_0 := blk_frozen BK775.out 0; have hfz14_1 := blk_frozen BK775.out 1) | (go_at_call 20; (with_reducible refine (turn_Round.calls kj2 _ _ l0 t776 t777 _ ?side1 ?side2 A9.out (HN.out.of (bl_))).mono ?_); (case side1 => exact Kd.C_below HR0.out (bl_)); (case side2 => exact HC0.out); rintro e w15 ⟨v778, rfl, ho0, hb⟩; have n0_ := Aside0.mk (Kd.R_lower ho0 (below_size (bl_))); have n1_ := Aside0.mk (blk_below (g := gb775) (o := .cells #[.int .i64 t772, .int .i64 t773] 26 (0, 0)) (by (with_reducible repeat (first | refine blk_drewN ?_ _ | refine blk_drew ?_ | refine blk_alloc ?_ _)); refine blk_put (cs := #[.int .i64 t772, .int .i64 0]) ?_ 1 _ rfl; (with_reducible repeat (first | refine blk_drewN ?_ _ | refine blk_drew ?_ | refine blk_alloc ?_ _)); refine blk_put (cs := #[.int .i64 0, .int .i64 0]) ?_ 0 _ rfl; (with_reducible repeat (first | refine blk_drewN ?_ _ | refine blk_drew ?_ | refine blk_alloc ?_ _)); exact BK775.out) hb); have n2_ := Aside0.mk (below_step (bl_) hb); clear BK775; clear HB; have HO779 := n0_; have BK775 := n1_; have HB := n2_; clear n0_ n1_ n2_; (try clear hb); (try clear hb2); (try clear hk); (try clear hi); (try clear ho0); obtain ⟨Ao16, co16, eo16⟩ := Kd.R_slice HO779.out; subst eo16) | (go_at_call 25; (with_reducible refine (turn_Deviation.calls kj2 _ _ l0 _ _ t776 t780 t781 t782 _ ?side1 ?side2 ?side3 ?side4 A10.out).mono ?_); (case side1 => repeat (first | exact (Kd.C_below HR0.out HB.out) | (with_reducible refine Kd.C_alloc ?_ _) | (with_reducible refine Kd.C_drewN ?_ _) | (with_reducible refine Kd.C_drew ?_))); (case side2 => exact HC0.out); (case side3 => repeat (first | exact (Kd.R_reads' HO779.out).2.2 | (with_reducible refine Kd.C_alloc ?_ _) | (with_reducible refine Kd.C_drewN ?_ _) | (with_reducible refine Kd.C_drew ?_))); (case side4 => exact (Kd.R_reads' HO779.out).2.1); rintro e w17 ⟨rfl, hb⟩; have n0_ := Aside0.mk (Kd.R_below (kr_ HO779.out) hb); have n1_ := Aside0.mk (blk_below (g := gb775) (o := .cells #[.int .i64 t772, .int .i64 t773] 26 (0, 0)) (bk_ BK775.out) hb); have n2_ := Aside0.mk (below_step (bl_) hb); clear HO779; clear BK775; clear HB; have HO779 := n0_; have BK775 := n1_; have HB := n2_; clear n0_ n1_ n2_; (try clear hb); (try clear hb2); (try clear hk); (try clear hi)) | ((with_reducible refine gate_dst (N := 9) rfl ?_); (try (refine gate_guard (by rfl) ?_; dsimp only)); refine box_event ?hg (N := 9) ?hd (cs := #[.int .i64 0, .int .i64 0]) (t := 26) ?hr ?_; (case hd => rfl); (case hg => rfl); (case hr => first | (go_simp; done) | (go_simp; rfl)); intro gb783 hg w18 hbox hb; have n0_ := Aside0.mk (Kd.R_below (kr_ HO779.out) hb); have n1_ := Aside0.mk (blk_below (g := gb775) (o := .cells #[.int .i64 t772, .int .i64 t773] 26 (0, 0)) (bk_ BK775.out) hb); have n2_ := Aside0.mk (below_step (bl_) hb); have n3_ := Aside0.mk (hbox); have n4_ := Aside0.mk ((by rw [hg]; exact (below_size (bl_)) : w.heap.size ≤ gb783)); have n5_ := Aside0.mk ((by rw [hg]; exact (below_size (bl_)) : w.heap.size ≤ gb783)); have n6_ := Aside0.mk ((by rw [hg]; exact Nat.ne_of_lt (blk_lt (g := gb775) (o := .cells #[.int .i64 t772, .int .i64 t773] 26 (0, 0)) (bk_ BK775.out)) : gb775 ≠ gb783)); have n7_ := Aside0.mk ((by rw [hg]; exact Nat.ne_of_gt (blk_lt (g := gb775) (o := .cells #[.int .i64 t772, .int .i64 t773] 26 (0, 0)) (bk_ BK775.out)) : gb783 ≠ gb775)); clear HO779; clear BK775; clear HB; have HO779 := n0_; have BK775 := n1_; have HB := n2_; have BK783 := n3_; have GW783 := n4_; have GE783 := n5_; have NB775_783 := n6_; have NB783_775 := n7_; clear n0_ n1_ n2_ n3_ n4_ n5_ n6_ n7_; clear hb hbox hg; have hnb19 := NB783_775.out; have hnc19 := NB775_783.out; have hcz20_0 : w18.cell? ⟨gb783, 0, none⟩ = some (.int .i64 0) := (blk_cell BK783.out 0).trans rfl; have hcz20_1 : w18.cell? ⟨gb783, 1, none⟩ = some (.int .i64 0) := (blk_cell BK783.out 1).trans rfl; have hfz20_0 := blk_frozen BK783.out 0; have hfz20_1 := blk_frozen BK783.out 1))
    repeat (go_quiet (first | (go_at_call 18; (with_reducible refine (turn_Least.calls kj2 _ _ l0 t772 t773 t774 _ ?side1 ?side2 A8.out (HN.out.of (bl_))).mono ?_); (case side1 => repeat (first | exact (Kd.C_below HR0.out HB.out) | (with_reducible refine Kd.C_alloc ?_ _) | (with_reducible refine Kd.C_drewN ?_ _) | (with_reducible refine Kd.C_drew ?_))); (case side2 => exact HC0.out); rintro e w12 ⟨rfl, hb⟩; have n0_ := Aside0.mk (below_step (bl_) hb); clear HB; have HB := n0_; clear n0_; (try clear hb); (try clear hb2); (try clear hk); (try clear hi)) | ((with_reducible refine gate_dst (N := 5) rfl ?_); (try (refine gate_guard (by rfl) ?_; dsimp only)); refine box_event ?hg (N := 5) ?hd (cs := #[.int .i64 0, .int .i64 0]) (t := 26) ?hr ?_; (case hd => rfl); (case hg => rfl); (case hr => first | (go_simp; done) | (go_simp; rfl)); intro gb775 hg w13 hbox hb; have n0_ := Aside0.mk (below_step (bl_) hb); have n1_ := Aside0.mk (hbox); have n2_ := Aside0.mk ((by rw [hg]; exact (below_size (bl_)) : w.heap.size ≤ gb775)); have n3_ := Aside0.mk ((by rw [hg]; exact (below_size (bl_)) : w.heap.size ≤ gb775)); clear HB; have HB := n0_; have BK775 := n1_; have GW775 := n2_; have GE775 := n3_; clear n0_ n1_ n2_ n3_; clear hb hbox hg; have hcz14_0 : w13.cell? ⟨gb775, 0, none⟩ = some (.int .i64 0) := (blk_cell BK775.out 0).trans rfl; have hcz14_1 : w13.cell? ⟨gb775, 1, none⟩ = some (.int .i64 0) := (blk_cell BK775.out 1).trans rfl; have hfz14_0 := blk_frozen BK775.out 0; have hfz14_1 := blk_frozen BK775.out 1) | (go_at_call 20; (with_reducible refine (turn_Round.calls kj2 _ _ l0 t776 t777 _ ?side1 ?side2 A9.out (HN.out.of (bl_))).mono ?_); (case side1 => exact Kd.C_below HR0.out (bl_)); (case side2 => exact HC0.out); rintro e w15 ⟨v778, rfl, ho0, hb⟩; have n0_ := Aside0.mk (Kd.R_lower ho0 (below_size (bl_))); have n1_ := Aside0.mk (blk_below (g := gb775) (o := .cells #[.int .i64 t772, .int .i64 t773] 26 (0, 0)) (by (with_reducible repeat (first | refine blk_drewN ?_ _ | refine blk_drew ?_ | refine blk_alloc ?_ _)); refine blk_put (cs := #[.int .i64 t772, .int .i64 0]) ?_ 1 _ rfl; (with_reducible repeat (first | refine blk_drewN ?_ _ | refine blk_drew ?_ | refine blk_alloc ?_ _)); refine blk_put (cs := #[.int .i64 0, .int .i64 0]) ?_ 0 _ rfl; (with_reducible repeat (first | refine blk_drewN ?_ _ | refine blk_drew ?_ | refine blk_alloc ?_ _)); exact BK775.out) hb); have n2_ := Aside0.mk (below_step (bl_) hb); clear BK775; clear HB; have HO779 := n0_; have BK775 := n1_; have HB := n2_; clear n0_ n1_ n2_; (try clear hb); (try clear hb2); (try clear hk); (try clear hi); (try clear ho0); obtain ⟨Ao16, co16, eo16⟩ := Kd.R_slice HO779.out; subst eo16) | (go_at_call 25; (with_reducible refine (turn_Deviation.calls kj2 _ _ l0 _ _ t776 t780 t781 t782 _ ?side1 ?side2 ?side3 ?side4 A10.out).mono ?_); (case side1 => repeat (first | exact (Kd.C_below HR0.out HB.out) | (with_reducible refine Kd.C_alloc ?_ _) | (with_reducible refine Kd.C_drewN ?_ _) | (with_reducible refine Kd.C_drew ?_))); (case side2 => exact HC0.out); (case side3 => repeat (first | exact (Kd.R_reads' HO779.out).2.2 | (with_reducible refine Kd.C_alloc ?_ _) | (with_reducible refine Kd.C_drewN ?_ _) | (with_reducible refine Kd.C_drew ?_))); (case side4 => exact (Kd.R_reads' HO779.out).2.1); rintro e w17 ⟨rfl, hb⟩; have n0_ := Aside0.mk (Kd.R_below (kr_ HO779.out) hb); have n1_ := Aside0.mk (blk_below (g := gb775) (o := .cells #[.int .i64 t772, .int .i64 t773] 26 (0, 0)) (bk_ BK775.out) hb); have n2_ := Aside0.mk (below_step (bl_) hb); clear HO779; clear BK775; clear HB; have HO779 := n0_; have BK775 := n1_; have HB := n2_; clear n0_ n1_ n2_; (try clear hb); (try clear hb2); (try clear hk); (try clear hi)) | ((with_reducible refine gate_dst (N := 9) rfl ?_); (try (refine gate_guard (by rfl) ?_; dsimp only)); refine box_event ?hg (N := 9) ?hd (cs := #[.int .i64 0, .int .i64 0]) (t := 26) ?hr ?_; (case hd => rfl); (case hg => rfl); (case hr => first | (go_simp; done) | (go_simp; rfl)); intro gb783 hg w18 hbox hb; have n0_ := Aside0.mk (Kd.R_below (kr_ HO779.out) hb); have n1_ := Aside0.mk (blk_below (g := gb775) (o := .cells #[.int .i64 t772, .int .i64 t773] 26 (0, 0)) (bk_ BK775.out) hb); have n2_ := Aside0.mk (below_step (bl_) hb); have n3_ := Aside0.mk (hbox); have n4_ := Aside0.mk ((by rw [hg]; exact (below_size (bl_)) : w.heap.size ≤ gb783)); have n5_ := Aside0.mk ((by rw [hg]; exact (below_size (bl_)) : w.heap.size ≤ gb783)); have n6_ := Aside0.mk ((by rw [hg]; exact Nat.ne_of_lt (blk_lt (g := gb775) (o := .cells #[.int .i64 t772, .int .i64 t773] 26 (0, 0)) (bk_ BK775.out)) : gb775 ≠ gb783)); have n7_ := Aside0.mk ((by rw [hg]; exact Nat.ne_of_gt (blk_lt (g := gb775) (o := .cells #[.int .i64 t772, .int .i64 t773] 26 (0, 0)) (bk_ BK775.out)) : gb783 ≠ gb775)); clear HO779; clear BK775; clear HB; have HO779 := n0_; have BK775 := n1_; have HB := n2_; have BK783 := n3_; have GW783 := n4_; have GE783 := n5_; have NB775_783 := n6_; have NB783_775 := n7_; clear n0_ n1_ n2_ n3_ n4_ n5_ n6_ n7_; clear hb hbox hg; have hnb19 := NB783_775.out; have hnc19 := NB775_783.out; have hcz20_0 : w18.cell? ⟨gb783, 0, none⟩ = some (.int .i64 0) := (blk_cell BK783.out 0).trans rfl; have hcz20_1 : w18.cell? ⟨gb783, 1, none⟩ = some (.int .i64 0) := (blk_cell BK783.out 1).trans rfl; have hfz20_0 := blk_frozen BK783.out 0; have hfz20_1 := blk_frozen BK783.out 1)); go_upto_region 7 with (first | (go_at_call 18; (with_reducible refine (turn_Least.calls kj2 _ _ l0 t772 t773 t774 _ ?side1 ?side2 A8.out (HN.out.of (bl_))).mono ?_); (case side1 => repeat (first | exact (Kd.C_below HR0.out HB.out) | (with_reducible refine Kd.C_alloc ?_ _) | (with_reducible refine Kd.C_drewN ?_ _) | (with_reducible refine Kd.C_drew ?_))); (case side2 => exact HC0.out); rintro e w12 ⟨rfl, hb⟩; have n0_ := Aside0.mk (below_step (bl_) hb); clear HB; have HB := n0_; clear n0_; (try clear hb); (try clear hb2); (try clear hk); (try clear hi)) | ((with_reducible refine gate_dst (N := 5) rfl ?_); (try (refine gate_guard (by rfl) ?_; dsimp only)); refine box_event ?hg (N := 5) ?hd (cs := #[.int .i64 0, .int .i64 0]) (t := 26) ?hr ?_; (case hd => rfl); (case hg => rfl); (case hr => first | (go_simp; done) | (go_simp; rfl)); intro gb775 hg w13 hbox hb; have n0_ := Aside0.mk (below_step (bl_) hb); have n1_ := Aside0.mk (hbox); have n2_ := Aside0.mk ((by rw [hg]; exact (below_size (bl_)) : w.heap.size ≤ gb775)); have n3_ := Aside0.mk ((by rw [hg]; exact (below_size (bl_)) : w.heap.size ≤ gb775)); clear HB; have HB := n0_; have BK775 := n1_; have GW775 := n2_; have GE775 := n3_; clear n0_ n1_ n2_ n3_; clear hb hbox hg; have hcz14_0 : w13.cell? ⟨gb775, 0, none⟩ = some (.int .i64 0) := (blk_cell BK775.out 0).trans rfl; have hcz14_1 : w13.cell? ⟨gb775, 1, none⟩ = some (.int .i64 0) := (blk_cell BK775.out 1).trans rfl; have hfz14_0 := blk_frozen BK775.out 0; have hfz14_1 := blk_frozen BK775.out 1) | (go_at_call 20; (with_reducible refine (turn_Round.calls kj2 _ _ l0 t776 t777 _ ?side1 ?side2 A9.out (HN.out.of (bl_))).mono ?_); (case side1 => exact Kd.C_below HR0.out (bl_)); (case side2 => exact HC0.out); rintro e w15 ⟨v778, rfl, ho0, hb⟩; have n0_ := Aside0.mk (Kd.R_lower ho0 (below_size (bl_))); have n1_ := Aside0.mk (blk_below (g := gb775) (o := .cells #[.int .i64 t772, .int .i64 t773] 26 (0, 0)) (by (with_reducible repeat (first | refine blk_drewN ?_ _ | refine blk_drew ?_ | refine blk_alloc ?_ _)); refine blk_put (cs := #[.int .i64 t772, .int .i64 0]) ?_ 1 _ rfl; (with_reducible repeat (first | refine blk_drewN ?_ _ | refine blk_drew ?_ | refine blk_alloc ?_ _)); refine blk_put (cs := #[.int .i64 0, .int .i64 0]) ?_ 0 _ rfl; (with_reducible repeat (first | refine blk_drewN ?_ _ | refine blk_drew ?_ | refine blk_alloc ?_ _)); exact BK775.out) hb); have n2_ := Aside0.mk (below_step (bl_) hb); clear BK775; clear HB; have HO779 := n0_; have BK775 := n1_; have HB := n2_; clear n0_ n1_ n2_; (try clear hb); (try clear hb2); (try clear hk); (try clear hi); (try clear ho0); obtain ⟨Ao16, co16, eo16⟩ := Kd.R_slice HO779.out; subst eo16) | (go_at_call 25; (with_reducible refine (turn_Deviation.calls kj2 _ _ l0 _ _ t776 t780 t781 t782 _ ?side1 ?side2 ?side3 ?side4 A10.out).mono ?_); (case side1 => repeat (first | exact (Kd.C_below HR0.out HB.out) | (with_reducible refine Kd.C_alloc ?_ _) | (with_reducible refine Kd.C_drewN ?_ _) | (with_reducible refine Kd.C_drew ?_))); (case side2 => exact HC0.out); (case side3 => repeat (first | exact (Kd.R_reads' HO779.out).2.2 | (with_reducible refine Kd.C_alloc ?_ _) | (with_reducible refine Kd.C_drewN ?_ _) | (with_reducible refine Kd.C_drew ?_))); (case side4 => exact (Kd.R_reads' HO779.out).2.1); rintro e w17 ⟨rfl, hb⟩; have n0_ := Aside0.mk (Kd.R_below (kr_ HO779.out) hb); have n1_ := Aside0.mk (blk_below (g := gb775) (o := .cells #[.int .i64 t772, .int .i64 t773] 26 (0, 0)) (bk_ BK775.out) hb); have n2_ := Aside0.mk (below_step (bl_) hb); clear HO779; clear BK775; clear HB; have HO779 := n0_; have BK775 := n1_; have HB := n2_; clear n0_ n1_ n2_; (try clear hb); (try clear hb2); (try clear hk); (try clear hi)) | ((with_reducible refine gate_dst (N := 9) rfl ?_); (try (refine gate_guard (by rfl) ?_; dsimp only)); refine box_event ?hg (N := 9) ?hd (cs := #[.int .i64 0, .int .i64 0]) (t := 26) ?hr ?_; (case hd => rfl); (case hg => rfl); (case hr => first | (go_simp; done) | (go_simp; rfl)); intro gb783 hg w18 hbox hb; have n0_ := Aside0.mk (Kd.R_below (kr_ HO779.out) hb); have n1_ := Aside0.mk (blk_below (g := gb775) (o := .cells #[.int .i64 t772, .int .i64 t773] 26 (0, 0)) (bk_ BK775.out) hb); have n2_ := Aside0.mk (below_step (bl_) hb); have n3_ := Aside0.mk (hbox); have n4_ := Aside0.mk ((by rw [hg]; exact (below_size (bl_)) : w.heap.size ≤ gb783)); have n5_ := Aside0.mk ((by rw [hg]; exact (below_size (bl_)) : w.heap.size ≤ gb783)); have n6_ := Aside0.mk ((by rw [hg]; exact Nat.ne_of_lt (blk_lt (g := gb775) (o := .cells #[.int .i64 t772, .int .i64 t773] 26 (0, 0)) (bk_ BK775.out)) : gb775 ≠ gb783)); have n7_ := Aside0.mk ((by rw [hg]; exact Nat.ne_of_gt (blk_lt (g := gb775) (o := .cells #[.int .i64 t772, .int .i64 t773] 26 (0, 0)) (bk_ BK775.out)) : gb783 ≠ gb775)); clear HO779; clear BK775; clear HB; have HO779 := n0_; have BK775 := n1_; have HB := n2_; have BK783 := n3_; have GW783 := n4_; have GE783 := n5_; have NB775_783 := n6_; have NB783_775 := n7_; clear n0_ n1_ n2_ n3_ n4_ n5_ n6_ n7_; clear hb hbox hg; have hnb19 := NB783_775.out; have hnc19 := NB775_783.out; have hcz20_0 : w18.cell? ⟨gb783, 0, none⟩ = some (.int .i64 0) := (blk_cell BK783.out 0).trans rfl; have hcz20_1 : w18.cell? ⟨gb783, 1, none⟩ = some (.int .i64 0) := (blk_cell BK783.out 1).trans rfl; have hfz20_0 := blk_frozen BK783.out 0; have hfz20_1 := blk_frozen BK783.out 1)))
    (try simp only [Act.put, List.setIfInBounds_toArray, List.set_cons_zero, List.set_cons_succ])
    go_cut [78] (fun v78 wc => ∃ (kq : Nat) (x78_10 : Bool), v78 = .bool x78_10 ∧ Aside0 (trishawlaw01_TurnLeast.j1 kq l0 t769 t776 x78_10 t772 t773 = some r) ∧ Aside0 (kq ≤ kj2) ∧ Aside0 (Kd.R (Kd.int .i64) 3 wc w.heap.size (fun _ => True) (.slice Ao16 t776.length co16) t776) ∧ Aside0 (wc.heap[gb775]? = some (.cells #[.int .i64 t772, .int .i64 t773] 26 (0, 0))) ∧ Aside0 (wc.heap[gb783]? = some (.cells #[.int .i64 t780, .int .i64 t781] 26 (0, 0))) ∧ Aside0 (Below w.heap.size w wc))
    case first =>
     have H := HC11.out
     clear HC11
     by_cases c21 : t774 = 0
     ·rw [if_pos c21] at H
      have c21b0 : (t774 == 0) = true := beq_iff_eq.mpr c21
      have c21b1 : (t774 != 0) = false := bne_eq_false_iff_eq.mpr c21
      clear c21
      (first | rw [c21b0] | (simp only [i64_w, i32_w]; rw [c21b0]) | skip)
      by_cases c22 : t777 = 0
      ·rw [if_pos c22] at H
       have c22b0 : (t777 == 0) = true := beq_iff_eq.mpr c22
       have c22b1 : (t777 != 0) = false := bne_eq_false_iff_eq.mpr c22
       clear c22
       by_cases c23 : t782 = 0
       ·rw [if_pos c23] at H
        have c23b0 : (t782 == 0) = true := beq_iff_eq.mpr c23
        have c23b1 : (t782 != 0) = false := bne_eq_false_iff_eq.mpr c23
        clear c23
        replace H := Option.bind_eq_some_iff.mp H
        obtain ⟨t784, A240, H⟩ := H
        replace H : (if t784 = true then (if (!(t780 == t772) || (!(t781 == t773))) = true then (trishawlaw01_TurnLeast.j1 kj2 l0 t769 t776 true t772 t773) else (if t773 = 0 then (none) else (if (Int.tmod t769 t773) = 0 then (trishawlaw01_TurnLeast.j1 kj2 l0 t769 t776 ((t776.length : Int) != t769) t772 t773) else (trishawlaw01_TurnLeast.j1 kj2 l0 t769 t776 true t772 t773)))) else (trishawlaw01_TurnLeast.j1 kj2 l0 t769 t776 true t772 t773)) = some r := H
        have A24 := Aside0.mk A240
        clear A240
        by_cases c25 : t784 = true
        ·subst c25
         have H1 : (if (!(t780 == t772) || (!(t781 == t773))) = true then (trishawlaw01_TurnLeast.j1 kj2 l0 t769 t776 true t772 t773) else (if t773 = 0 then (none) else (if (Int.tmod t769 t773) = 0 then (trishawlaw01_TurnLeast.j1 kj2 l0 t769 t776 ((t776.length : Int) != t769) t772 t773) else (trishawlaw01_TurnLeast.j1 kj2 l0 t769 t776 true t772 t773)))) = some r := by rw [if_pos rfl] at H; exact H
         clear H
         have H := H1
         clear H1
         by_cases c26 : (!(t780 == t772) || (!(t781 == t773))) = true
         ·rw [if_pos c26] at H
          have c26b0 : (!(t780 == t772) || (!(t781 == t773))) = true := c26
          clear c26
          exact absurd hr.out (by intro h_; rw [h_] at H; revert H; cases kj2 <;> simp [trishawlaw01_TurnLeast.j1])
         ·rw [if_neg c26] at H
          have c26b0 : (!(t780 == t772) || (!(t781 == t773))) = false := by simpa using c26
          clear c26
          by_cases c32 : t773 = 0
          ·rw [if_pos c32] at H
           exact absurd H (by simp)
          ·rw [if_neg c32] at H
           have c32b0 : (t773 == 0) = false := beq_eq_false_iff_ne.mpr c32
           have c32b1 : (t773 != 0) = true := bne_iff_ne.mpr c32
           by_cases c33 : (Int.tmod t769 t773) = 0
           ·rw [if_pos c33] at H
            have c33b0 : ((Int.tmod t769 t773) == 0) = true := beq_iff_eq.mpr c33
            have c33b1 : ((Int.tmod t769 t773) != 0) = false := bne_eq_false_iff_eq.mpr c33
            clear c33
            have H' := Aside0.mk H
            clear H
            have hnb34 := NB775_783.out
            have hnc34 := NB783_775.out
            have hcz35_0 : w18.cell? ⟨gb775, 0, none⟩ = some (.int .i64 t772) := (blk_cell BK775.out 0).trans rfl
            have hcz35_1 : w18.cell? ⟨gb775, 1, none⟩ = some (.int .i64 t773) := (blk_cell BK775.out 1).trans rfl
            have hfz35_0 := blk_frozen BK775.out 0
            have hfz35_1 := blk_frozen BK775.out 1
            go_wp2_with (first | (go_at_call 26; (with_reducible refine (trishawlaw01_small.calls t772 t773 true _ A24.out).mono ?_); rintro e w36 ⟨rfl, hb⟩; have n0_ := Aside0.mk (Kd.R_below (by (with_reducible repeat (first | apply Kd.R_alloc | apply Kd.R_drewN | apply Kd.R_drew)); exact (Kd.R_mono (Kd.R_far (p := ⟨gb783, 1, none⟩) (Kd.R_far (p := ⟨gb783, 0, none⟩) (Kd.R_types HO779.out BK783.out (by decide)) (fun _ hk => hk.2) (.int .i64 t780)) (fun _ hk => hk.2) (.int .i64 t781)) (fun _ h_ => h_.1))) hb); have n1_ := Aside0.mk (blk_below (g := gb775) (o := .cells #[.int .i64 t772, .int .i64 t773] 26 (0, 0)) (by (with_reducible repeat (first | refine blk_drewN ?_ _ | refine blk_drew ?_ | refine blk_alloc ?_ _)); refine blk_far ?_ NB775_783.out _; (with_reducible repeat (first | refine blk_drewN ?_ _ | refine blk_drew ?_ | refine blk_alloc ?_ _)); refine blk_far ?_ NB775_783.out _; (with_reducible repeat (first | refine blk_drewN ?_ _ | refine blk_drew ?_ | refine blk_alloc ?_ _)); exact BK775.out) hb); have n2_ := Aside0.mk (blk_below (g := gb783) (o := .cells #[.int .i64 t780, .int .i64 t781] 26 (0, 0)) (by (with_reducible repeat (first | refine blk_drewN ?_ _ | refine blk_drew ?_ | refine blk_alloc ?_ _)); refine blk_put (cs := #[.int .i64 t780, .int .i64 0]) ?_ 1 _ rfl; (with_reducible repeat (first | refine blk_drewN ?_ _ | refine blk_drew ?_ | refine blk_alloc ?_ _)); refine blk_put (cs := #[.int .i64 0, .int .i64 0]) ?_ 0 _ rfl; (with_reducible repeat (first | refine blk_drewN ?_ _ | refine blk_drew ?_ | refine blk_alloc ?_ _)); exact BK783.out) hb); have n3_ := Aside0.mk (below_step (bl_) hb); clear HO779; clear BK775; clear BK783; clear HB; have HO779 := n0_; have BK775 := n1_; have BK783 := n2_; have HB := n3_; clear n0_ n1_ n2_ n3_; (try clear hb); (try clear hb2); (try clear hk); (try clear hi); have hcz37_0 : w36.cell? ⟨gb783, 0, none⟩ = some (.int .i64 t780) := (blk_cell BK783.out 0).trans rfl; have hcz37_1 : w36.cell? ⟨gb783, 1, none⟩ = some (.int .i64 t781) := (blk_cell BK783.out 1).trans rfl; have hfz37_0 := blk_frozen BK783.out 0; have hfz37_1 := blk_frozen BK783.out 1; have hcz38_0 : w36.cell? ⟨gb775, 0, none⟩ = some (.int .i64 t772) := (blk_cell BK775.out 0).trans rfl; have hcz38_1 : w36.cell? ⟨gb775, 1, none⟩ = some (.int .i64 t773) := (blk_cell BK775.out 1).trans rfl; have hfz38_0 := blk_frozen BK775.out 0; have hfz38_1 := blk_frozen BK775.out 1))
            repeat (go_quiet (first | (go_at_call 26; (with_reducible refine (trishawlaw01_small.calls t772 t773 true _ A24.out).mono ?_); rintro e w36 ⟨rfl, hb⟩; have n0_ := Aside0.mk (Kd.R_below (by (with_reducible repeat (first | apply Kd.R_alloc | apply Kd.R_drewN | apply Kd.R_drew)); exact (Kd.R_mono (Kd.R_far (p := ⟨gb783, 1, none⟩) (Kd.R_far (p := ⟨gb783, 0, none⟩) (Kd.R_types HO779.out BK783.out (by decide)) (fun _ hk => hk.2) (.int .i64 t780)) (fun _ hk => hk.2) (.int .i64 t781)) (fun _ h_ => h_.1))) hb); have n1_ := Aside0.mk (blk_below (g := gb775) (o := .cells #[.int .i64 t772, .int .i64 t773] 26 (0, 0)) (by (with_reducible repeat (first | refine blk_drewN ?_ _ | refine blk_drew ?_ | refine blk_alloc ?_ _)); refine blk_far ?_ NB775_783.out _; (with_reducible repeat (first | refine blk_drewN ?_ _ | refine blk_drew ?_ | refine blk_alloc ?_ _)); refine blk_far ?_ NB775_783.out _; (with_reducible repeat (first | refine blk_drewN ?_ _ | refine blk_drew ?_ | refine blk_alloc ?_ _)); exact BK775.out) hb); have n2_ := Aside0.mk (blk_below (g := gb783) (o := .cells #[.int .i64 t780, .int .i64 t781] 26 (0, 0)) (by (with_reducible repeat (first | refine blk_drewN ?_ _ | refine blk_drew ?_ | refine blk_alloc ?_ _)); refine blk_put (cs := #[.int .i64 t780, .int .i64 0]) ?_ 1 _ rfl; (with_reducible repeat (first | refine blk_drewN ?_ _ | refine blk_drew ?_ | refine blk_alloc ?_ _)); refine blk_put (cs := #[.int .i64 0, .int .i64 0]) ?_ 0 _ rfl; (with_reducible repeat (first | refine blk_drewN ?_ _ | refine blk_drew ?_ | refine blk_alloc ?_ _)); exact BK783.out) hb); have n3_ := Aside0.mk (below_step (bl_) hb); clear HO779; clear BK775; clear BK783; clear HB; have HO779 := n0_; have BK775 := n1_; have BK783 := n2_; have HB := n3_; clear n0_ n1_ n2_ n3_; (try clear hb); (try clear hb2); (try clear hk); (try clear hi); have hcz37_0 : w36.cell? ⟨gb783, 0, none⟩ = some (.int .i64 t780) := (blk_cell BK783.out 0).trans rfl; have hcz37_1 : w36.cell? ⟨gb783, 1, none⟩ = some (.int .i64 t781) := (blk_cell BK783.out 1).trans rfl; have hfz37_0 := blk_frozen BK783.out 0; have hfz37_1 := blk_frozen BK783.out 1; have hcz38_0 : w36.cell? ⟨gb775, 0, none⟩ = some (.int .i64 t772) := (blk_cell BK775.out 0).trans rfl; have hcz38_1 : w36.cell? ⟨gb775, 1, none⟩ = some (.int .i64 t773) := (blk_cell BK775.out 1).trans rfl; have hfz38_0 := blk_frozen BK775.out 0; have hfz38_1 := blk_frozen BK775.out 1)); try go_wp2_with (first | (go_at_call 26; (with_reducible refine (trishawlaw01_small.calls t772 t773 true _ A24.out).mono ?_); rintro e w36 ⟨rfl, hb⟩; have n0_ := Aside0.mk (Kd.R_below (by (with_reducible repeat (first | apply Kd.R_alloc | apply Kd.R_drewN | apply Kd.R_drew)); exact (Kd.R_mono (Kd.R_far (p := ⟨gb783, 1, none⟩) (Kd.R_far (p := ⟨gb783, 0, none⟩) (Kd.R_types HO779.out BK783.out (by decide)) (fun _ hk => hk.2) (.int .i64 t780)) (fun _ hk => hk.2) (.int .i64 t781)) (fun _ h_ => h_.1))) hb); have n1_ := Aside0.mk (blk_below (g := gb775) (o := .cells #[.int .i64 t772, .int .i64 t773] 26 (0, 0)) (by (with_reducible repeat (first | refine blk_drewN ?_ _ | refine blk_drew ?_ | refine blk_alloc ?_ _)); refine blk_far ?_ NB775_783.out _; (with_reducible repeat (first | refine blk_drewN ?_ _ | refine blk_drew ?_ | refine blk_alloc ?_ _)); refine blk_far ?_ NB775_783.out _; (with_reducible repeat (first | refine blk_drewN ?_ _ | refine blk_drew ?_ | refine blk_alloc ?_ _)); exact BK775.out) hb); have n2_ := Aside0.mk (blk_below (g := gb783) (o := .cells #[.int .i64 t780, .int .i64 t781] 26 (0, 0)) (by (with_reducible repeat (first | refine blk_drewN ?_ _ | refine blk_drew ?_ | refine blk_alloc ?_ _)); refine blk_put (cs := #[.int .i64 t780, .int .i64 0]) ?_ 1 _ rfl; (with_reducible repeat (first | refine blk_drewN ?_ _ | refine blk_drew ?_ | refine blk_alloc ?_ _)); refine blk_put (cs := #[.int .i64 0, .int .i64 0]) ?_ 0 _ rfl; (with_reducible repeat (first | refine blk_drewN ?_ _ | refine blk_drew ?_ | refine blk_alloc ?_ _)); exact BK783.out) hb); have n3_ := Aside0.mk (below_step (bl_) hb); clear HO779; clear BK775; clear BK783; clear HB; have HO779 := n0_; have BK775 := n1_; have BK783 := n2_; have HB := n3_; clear n0_ n1_ n2_ n3_; (try clear hb); (try clear hb2); (try clear hk); (try clear hi); have hcz37_0 : w36.cell? ⟨gb783, 0, none⟩ = some (.int .i64 t780) := (blk_cell BK783.out 0).trans rfl; have hcz37_1 : w36.cell? ⟨gb783, 1, none⟩ = some (.int .i64 t781) := (blk_cell BK783.out 1).trans rfl; have hfz37_0 := blk_frozen BK783.out 0; have hfz37_1 := blk_frozen BK783.out 1; have hcz38_0 : w36.cell? ⟨gb775, 0, none⟩ = some (.int .i64 t772) := (blk_cell BK775.out 0).trans rfl; have hcz38_1 : w36.cell? ⟨gb775, 1, none⟩ = some (.int .i64 t773) := (blk_cell BK775.out 1).trans rfl; have hfz38_0 := blk_frozen BK775.out 0; have hfz38_1 := blk_frozen BK775.out 1)))
            go_meet
            case rel => exact ⟨_, (((t776.length : Int) != t769)), (by first | rfl | (simp; done) | (simp [*]; done)), H', ⟨by have := HJ2.out; first | omega | exact Nat.le_refl _⟩, ⟨kr_ HO779.out⟩, ⟨bk_ BK775.out⟩, ⟨bk_ BK783.out⟩, ⟨bl_⟩⟩
           ·rw [if_neg c33] at H
            have c33b0 : ((Int.tmod t769 t773) == 0) = false := beq_eq_false_iff_ne.mpr c33
            have c33b1 : ((Int.tmod t769 t773) != 0) = true := bne_iff_ne.mpr c33
            exact absurd hr.out (by intro h_; rw [h_] at H; revert H; cases kj2 <;> simp [trishawlaw01_TurnLeast.j1])
        ·replace c25 := Bool.eq_false_iff.mpr c25
         subst c25
         have H1 : (trishawlaw01_TurnLeast.j1 kj2 l0 t769 t776 true t772 t773) = some r := by rw [if_neg (show ¬ (false = true) by decide)] at H; exact H
         clear H
         have H := H1
         clear H1
         exact absurd hr.out (by intro h_; rw [h_] at H; revert H; cases kj2 <;> simp [trishawlaw01_TurnLeast.j1])
       ·rw [if_neg c23] at H
        have c23b0 : (t782 == 0) = false := beq_eq_false_iff_ne.mpr c23
        have c23b1 : (t782 != 0) = true := bne_iff_ne.mpr c23
        exact absurd hr.out (by intro h_; rw [h_] at H; revert H; cases kj2 <;> simp [trishawlaw01_TurnLeast.j1])
      ·rw [if_neg c22] at H
       have c22b0 : (t777 == 0) = false := beq_eq_false_iff_ne.mpr c22
       have c22b1 : (t777 != 0) = true := bne_iff_ne.mpr c22
       exact absurd hr.out (by intro h_; rw [h_] at H; revert H; cases kj2 <;> simp [trishawlaw01_TurnLeast.j1])
     ·rw [if_neg c21] at H
      have c21b0 : (t774 == 0) = false := beq_eq_false_iff_ne.mpr c21
      have c21b1 : (t774 != 0) = true := bne_iff_ne.mpr c21
      (first | rw [c21b0] | (simp only [i64_w, i32_w]; rw [c21b0]) | skip)
      exact absurd hr.out (by intro h_; rw [h_] at H; revert H; cases kj2 <;> simp [trishawlaw01_TurnLeast.j1])
    case rest =>
     clear HC11
     try clear c1
     try clear c2
     try clear p2
     try clear c3
     try clear c4
     try clear c4b0
     try clear c4b1
     try clear c5
     try clear c12
     try clear c19
     try clear c21
     try clear c21b0
     try clear c21b1
     try clear c22
     try clear c22b0
     try clear c22b1
     try clear c23
     try clear c23b0
     try clear c23b1
     try clear c25
     try clear c26
     try clear c26b0
     try clear c27
     try clear c32
     try clear c32b0
     try clear c32b1
     try clear c33
     try clear c33b0
     try clear c33b1
     try clear c34
     try clear c39
     try clear c44
     try clear hcz14_0
     try clear hcz14_1
     try clear hcz20_0
     try clear hcz20_1
     try clear hcz28_0
     try clear hcz28_1
     try clear hcz30_0
     try clear hcz30_1
     try clear hcz31_0
     try clear hcz31_1
     try clear hcz35_0
     try clear hcz35_1
     try clear hcz37_0
     try clear hcz37_1
     try clear hcz38_0
     try clear hcz38_1
     try clear hcz40_0
     try clear hcz40_1
     try clear hcz42_0
     try clear hcz42_1
     try clear hcz43_0
     try clear hcz43_1
     try clear hcz45_0
     try clear hcz45_1
     try clear hfz14_0
     try clear hfz14_1
     try clear hfz20_0
     try clear hfz20_1
     try clear hfz28_0
     try clear hfz28_1
     try clear hfz30_0
     try clear hfz30_1
     try clear hfz31_0
     try clear hfz31_1
     try clear hfz35_0
     try clear hfz35_1
     try clear hfz37_0
     try clear hfz37_1
     try clear hfz38_0
     try clear hfz38_1
     try clear hfz40_0
     try clear hfz40_1
     try clear hfz42_0
     try clear hfz42_1
     try clear hfz43_0
     try clear hfz43_1
     try clear hfz45_0
     try clear hfz45_1
     try clear p2
     obtain ⟨kq, x78_10, rfl, HA, HJ10, HO_7, BK775, BK783, HB⟩ := hcut
     cases kq with
     | zero => exact absurd HA.out (by simp [trishawlaw01_TurnLeast.j1])
     | succ kj10 =>
      have H := HA.out
      clear HA
      simp only [trishawlaw01_TurnLeast.j1] at H
      by_cases c47 : x78_10 = true
      ·subst c47
       have H1 : (some false) = some r := by rw [if_pos rfl] at H; exact H
       clear H
       have H := H1
       clear H1
       exact absurd (Option.some.inj (H.trans (congrArg some hr.out))) (by decide)
      ·replace c47 := Bool.eq_false_iff.mpr c47
       subst c47
       have H1 : (if 0 ≤ (l0.length : Int) then (if ((l0.length : Int) : Int).toNat ≤ 35184372088832 then (trishawlaw01_TurnLeast.l0 kj10 l0 t769 t776 0 (List.replicate ((l0.length : Int) : Int).toNat 0) 0 t772 t773) else (none)) else (none)) = some r := by rw [if_neg (show ¬ (false = true) by decide)] at H; exact H
       clear H
       have H := H1
       clear H1
       have c48 : 0 ≤ (l0.length : Int) := fl_ fun c48 => by rw [if_neg c48] at H; exact absurd H (by simp)
       rw [if_pos c48] at H
       have c48b0 := eq_true c48
       have c48b1 : decide (0 ≤ (l0.length : Int)) = true := decide_eq_true c48
       clear c48
       have c49 : ((l0.length : Int) : Int).toNat ≤ 35184372088832 := fl_ fun c49 => by rw [if_neg c49] at H; exact absurd H (by simp)
       rw [if_pos c49] at H
       have c49b0 := eq_true c49
       have c49b1 : decide (((l0.length : Int) : Int).toNat ≤ 35184372088832) = true := decide_eq_true c49
       clear c49
       obtain ⟨y785, hy785⟩ : ∃ y_ : List Int, y_ = (List.replicate ((l0.length : Int) : Int).toNat 0) := ⟨_, rfl⟩
       replace H : (trishawlaw01_TurnLeast.l0 kj10 l0 t769 t776 0 y785 0 t772 t773) = some r := by first | (rw [hy785]; with_reducible exact H) | (have H2_ := (Option.bind_some _ _).symm.trans H; rw [hy785]; with_reducible exact H2_) | (have H2_ := (Option.bind_some _ _).symm.trans H; with_reducible exact H2_) | with_reducible exact H | (rw [hy785]; exact H) | exact H
       have Ny785 := Aside0.mk hy785
       clear hy785
       have H' := Aside0.mk H
       clear H
       go_wp2_with (first | ((with_reducible refine gate_dst (N := 81) rfl ?_); (try (refine gate_guard (by rfl) ?_; dsimp only)); refine Kd.R_make (Kd.int .i64) _ 3 rfl (N := 81) rfl 22 _ _ rfl (l0.length : Int) rfl rfl Tryd.underlying22 (.int .i64 0) 8 info3 rfl (by decide) (by omega) 0 (ok := fun _ => True) (okp := fun _ => True) rfl (fun _ hk => hk) trivial (od_) (Nat.le_trans (Nat.mul_le_mul_right _ (od_ : (l0.length : Int).toNat ≤ 35184372088832)) (by omega)) (Below.refl _ _) (Nat.le_refl _) ?_; intro v786 w50 ho51 hb hg_ hnew_; clear hg_ hnew_; (first | rw [← Ny785.out] at ho51 | (simp only [Int.reduceToNat] at ho51; rw [← Ny785.out] at ho51)); have n0_ := Aside0.mk (Kd.R_elder' (kr_ HO_7.out) (Kd.R_base ho51) hb); have n1_ := Aside0.mk (Kd.R_lower (Kd.R_new' ho51 (Kd.R_lt (kr_ HO_7.out))) (below_size (bl_))); have n2_ := Aside0.mk (blk_below (g := gb775) (o := .cells #[.int .i64 t772, .int .i64 t773] 26 (0, 0)) (bk_ BK775.out) hb); have n3_ := Aside0.mk (blk_below (g := gb783) (o := .cells #[.int .i64 t780, .int .i64 t781] 26 (0, 0)) (bk_ BK783.out) hb); have n4_ := Aside0.mk (below_step (bl_) hb); clear HO_7; clear BK775; clear BK783; clear HB; have HO_7 := n0_; have HO787 := n1_; have BK775 := n2_; have BK783 := n3_; have HB := n4_; clear n0_ n1_ n2_ n3_ n4_; clear hb ho51))
       repeat (go_quiet (first | ((with_reducible refine gate_dst (N := 81) rfl ?_); (try (refine gate_guard (by rfl) ?_; dsimp only)); refine Kd.R_make (Kd.int .i64) _ 3 rfl (N := 81) rfl 22 _ _ rfl (l0.length : Int) rfl rfl Tryd.underlying22 (.int .i64 0) 8 info3 rfl (by decide) (by omega) 0 (ok := fun _ => True) (okp := fun _ => True) rfl (fun _ hk => hk) trivial (od_) (Nat.le_trans (Nat.mul_le_mul_right _ (od_ : (l0.length : Int).toNat ≤ 35184372088832)) (by omega)) (Below.refl _ _) (Nat.le_refl _) ?_; intro v786 w50 ho51 hb hg_ hnew_; clear hg_ hnew_; (first | rw [← Ny785.out] at ho51 | (simp only [Int.reduceToNat] at ho51; rw [← Ny785.out] at ho51)); have n0_ := Aside0.mk (Kd.R_elder' (kr_ HO_7.out) (Kd.R_base ho51) hb); have n1_ := Aside0.mk (Kd.R_lower (Kd.R_new' ho51 (Kd.R_lt (kr_ HO_7.out))) (below_size (bl_))); have n2_ := Aside0.mk (blk_below (g := gb775) (o := .cells #[.int .i64 t772, .int .i64 t773] 26 (0, 0)) (bk_ BK775.out) hb); have n3_ := Aside0.mk (blk_below (g := gb783) (o := .cells #[.int .i64 t780, .int .i64 t781] 26 (0, 0)) (bk_ BK783.out) hb); have n4_ := Aside0.mk (below_step (bl_) hb); clear HO_7; clear BK775; clear BK783; clear HB; have HO_7 := n0_; have HO787 := n1_; have BK775 := n2_; have BK783 := n3_; have HB := n4_; clear n0_ n1_ n2_ n3_ n4_; clear hb ho51)); try go_wp2_with (first | ((with_reducible refine gate_dst (N := 81) rfl ?_); (try (refine gate_guard (by rfl) ?_; dsimp only)); refine Kd.R_make (Kd.int .i64) _ 3 rfl (N := 81) rfl 22 _ _ rfl (l0.length : Int) rfl rfl Tryd.underlying22 (.int .i64 0) 8 info3 rfl (by decide) (by omega) 0 (ok := fun _ => True) (okp := fun _ => True) rfl (fun _ hk => hk) trivial (od_) (Nat.le_trans (Nat.mul_le_mul_right _ (od_ : (l0.length : Int).toNat ≤ 35184372088832)) (by omega)) (Below.refl _ _) (Nat.le_refl _) ?_; intro v786 w50 ho51 hb hg_ hnew_; clear hg_ hnew_; (first | rw [← Ny785.out] at ho51 | (simp only [Int.reduceToNat] at ho51; rw [← Ny785.out] at ho51)); have n0_ := Aside0.mk (Kd.R_elder' (kr_ HO_7.out) (Kd.R_base ho51) hb); have n1_ := Aside0.mk (Kd.R_lower (Kd.R_new' ho51 (Kd.R_lt (kr_ HO_7.out))) (below_size (bl_))); have n2_ := Aside0.mk (blk_below (g := gb775) (o := .cells #[.int .i64 t772, .int .i64 t773] 26 (0, 0)) (bk_ BK775.out) hb); have n3_ := Aside0.mk (blk_below (g := gb783) (o := .cells #[.int .i64 t780, .int .i64 t781] 26 (0, 0)) (bk_ BK783.out) hb); have n4_ := Aside0.mk (below_step (bl_) hb); clear HO_7; clear BK775; clear BK783; clear HB; have HO_7 := n0_; have HO787 := n1_; have BK775 := n2_; have BK783 := n3_; have HB := n4_; clear n0_ n1_ n2_ n3_ n4_; clear hb ho51)))
       go_loopg [11, 13] kj10 (fun kq v11 v13 w' => ∃ (x11_3 : Int) (x13_3 : Int), v11 = .int .i64 x11_3 ∧ v13 = .int .i64 x13_3 ∧ Aside0 (trishawlaw01_TurnLeast.l0 kq l0 t769 t776 x11_3 y785 x13_3 t772 t773 = some r) ∧ Aside0 (kq ≤ kj10) ∧ Aside0 (Kd.R (Kd.int .i64) 3 w' w.heap.size (fun k_ => some k_ ≠ (v786 : Value).ownBlock) (.slice Ao16 t776.length co16) t776) ∧ Aside0 (Kd.R (Kd.int .i64) 3 w' w.heap.size (fun k_ => some k_ ≠ ((.slice Ao16 t776.length co16) : Value).ownBlock) v786 y785) ∧ Aside0 (w'.heap[gb775]? = some (.cells #[.int .i64 t772, .int .i64 t773] 26 (0, 0))) ∧ Aside0 (w'.heap[gb783]? = some (.cells #[.int .i64 t780, .int .i64 t781] 26 (0, 0))) ∧ Aside0 (Below w.heap.size w w'))
       case atStart => exact ⟨(0), (0), (by first | rfl | (simp; done) | (simp [*]; done)), (by first | rfl | (simp; done) | (simp [*]; done)), H', ⟨Nat.le_refl _⟩, ⟨by (with_reducible repeat (first | apply Kd.R_alloc | apply Kd.R_drewN | apply Kd.R_drew)); exact Kd.R_mono HO_7.out (fun _ hk => hk.2)⟩, ⟨by (with_reducible repeat (first | apply Kd.R_alloc | apply Kd.R_drewN | apply Kd.R_drew)); exact Kd.R_mono HO787.out (fun _ hk => hk.2)⟩, ⟨bk_ BK775.out⟩, ⟨bk_ BK783.out⟩, ⟨bl_⟩⟩
       case round =>
        clear H'
        try clear c1
        try clear c2
        try clear p2
        try clear c3
        try clear c4
        try clear c4b0
        try clear c4b1
        try clear c5
        try clear c12
        try clear c19
        try clear c21
        try clear c21b0
        try clear c21b1
        try clear c22
        try clear c22b0
        try clear c22b1
        try clear c23
        try clear c23b0
        try clear c23b1
        try clear c25
        try clear c26
        try clear c26b0
        try clear c27
        try clear c32
        try clear c32b0
        try clear c32b1
        try clear c33
        try clear c33b0
        try clear c33b1
        try clear c34
        try clear c39
        try clear c44
        try clear c47
        try clear c48
        try clear c48b0
        try clear c48b1
        try clear c49
        try clear c49b0
        try clear c49b1
        try clear hcz14_0
        try clear hcz14_1
        try clear hcz20_0
        try clear hcz20_1
        try clear hcz28_0
        try clear hcz28_1
        try clear hcz30_0
        try clear hcz30_1
        try clear hcz31_0
        try clear hcz31_1
        try clear hcz35_0
        try clear hcz35_1
        try clear hcz37_0
        try clear hcz37_1
        try clear hcz38_0
        try clear hcz38_1
        try clear hcz40_0
        try clear hcz40_1
        try clear hcz42_0
        try clear hcz42_1
        try clear hcz43_0
        try clear hcz43_1
        try clear hcz45_0
        try clear hcz45_1
        try clear hfz14_0
        try clear hfz14_1
        try clear hfz20_0
        try clear hfz20_1
        try clear hfz28_0
        try clear hfz28_1
        try clear hfz30_0
        try clear hfz30_1
        try clear hfz31_0
        try clear hfz31_1
        try clear hfz35_0
        try clear hfz35_1
        try clear hfz37_0
        try clear hfz37_1
        try clear hfz38_0
        try clear hfz38_1
        try clear hfz40_0
        try clear hfz40_1
        try clear hfz42_0
        try clear hfz42_1
        try clear hfz43_0
        try clear hfz43_1
        try clear hfz45_0
        try clear hfz45_1
        try clear p2
        obtain ⟨x11_3, x13_3, rfl, rfl, HA, HK3, HO_7, HO_12, BK775, BK783, HB⟩ := hrel
        cases gk with
        | zero => exact absurd HA.out (by simp [trishawlaw01_TurnLeast.l0])
        | succ k3 =>
         have H := HA.out
         clear HA
         simp only [trishawlaw01_TurnLeast.l0] at H
         by_cases c52 : x13_3 < (l0.length : Int)
         ·rw [if_pos c52] at H
          have c52b0 : decide (x13_3 < (l0.length : Int)) = true := decide_eq_true c52
          clear c52
          have c53 : 0 ≤ x13_3 := fl_ fun c53 => by rw [if_neg c53] at H; exact absurd H (by simp)
          rw [if_pos c53] at H
          have c53b0 : decide (0 ≤ x13_3) = true := decide_eq_true c53
          clear c53
          obtain ⟨ji54, hji54⟩ : ∃ j_ : Int, (mx x11_3 (rd l0 x13_3)) = j_ := ⟨_, rfl⟩
          replace H : (trishawlaw01_TurnLeast.l0 k3 l0 t769 t776 ji54 y785 (wrap64 (x13_3 + 1)) t772 t773) = some r := by first | (rw [hji54] at H; exact H) | (simp only [hji54] at H ⊢; exact H)
          have hji54_ : (if x11_3 < (rd l0 x13_3) then (rd l0 x13_3) else x11_3) = ji54 := hji54
          have H' := Aside0.mk H
          clear H
          have p788 : 0 ≤ (x13_3 : Int) := od_
          have q788 : x13_3 < (l0.length : Int) := od_
          obtain ⟨ad788, e788, hx788_0⟩ := Kd.at_int HR0.out x13_3 p788 q788
          cases e788
          replace hx788_0 := (HB.out.cell (World.block_lt_of_cell? w _ hx788_0)).trans hx788_0
          replace p788 := eq_true p788
          replace q788 := eq_true q788
          go_wp2
          repeat (go_quiet (fail); try go_wp2)
          go_roundg k3
          case measure => have := HJ2.out; have := HJ10.out; have := HK3.out; omega
          case rel => exact ⟨(ji54), (wrap64 (x13_3 + 1)), (by first | rfl | (simp; done) | (simp only [← hji54] <;> (first | rfl | simp)) | (simp [*]; done)), (by first | rfl | (simp; done) | (simp [*]; done)), H', ⟨by have := HJ2.out; have := HJ10.out; have := HK3.out; omega⟩, ⟨kr_ HO_7.out⟩, ⟨kr_ HO_12.out⟩, ⟨bk_ BK775.out⟩, ⟨bk_ BK783.out⟩, ⟨bl_⟩⟩
         ·rw [if_neg c52] at H
          have c52b0 : decide (x13_3 < (l0.length : Int)) = false := decide_eq_false c52
          clear c52
          have H' := Aside0.mk H
          clear H
          go_wp2
          repeat (go_quiet (fail); try go_wp2)
          go_loopg [14] k3 (fun kq v14 w' => ∃ (x12_4 : List Int) (x14_4 : Int), v14 = .int .i64 x14_4 ∧ Aside0 (trishawlaw01_TurnLeast.l1 kq l0 t769 t776 x11_3 x12_4 x14_4 t772 t773 = some r) ∧ Aside0 (kq ≤ k3) ∧ Aside0 (Kd.R (Kd.int .i64) 3 w' w.heap.size (fun k_ => some k_ ≠ (v786 : Value).ownBlock) (.slice Ao16 t776.length co16) t776) ∧ Aside0 (Kd.R (Kd.int .i64) 3 w' w.heap.size (fun k_ => some k_ ≠ ((.slice Ao16 t776.length co16) : Value).ownBlock) v786 x12_4) ∧ Aside0 (w'.heap[gb775]? = some (.cells #[.int .i64 t772, .int .i64 t773] 26 (0, 0))) ∧ Aside0 (w'.heap[gb783]? = some (.cells #[.int .i64 t780, .int .i64 t781] 26 (0, 0))) ∧ Aside0 (Below w.heap.size w w'))
          case atStart => exact ⟨(y785), (0), (by first | rfl | (simp; done) | (simp [*]; done)), H', ⟨Nat.le_refl _⟩, ⟨kr_ HO_7.out⟩, ⟨kr_ HO_12.out⟩, ⟨bk_ BK775.out⟩, ⟨bk_ BK783.out⟩, ⟨bl_⟩⟩
          case round =>
           clear H'
           try clear c1
           try clear c2
           try clear p2
           try clear c3
           try clear c4
           try clear c4b0
           try clear c4b1
           try clear c5
           try clear p6
           try clear p7
           try clear q7
           try clear hx7
           try clear c12
           try clear c19
           try clear c21
           try clear c21b0
           try clear c21b1
           try clear c22
           try clear c22b0
           try clear c22b1
           try clear c23
           try clear c23b0
           try clear c23b1
           try clear c25
           try clear c26
           try clear c26b0
           try clear c27
           try clear c32
           try clear c32b0
           try clear c32b1
           try clear c33
           try clear c33b0
           try clear c33b1
           try clear c34
           try clear c39
           try clear c44
           try clear c47
           try clear c48
           try clear c48b0
           try clear c48b1
           try clear c49
           try clear c49b0
           try clear c49b1
           try clear c52
           try clear c52b0
           try clear c53
           try clear c53b0
           try clear hcz14_0
           try clear hcz14_1
           try clear hcz20_0
           try clear hcz20_1
           try clear hcz28_0
           try clear hcz28_1
           try clear hcz30_0
           try clear hcz30_1
           try clear hcz31_0
           try clear hcz31_1
           try clear hcz35_0
           try clear hcz35_1
           try clear hcz37_0
           try clear hcz37_1
           try clear hcz38_0
           try clear hcz38_1
           try clear hcz40_0
           try clear hcz40_1
           try clear hcz42_0
           try clear hcz42_1
           try clear hcz43_0
           try clear hcz43_1
           try clear hcz45_0
           try clear hcz45_1
           try clear hfz14_0
           try clear hfz14_1
           try clear hfz20_0
           try clear hfz20_1
           try clear hfz28_0
           try clear hfz28_1
           try clear hfz30_0
           try clear hfz30_1
           try clear hfz31_0
           try clear hfz31_1
           try clear hfz35_0
           try clear hfz35_1
           try clear hfz37_0
           try clear hfz37_1
           try clear hfz38_0
           try clear hfz38_1
           try clear hfz40_0
           try clear hfz40_1
           try clear hfz42_0
           try clear hfz42_1
           try clear hfz43_0
           try clear hfz43_1
           try clear hfz45_0
           try clear hfz45_1
           try clear hx788_0
           try clear p2
           try clear p788
           try clear q788
           obtain ⟨x12_4, x14_4, rfl, HA, HK4, HO_7, HO_12, BK775, BK783, HB⟩ := hrel
           cases gk with
           | zero => exact absurd HA.out (by simp [trishawlaw01_TurnLeast.l1])
           | succ k4 =>
            have H := HA.out
            clear HA
            simp only [trishawlaw01_TurnLeast.l1] at H
            by_cases c55 : x14_4 < t769
            ·rw [if_pos c55] at H
             have c55b0 : decide (x14_4 < t769) = true := decide_eq_true c55
             clear c55
             have c56 : 0 ≤ x14_4 := fl_ fun c56 => by rw [if_neg c56] at H; exact absurd H (by simp)
             rw [if_pos c56] at H
             have c56b0 : decide (0 ≤ x14_4) = true := decide_eq_true c56
             clear c56
             have c57 : x14_4 < (t776.length : Int) := fl_ fun c57 => by rw [if_neg c57] at H; exact absurd H (by simp)
             rw [if_pos c57] at H
             have c57b0 : decide (x14_4 < (t776.length : Int)) = true := decide_eq_true c57
             clear c57
             by_cases c58 : (rd t776 x14_4) < 0
             ·rw [if_pos c58] at H
              have c58b0 : decide ((rd t776 x14_4) < 0) = true := decide_eq_true c58
              clear c58
              exact absurd (Option.some.inj (H.trans (congrArg some hr.out))) (by decide)
             ·rw [if_neg c58] at H
              have c58b0 : decide ((rd t776 x14_4) < 0) = false := decide_eq_false c58
              clear c58
              by_cases c59 : (rd t776 x14_4) ≥ (l0.length : Int)
              ·rw [if_pos c59] at H
               have c59b0 : decide ((l0.length : Int) ≤ (rd t776 x14_4)) = true := decide_eq_true c59
               clear c59
               exact absurd (Option.some.inj (H.trans (congrArg some hr.out))) (by decide)
              ·rw [if_neg c59] at H
               have c59b0 : decide ((l0.length : Int) ≤ (rd t776 x14_4)) = false := decide_eq_false c59
               clear c59
               have c60 : 0 ≤ (rd t776 x14_4) := fl_ fun c60 => by rw [if_neg c60] at H; exact absurd H (by simp)
               rw [if_pos c60] at H
               have c60b0 : decide (0 ≤ (rd t776 x14_4)) = true := decide_eq_true c60
               clear c60
               have c61 : (rd t776 x14_4) < (x12_4.length : Int) := fl_ fun c61 => by rw [if_neg c61] at H; exact absurd H (by simp)
               rw [if_pos c61] at H
               have c61b0 : decide ((rd t776 x14_4) < (x12_4.length : Int)) = true := decide_eq_true c61
               clear c61
               obtain ⟨y793, hy793⟩ : ∃ y_ : List Int, y_ = (x12_4.set ((rd t776 x14_4) : Int).toNat (wrap64 ((rd x12_4 (rd t776 x14_4)) + 1))) := ⟨_, rfl⟩
               replace H : (trishawlaw01_TurnLeast.l1 k4 l0 t769 t776 x11_3 y793 (wrap64 (x14_4 + 1)) t772 t773) = some r := by first | (rw [hy793]; with_reducible exact H) | (have H2_ := (Option.bind_some _ _).symm.trans H; rw [hy793]; with_reducible exact H2_) | (have H2_ := (Option.bind_some _ _).symm.trans H; with_reducible exact H2_) | with_reducible exact H | (rw [hy793]; exact H) | exact H
               have Ny793 := Aside0.mk hy793
               clear hy793
               have H' := Aside0.mk H
               clear H
               have p789 : 0 ≤ (x14_4 : Int) := od_
               have q789 : x14_4 < (t776.length : Int) := od_
               obtain ⟨ad789, e789, hx789_0⟩ := Kd.at_int (Kd.R_reads' HO_7.out).2.2 x14_4 p789 q789
               cases e789
               replace p789 := eq_true p789
               replace q789 := eq_true q789
               have p790 : 0 ≤ (x14_4 : Int) := od_
               have q790 : x14_4 < (t776.length : Int) := od_
               obtain ⟨ad790, e790, hx790_0⟩ := Kd.at_int (Kd.R_reads' HO_7.out).2.2 x14_4 p790 q790
               obtain rfl : ad789 = ad790 := (by injection e790)
               replace p790 := eq_true p790
               replace q790 := eq_true q790
               have p791 : 0 ≤ (x14_4 : Int) := od_
               have q791 : x14_4 < (t776.length : Int) := od_
               obtain ⟨ad791, e791, hx791_0⟩ := Kd.at_int (Kd.R_reads' HO_7.out).2.2 x14_4 p791 q791
               obtain rfl : ad789 = ad791 := (by injection e791)
               replace p791 := eq_true p791
               replace q791 := eq_true q791
               obtain ⟨Ao63, co63, eo63⟩ := Kd.R_slice HO_12.out
               subst eo63
               have p792 : 0 ≤ ((rd t776 x14_4) : Int) := od_
               have q792 : (rd t776 x14_4) < (x12_4.length : Int) := od_
               obtain ⟨ad792, e792, hx792_0⟩ := Kd.at_int (Kd.R_reads' HO_12.out).2.2 (rd t776 x14_4) p792 q792
               cases e792
               replace p792 := eq_true p792
               replace q792 := eq_true q792
               have p62 : 0 ≤ ((rd t776 x14_4) : Int) := od_
               have q62 : ((rd t776 x14_4) : Int) < ((x12_4.length : Int) : Int) := od_
               obtain ⟨go62, co62, eo62, gb62, gl62, cl62, HG62⟩ := Kd.R_form HO_12.out (by omega)
               (first | cases eo62 | (injection eo62 with ea_ en_ ec_; (first | subst ea_ | (injection ea_ with ea_; subst ea_)); subst ec_; clear en_))
               have GB62 := Aside0.mk gb62
               have GG62 := Aside0.mk HG62
               clear gb62 gl62 HG62
               (first | simp only [add_plain] at hx792_0 | skip)
               obtain ⟨hx62_0, hf62_0⟩ := Kd.R_celln 0 HO_12.out ((rd t776 x14_4) : Int) p62 q62
               replace p62 := eq_true p62
               replace q62 := eq_true q62
               have HP64 := Kd.R_putg HO_12.out ((rd t776 x14_4) : Int) (wrap64 ((rd x12_4 (rd t776 x14_4)) + 1))
               go_wp2_with (first | ((with_reducible refine gate_store (t := 3) (p := 121) rfl ?_); (try (rw [drewN_self wr]; generalize hq_ : World.drewN wr _ = wr; have n0_ := Aside0.mk (Kd.R_at hq_ HO_7.out); have n1_ := Aside0.mk (Kd.R_at hq_ HO_12.out); have n2_ := Aside0.mk (blk_at hq_ BK775.out); have n3_ := Aside0.mk (blk_at hq_ BK783.out); have n4_ := Aside0.mk (below_at hq_ HB.out); clear hq_ HO_7 HO_12 BK775 BK783 HB; have HO_7 := n0_; have HO_12 := n1_; have BK775 := n2_; have BK783 := n3_; have HB := n4_; clear n0_ n1_ n2_ n3_ n4_; (try (have HP64 := Kd.R_putg HO_12.out ((rd t776 x14_4) : Int) (wrap64 ((rd x12_4 (rd t776 x14_4)) + 1)))))); refine store_event (t := 3) (p := 121) (v := ?vo_w65) (w1 := (wr.setCell ⟨go62, ((rd t776 x14_4) : Int).toNat, none⟩ (.int .i64 (wrap64 ((rd x12_4 (rd t776 x14_4)) + 1))))) ?hg ?ho ?hn ?hr ?_; (case ho => rfl); (case hg => rfl); (case hn => rfl); (case hr => first | (go_simp; done) | (go_simp; rfl)); intro w65 hw; have hg : wr.grownBy w65 (some go62) := (by rw [hw]; exact HP64.2); have hp_ : Kd.R (Kd.int .i64) 3 w65 w.heap.size (fun k_ => some k_ ≠ (.slice (some ad789) t776.length co16 : Value).ownBlock) (.slice (some ⟨go62, 0, none⟩) x12_4.length co63) y793 := (by rw [hw, Ny793.out]; exact HP64.1); clear HP64; have n0_ := Aside0.mk (Kd.R_after (v := (.slice (some ⟨go62, 0, none⟩) x12_4.length co63)) (v1 := (.slice (some ⟨go62, 0, none⟩) x12_4.length co63)) (ok := (fun _ => True)) (by (with_reducible repeat (first | apply Kd.R_alloc | apply Kd.R_drewN | apply Kd.R_drew)); exact Kd.R_mono HO_7.out (fun _ hk => ⟨trivial, hk⟩)) hg (.inl rfl)); have n1_ := Aside0.mk (hp_); have n2_ := Aside0.mk (blk_grown (g := gb775) (o := .cells #[.int .i64 t772, .int .i64 t773] 26 (0, 0)) (bk_ BK775.out) hg (Kd.R_ne HO_12.out BK775.out (by decide))); have n3_ := Aside0.mk (blk_grown (g := gb783) (o := .cells #[.int .i64 t780, .int .i64 t781] 26 (0, 0)) (bk_ BK783.out) hg (Kd.R_ne HO_12.out BK783.out (by decide))); have n4_ := Aside0.mk ((by rw [hw]; exact below_set (HB.out) GB62.out : Below w.heap.size w w65)); clear HO_7; clear HO_12; clear BK775; clear BK783; clear HB; have HO_7 := n0_; have HO_12 := n1_; have BK775 := n2_; have BK783 := n3_; have HB := n4_; clear n0_ n1_ n2_ n3_ n4_; clear hg hw hp_))
               repeat (go_quiet (first | ((with_reducible refine gate_store (t := 3) (p := 121) rfl ?_); (try (rw [drewN_self wr]; generalize hq_ : World.drewN wr _ = wr; have n0_ := Aside0.mk (Kd.R_at hq_ HO_7.out); have n1_ := Aside0.mk (Kd.R_at hq_ HO_12.out); have n2_ := Aside0.mk (blk_at hq_ BK775.out); have n3_ := Aside0.mk (blk_at hq_ BK783.out); have n4_ := Aside0.mk (below_at hq_ HB.out); clear hq_ HO_7 HO_12 BK775 BK783 HB; have HO_7 := n0_; have HO_12 := n1_; have BK775 := n2_; have BK783 := n3_; have HB := n4_; clear n0_ n1_ n2_ n3_ n4_; (try (have HP64 := Kd.R_putg HO_12.out ((rd t776 x14_4) : Int) (wrap64 ((rd x12_4 (rd t776 x14_4)) + 1)))))); refine store_event (t := 3) (p := 121) (v := ?vo_w65) (w1 := (wr.setCell ⟨go62, ((rd t776 x14_4) : Int).toNat, none⟩ (.int .i64 (wrap64 ((rd x12_4 (rd t776 x14_4)) + 1))))) ?hg ?ho ?hn ?hr ?_; (case ho => rfl); (case hg => rfl); (case hn => rfl); (case hr => first | (go_simp; done) | (go_simp; rfl)); intro w65 hw; have hg : wr.grownBy w65 (some go62) := (by rw [hw]; exact HP64.2); have hp_ : Kd.R (Kd.int .i64) 3 w65 w.heap.size (fun k_ => some k_ ≠ (.slice (some ad789) t776.length co16 : Value).ownBlock) (.slice (some ⟨go62, 0, none⟩) x12_4.length co63) y793 := (by rw [hw, Ny793.out]; exact HP64.1); clear HP64; have n0_ := Aside0.mk (Kd.R_after (v := (.slice (some ⟨go62, 0, none⟩) x12_4.length co63)) (v1 := (.slice (some ⟨go62, 0, none⟩) x12_4.length co63)) (ok := (fun _ => True)) (by (with_reducible repeat (first | apply Kd.R_alloc | apply Kd.R_drewN | apply Kd.R_drew)); exact Kd.R_mono HO_7.out (fun _ hk => ⟨trivial, hk⟩)) hg (.inl rfl)); have n1_ := Aside0.mk (hp_); have n2_ := Aside0.mk (blk_grown (g := gb775) (o := .cells #[.int .i64 t772, .int .i64 t773] 26 (0, 0)) (bk_ BK775.out) hg (Kd.R_ne HO_12.out BK775.out (by decide))); have n3_ := Aside0.mk (blk_grown (g := gb783) (o := .cells #[.int .i64 t780, .int .i64 t781] 26 (0, 0)) (bk_ BK783.out) hg (Kd.R_ne HO_12.out BK783.out (by decide))); have n4_ := Aside0.mk ((by rw [hw]; exact below_set (HB.out) GB62.out : Below w.heap.size w w65)); clear HO_7; clear HO_12; clear BK775; clear BK783; clear HB; have HO_7 := n0_; have HO_12 := n1_; have BK775 := n2_; have BK783 := n3_; have HB := n4_; clear n0_ n1_ n2_ n3_ n4_; clear hg hw hp_)); try go_wp2_with (first | ((with_reducible refine gate_store (t := 3) (p := 121) rfl ?_); (try (rw [drewN_self wr]; generalize hq_ : World.drewN wr _ = wr; have n0_ := Aside0.mk (Kd.R_at hq_ HO_7.out); have n1_ := Aside0.mk (Kd.R_at hq_ HO_12.out); have n2_ := Aside0.mk (blk_at hq_ BK775.out); have n3_ := Aside0.mk (blk_at hq_ BK783.out); have n4_ := Aside0.mk (below_at hq_ HB.out); clear hq_ HO_7 HO_12 BK775 BK783 HB; have HO_7 := n0_; have HO_12 := n1_; have BK775 := n2_; have BK783 := n3_; have HB := n4_; clear n0_ n1_ n2_ n3_ n4_; (try (have HP64 := Kd.R_putg HO_12.out ((rd t776 x14_4) : Int) (wrap64 ((rd x12_4 (rd t776 x14_4)) + 1)))))); refine store_event (t := 3) (p := 121) (v := ?vo_w65) (w1 := (wr.setCell ⟨go62, ((rd t776 x14_4) : Int).toNat, none⟩ (.int .i64 (wrap64 ((rd x12_4 (rd t776 x14_4)) + 1))))) ?hg ?ho ?hn ?hr ?_; (case ho => rfl); (case hg => rfl); (case hn => rfl); (case hr => first | (go_simp; done) | (go_simp; rfl)); intro w65 hw; have hg : wr.grownBy w65 (some go62) := (by rw [hw]; exact HP64.2); have hp_ : Kd.R (Kd.int .i64) 3 w65 w.heap.size (fun k_ => some k_ ≠ (.slice (some ad789) t776.length co16 : Value).ownBlock) (.slice (some ⟨go62, 0, none⟩) x12_4.length co63) y793 := (by rw [hw, Ny793.out]; exact HP64.1); clear HP64; have n0_ := Aside0.mk (Kd.R_after (v := (.slice (some ⟨go62, 0, none⟩) x12_4.length co63)) (v1 := (.slice (some ⟨go62, 0, none⟩) x12_4.length co63)) (ok := (fun _ => True)) (by (with_reducible repeat (first | apply Kd.R_alloc | apply Kd.R_drewN | apply Kd.R_drew)); exact Kd.R_mono HO_7.out (fun _ hk => ⟨trivial, hk⟩)) hg (.inl rfl)); have n1_ := Aside0.mk (hp_); have n2_ := Aside0.mk (blk_grown (g := gb775) (o := .cells #[.int .i64 t772, .int .i64 t773] 26 (0, 0)) (bk_ BK775.out) hg (Kd.R_ne HO_12.out BK775.out (by decide))); have n3_ := Aside0.mk (blk_grown (g := gb783) (o := .cells #[.int .i64 t780, .int .i64 t781] 26 (0, 0)) (bk_ BK783.out) hg (Kd.R_ne HO_12.out BK783.out (by decide))); have n4_ := Aside0.mk ((by rw [hw]; exact below_set (HB.out) GB62.out : Below w.heap.size w w65)); clear HO_7; clear HO_12; clear BK775; clear BK783; clear HB; have HO_7 := n0_; have HO_12 := n1_; have BK775 := n2_; have BK783 := n3_; have HB := n4_; clear n0_ n1_ n2_ n3_ n4_; clear hg hw hp_)))
               go_roundg k4
               case measure => have := HJ2.out; have := HJ10.out; have := HK3.out; have := HK4.out; omega
               case rel => exact ⟨(y793), (wrap64 (x14_4 + 1)), (by first | rfl | (simp; done) | (simp [*]; done)), H', ⟨by have := HJ2.out; have := HJ10.out; have := HK3.out; have := HK4.out; omega⟩, ⟨by (with_reducible repeat (first | apply Kd.R_alloc | apply Kd.R_drewN | apply Kd.R_drew)); exact Kd.R_mono HO_7.out (fun _ hk => hk.2)⟩, ⟨kr_ HO_12.out⟩, ⟨bk_ BK775.out⟩, ⟨bk_ BK783.out⟩, ⟨bl_⟩⟩
            ·rw [if_neg c55] at H
             have c55b0 : decide (x14_4 < t769) = false := decide_eq_false c55
             clear c55
             by_cases c66 : t773 = 0
             ·rw [if_pos c66] at H
              exact absurd H (by simp)
             ·rw [if_neg c66] at H
              have c66b0 : (t773 == 0) = false := beq_eq_false_iff_ne.mpr c66
              have c66b1 : (t773 != 0) = true := bne_iff_ne.mpr c66
              have HC67 := Aside0.mk H
              clear H
              have hnb68 := NB775_783.out
              have hnc68 := NB783_775.out
              have hcz69_0 : wr.cell? ⟨gb775, 0, none⟩ = some (.int .i64 t772) := (blk_cell BK775.out 0).trans rfl
              have hcz69_1 : wr.cell? ⟨gb775, 1, none⟩ = some (.int .i64 t773) := (blk_cell BK775.out 1).trans rfl
              have hfz69_0 := blk_frozen BK775.out 0
              have hfz69_1 := blk_frozen BK775.out 1
              go_upto_region 22 with (fail)
              repeat (go_quiet (fail); go_upto_region 22 with (fail))
              go_cut [158] (fun v158 wc => ∃ (kq : Nat) (x158_66 : Bool), v158 = .bool x158_66 ∧ Aside0 (trishawlaw01_TurnLeast.j4 kq l0 t769 (wrap64 (t772 * (wrap64 (Int.tdiv t769 t773)))) x158_66 t772 t773 = some r) ∧ Aside0 (kq ≤ k4) ∧ Aside0 (wc.heap[gb775]? = some (.cells #[.int .i64 t772, .int .i64 t773] 26 (0, 0))) ∧ Aside0 (wc.heap[gb783]? = some (.cells #[.int .i64 t780, .int .i64 t781] 26 (0, 0))) ∧ Aside0 (Below w.heap.size w wc))
              case first =>
               have H := HC67.out
               clear HC67
               by_cases c70 : (wrap64 (t772 * (wrap64 (Int.tdiv t769 t773)))) < (wrap64 (t769 - x11_3))
               ·rw [if_pos c70] at H
                have c70b0 : decide ((wrap64 (t772 * (wrap64 (Int.tdiv t769 t773)))) < (wrap64 (t769 - x11_3))) = true := decide_eq_true c70
                clear c70
                (first | rw [c70b0] | (simp only [i64_w, i32_w]; rw [c70b0]) | skip)
                have H' := Aside0.mk H
                clear H
                go_wp2
                repeat (go_quiet (fail); try go_wp2)
                go_meet
                case rel => exact ⟨_, (true), (by first | rfl | (simp; done) | (simp [*]; done)), H', ⟨by have := HJ2.out; have := HJ10.out; have := HK3.out; have := HK4.out; first | omega | exact Nat.le_refl _⟩, ⟨bk_ BK775.out⟩, ⟨bk_ BK783.out⟩, ⟨bl_⟩⟩
               ·rw [if_neg c70] at H
                have c70b0 : decide ((wrap64 (t772 * (wrap64 (Int.tdiv t769 t773)))) < (wrap64 (t769 - x11_3))) = false := decide_eq_false c70
                clear c70
                (first | rw [c70b0] | (simp only [i64_w, i32_w]; rw [c70b0]) | skip)
                replace H := Option.bind_eq_some_iff.mp H
                obtain ⟨t794, A710, H⟩ := H
                replace H : (if t794 = true then (if (l0.length : Int) > 1 then ((trishawlaw01_atMost.f t772 t773 (wrap64 ((wrap64 (2 * (l0.length : Int))) - 3)) (wrap64 ((wrap64 (2 * (l0.length : Int))) - 2))).bind fun t795 => (trishawlaw01_TurnLeast.j4 k4 l0 t769 (wrap64 (t772 * (wrap64 (Int.tdiv t769 t773)))) (!t795) t772 t773)) else (trishawlaw01_TurnLeast.j4 k4 l0 t769 (wrap64 (t772 * (wrap64 (Int.tdiv t769 t773)))) false t772 t773)) else (trishawlaw01_TurnLeast.j4 k4 l0 t769 (wrap64 (t772 * (wrap64 (Int.tdiv t769 t773)))) true t772 t773)) = some r := H
                have A71 := Aside0.mk A710
                clear A710
                by_cases c72 : t794 = true
                ·subst c72
                 have H1 : (if (l0.length : Int) > 1 then ((trishawlaw01_atMost.f t772 t773 (wrap64 ((wrap64 (2 * (l0.length : Int))) - 3)) (wrap64 ((wrap64 (2 * (l0.length : Int))) - 2))).bind fun t795 => (trishawlaw01_TurnLeast.j4 k4 l0 t769 (wrap64 (t772 * (wrap64 (Int.tdiv t769 t773)))) (!t795) t772 t773)) else (trishawlaw01_TurnLeast.j4 k4 l0 t769 (wrap64 (t772 * (wrap64 (Int.tdiv t769 t773)))) false t772 t773)) = some r := by rw [if_pos rfl] at H; exact H
                 clear H
                 have H := H1
                 clear H1
                 by_cases c73 : (l0.length : Int) > 1
                 ·rw [if_pos c73] at H
                  have c73b0 : decide (1 < (l0.length : Int)) = true := decide_eq_true c73
                  have c73b1 : decide (1 < l0.length) = true := decide_eq_true (by omega)
                  clear c73
                  replace H := Option.bind_eq_some_iff.mp H
                  obtain ⟨t795, A740, H⟩ := H
                  replace H : (trishawlaw01_TurnLeast.j4 k4 l0 t769 (wrap64 (t772 * (wrap64 (Int.tdiv t769 t773)))) (!t795) t772 t773) = some r := H
                  have A74 := Aside0.mk A740
                  clear A740
                  have H' := Aside0.mk H
                  clear H
                  obtain ⟨Ao75, co75, eo75⟩ := Kd.R_slice HO_12.out
                  subst eo75
                  go_wp2_with (first | (go_at_call 22; (with_reducible refine (trishawlaw01_same.calls k4 _ _ x12_4 _ _ l0 true _ ?side1 ?side2 ?side3 ?side4 A71.out).mono ?_); (case side1 => repeat (first | exact (Kd.R_reads' HO_12.out).2.2 | (with_reducible refine Kd.C_alloc ?_ _) | (with_reducible refine Kd.C_drewN ?_ _) | (with_reducible refine Kd.C_drew ?_))); (case side2 => exact (Kd.R_reads' HO_12.out).2.1); (case side3 => repeat (first | exact (Kd.C_below HR0.out HB.out) | (with_reducible refine Kd.C_alloc ?_ _) | (with_reducible refine Kd.C_drewN ?_ _) | (with_reducible refine Kd.C_drew ?_))); (case side4 => exact HC0.out); rintro e w' ⟨rfl, ⟨nd, rfl⟩⟩; (try first | exact ⟨rfl, _, World.drewN_drewN _ _ _⟩ | exact ⟨rfl, _, Eq.trans (World.drewN_drewN _ _ _) (congrArg (World.drewN _) (Nat.add_assoc _ _ _))⟩); have hnb76 := NB775_783.out; have hnc76 := NB783_775.out; have hcz77_0 : wr.cell? ⟨gb775, 0, none⟩ = some (.int .i64 t772) := (blk_cell BK775.out 0).trans rfl; have hcz77_1 : wr.cell? ⟨gb775, 1, none⟩ = some (.int .i64 t773) := (blk_cell BK775.out 1).trans rfl; have hfz77_0 := blk_frozen BK775.out 0; have hfz77_1 := blk_frozen BK775.out 1) | (go_at_call 27; (with_reducible refine (trishawlaw01_atMost.calls t772 t773 (wrap64 ((wrap64 (2 * (l0.length : Int))) - 3)) (wrap64 ((wrap64 (2 * (l0.length : Int))) - 2)) t795 _ A74.out).mono ?_); rintro e w78 ⟨rfl, hb⟩; have n0_ := Aside0.mk (Kd.R_below (kr_ HO_7.out) hb); have n1_ := Aside0.mk (Kd.R_below (kr_ HO_12.out) hb); have n2_ := Aside0.mk (blk_below (g := gb775) (o := .cells #[.int .i64 t772, .int .i64 t773] 26 (0, 0)) (bk_ BK775.out) hb); have n3_ := Aside0.mk (blk_below (g := gb783) (o := .cells #[.int .i64 t780, .int .i64 t781] 26 (0, 0)) (bk_ BK783.out) hb); have n4_ := Aside0.mk (below_step (bl_) hb); clear HO_7; clear HO_12; clear BK775; clear BK783; clear HB; have HO_7 := n0_; have HO_12 := n1_; have BK775 := n2_; have BK783 := n3_; have HB := n4_; clear n0_ n1_ n2_ n3_ n4_; (try clear hb); (try clear hb2); (try clear hk); (try clear hi)))
                  repeat (go_quiet (first | (go_at_call 22; (with_reducible refine (trishawlaw01_same.calls k4 _ _ x12_4 _ _ l0 true _ ?side1 ?side2 ?side3 ?side4 A71.out).mono ?_); (case side1 => repeat (first | exact (Kd.R_reads' HO_12.out).2.2 | (with_reducible refine Kd.C_alloc ?_ _) | (with_reducible refine Kd.C_drewN ?_ _) | (with_reducible refine Kd.C_drew ?_))); (case side2 => exact (Kd.R_reads' HO_12.out).2.1); (case side3 => repeat (first | exact (Kd.C_below HR0.out HB.out) | (with_reducible refine Kd.C_alloc ?_ _) | (with_reducible refine Kd.C_drewN ?_ _) | (with_reducible refine Kd.C_drew ?_))); (case side4 => exact HC0.out); rintro e w' ⟨rfl, ⟨nd, rfl⟩⟩; (try first | exact ⟨rfl, _, World.drewN_drewN _ _ _⟩ | exact ⟨rfl, _, Eq.trans (World.drewN_drewN _ _ _) (congrArg (World.drewN _) (Nat.add_assoc _ _ _))⟩); have hnb76 := NB775_783.out; have hnc76 := NB783_775.out; have hcz77_0 : wr.cell? ⟨gb775, 0, none⟩ = some (.int .i64 t772) := (blk_cell BK775.out 0).trans rfl; have hcz77_1 : wr.cell? ⟨gb775, 1, none⟩ = some (.int .i64 t773) := (blk_cell BK775.out 1).trans rfl; have hfz77_0 := blk_frozen BK775.out 0; have hfz77_1 := blk_frozen BK775.out 1) | (go_at_call 27; (with_reducible refine (trishawlaw01_atMost.calls t772 t773 (wrap64 ((wrap64 (2 * (l0.length : Int))) - 3)) (wrap64 ((wrap64 (2 * (l0.length : Int))) - 2)) t795 _ A74.out).mono ?_); rintro e w78 ⟨rfl, hb⟩; have n0_ := Aside0.mk (Kd.R_below (kr_ HO_7.out) hb); have n1_ := Aside0.mk (Kd.R_below (kr_ HO_12.out) hb); have n2_ := Aside0.mk (blk_below (g := gb775) (o := .cells #[.int .i64 t772, .int .i64 t773] 26 (0, 0)) (bk_ BK775.out) hb); have n3_ := Aside0.mk (blk_below (g := gb783) (o := .cells #[.int .i64 t780, .int .i64 t781] 26 (0, 0)) (bk_ BK783.out) hb); have n4_ := Aside0.mk (below_step (bl_) hb); clear HO_7; clear HO_12; clear BK775; clear BK783; clear HB; have HO_7 := n0_; have HO_12 := n1_; have BK775 := n2_; have BK783 := n3_; have HB := n4_; clear n0_ n1_ n2_ n3_ n4_; (try clear hb); (try clear hb2); (try clear hk); (try clear hi))); try go_wp2_with (first | (go_at_call 22; (with_reducible refine (trishawlaw01_same.calls k4 _ _ x12_4 _ _ l0 true _ ?side1 ?side2 ?side3 ?side4 A71.out).mono ?_); (case side1 => repeat (first | exact (Kd.R_reads' HO_12.out).2.2 | (with_reducible refine Kd.C_alloc ?_ _) | (with_reducible refine Kd.C_drewN ?_ _) | (with_reducible refine Kd.C_drew ?_))); (case side2 => exact (Kd.R_reads' HO_12.out).2.1); (case side3 => repeat (first | exact (Kd.C_below HR0.out HB.out) | (with_reducible refine Kd.C_alloc ?_ _) | (with_reducible refine Kd.C_drewN ?_ _) | (with_reducible refine Kd.C_drew ?_))); (case side4 => exact HC0.out); rintro e w' ⟨rfl, ⟨nd, rfl⟩⟩; (try first | exact ⟨rfl, _, World.drewN_drewN _ _ _⟩ | exact ⟨rfl, _, Eq.trans (World.drewN_drewN _ _ _) (congrArg (World.drewN _) (Nat.add_assoc _ _ _))⟩); have hnb76 := NB775_783.out; have hnc76 := NB783_775.out; have hcz77_0 : wr.cell? ⟨gb775, 0, none⟩ = some (.int .i64 t772) := (blk_cell BK775.out 0).trans rfl; have hcz77_1 : wr.cell? ⟨gb775, 1, none⟩ = some (.int .i64 t773) := (blk_cell BK775.out 1).trans rfl; have hfz77_0 := blk_frozen BK775.out 0; have hfz77_1 := blk_frozen BK775.out 1) | (go_at_call 27; (with_reducible refine (trishawlaw01_atMost.calls t772 t773 (wrap64 ((wrap64 (2 * (l0.length : Int))) - 3)) (wrap64 ((wrap64 (2 * (l0.length : Int))) - 2)) t795 _ A74.out).mono ?_); rintro e w78 ⟨rfl, hb⟩; have n0_ := Aside0.mk (Kd.R_below (kr_ HO_7.out) hb); have n1_ := Aside0.mk (Kd.R_below (kr_ HO_12.out) hb); have n2_ := Aside0.mk (blk_below (g := gb775) (o := .cells #[.int .i64 t772, .int .i64 t773] 26 (0, 0)) (bk_ BK775.out) hb); have n3_ := Aside0.mk (blk_below (g := gb783) (o := .cells #[.int .i64 t780, .int .i64 t781] 26 (0, 0)) (bk_ BK783.out) hb); have n4_ := Aside0.mk (below_step (bl_) hb); clear HO_7; clear HO_12; clear BK775; clear BK783; clear HB; have HO_7 := n0_; have HO_12 := n1_; have BK775 := n2_; have BK783 := n3_; have HB := n4_; clear n0_ n1_ n2_ n3_ n4_; (try clear hb); (try clear hb2); (try clear hk); (try clear hi))))
                  go_meet
                  case rel => exact ⟨_, (!t795), (by first | rfl | (simp; done) | (simp [*]; done)), H', ⟨by have := HJ2.out; have := HJ10.out; have := HK3.out; have := HK4.out; first | omega | exact Nat.le_refl _⟩, ⟨bk_ BK775.out⟩, ⟨bk_ BK783.out⟩, ⟨bl_⟩⟩
                 ·rw [if_neg c73] at H
                  have c73b0 : decide (1 < (l0.length : Int)) = false := decide_eq_false c73
                  have c73b1 : decide (1 < l0.length) = false := decide_eq_false (by omega)
                  clear c73
                  have H' := Aside0.mk H
                  clear H
                  obtain ⟨Ao79, co79, eo79⟩ := Kd.R_slice HO_12.out
                  subst eo79
                  go_wp2_with (first | (go_at_call 22; (with_reducible refine (trishawlaw01_same.calls k4 _ _ x12_4 _ _ l0 true _ ?side1 ?side2 ?side3 ?side4 A71.out).mono ?_); (case side1 => repeat (first | exact (Kd.R_reads' HO_12.out).2.2 | (with_reducible refine Kd.C_alloc ?_ _) | (with_reducible refine Kd.C_drewN ?_ _) | (with_reducible refine Kd.C_drew ?_))); (case side2 => exact (Kd.R_reads' HO_12.out).2.1); (case side3 => repeat (first | exact (Kd.C_below HR0.out HB.out) | (with_reducible refine Kd.C_alloc ?_ _) | (with_reducible refine Kd.C_drewN ?_ _) | (with_reducible refine Kd.C_drew ?_))); (case side4 => exact HC0.out); rintro e w' ⟨rfl, ⟨nd, rfl⟩⟩; (try first | exact ⟨rfl, _, World.drewN_drewN _ _ _⟩ | exact ⟨rfl, _, Eq.trans (World.drewN_drewN _ _ _) (congrArg (World.drewN _) (Nat.add_assoc _ _ _))⟩)))
                  repeat (go_quiet (first | (go_at_call 22; (with_reducible refine (trishawlaw01_same.calls k4 _ _ x12_4 _ _ l0 true _ ?side1 ?side2 ?side3 ?side4 A71.out).mono ?_); (case side1 => repeat (first | exact (Kd.R_reads' HO_12.out).2.2 | (with_reducible refine Kd.C_alloc ?_ _) | (with_reducible refine Kd.C_drewN ?_ _) | (with_reducible refine Kd.C_drew ?_))); (case side2 => exact (Kd.R_reads' HO_12.out).2.1); (case side3 => repeat (first | exact (Kd.C_below HR0.out HB.out) | (with_reducible refine Kd.C_alloc ?_ _) | (with_reducible refine Kd.C_drewN ?_ _) | (with_reducible refine Kd.C_drew ?_))); (case side4 => exact HC0.out); rintro e w' ⟨rfl, ⟨nd, rfl⟩⟩; (try first | exact ⟨rfl, _, World.drewN_drewN _ _ _⟩ | exact ⟨rfl, _, Eq.trans (World.drewN_drewN _ _ _) (congrArg (World.drewN _) (Nat.add_assoc _ _ _))⟩))); try go_wp2_with (first | (go_at_call 22; (with_reducible refine (trishawlaw01_same.calls k4 _ _ x12_4 _ _ l0 true _ ?side1 ?side2 ?side3 ?side4 A71.out).mono ?_); (case side1 => repeat (first | exact (Kd.R_reads' HO_12.out).2.2 | (with_reducible refine Kd.C_alloc ?_ _) | (with_reducible refine Kd.C_drewN ?_ _) | (with_reducible refine Kd.C_drew ?_))); (case side2 => exact (Kd.R_reads' HO_12.out).2.1); (case side3 => repeat (first | exact (Kd.C_below HR0.out HB.out) | (with_reducible refine Kd.C_alloc ?_ _) | (with_reducible refine Kd.C_drewN ?_ _) | (with_reducible refine Kd.C_drew ?_))); (case side4 => exact HC0.out); rintro e w' ⟨rfl, ⟨nd, rfl⟩⟩; (try first | exact ⟨rfl, _, World.drewN_drewN _ _ _⟩ | exact ⟨rfl, _, Eq.trans (World.drewN_drewN _ _ _) (congrArg (World.drewN _) (Nat.add_assoc _ _ _))⟩))))
                  go_meet
                  case rel => exact ⟨_, (false), (by first | rfl | (simp; done) | (simp [*]; done)), H', ⟨by have := HJ2.out; have := HJ10.out; have := HK3.out; have := HK4.out; first | omega | exact Nat.le_refl _⟩, ⟨bk_ BK775.out⟩, ⟨bk_ BK783.out⟩, ⟨bl_⟩⟩
                ·replace c72 := Bool.eq_false_iff.mpr c72
                 subst c72
                 have H1 : (trishawlaw01_TurnLeast.j4 k4 l0 t769 (wrap64 (t772 * (wrap64 (Int.tdiv t769 t773)))) true t772 t773) = some r := by rw [if_neg (show ¬ (false = true) by decide)] at H; exact H
                 clear H
                 have H := H1
                 clear H1
                 exact absurd hr.out (by intro h_; rw [h_] at H; revert H; cases k4 <;> simp [trishawlaw01_TurnLeast.j4])
              case rest =>
               clear HC67
               try clear c1
               try clear c2
               try clear p2
               try clear c3
               try clear c4
               try clear c4b0
               try clear c4b1
               try clear c5
               try clear c6
               try clear p6
               try clear q6
               try clear hx6
               try clear hf6
               try clear c7
               try clear p7
               try clear q7
               try clear hx7
               try clear c12
               try clear c19
               try clear c21
               try clear c21b0
               try clear c21b1
               try clear c22
               try clear c22b0
               try clear c22b1
               try clear c23
               try clear c23b0
               try clear c23b1
               try clear c25
               try clear c26
               try clear c26b0
               try clear c27
               try clear c32
               try clear c32b0
               try clear c32b1
               try clear c33
               try clear c33b0
               try clear c33b1
               try clear c34
               try clear c39
               try clear c44
               try clear c47
               try clear c48
               try clear c48b0
               try clear c48b1
               try clear c49
               try clear c49b0
               try clear c49b1
               try clear c52
               try clear c52b0
               try clear c53
               try clear c53b0
               try clear c55
               try clear c55b0
               try clear c56
               try clear c56b0
               try clear c57
               try clear c57b0
               try clear c58
               try clear c58b0
               try clear c59
               try clear c59b0
               try clear c60
               try clear c60b0
               try clear c61
               try clear c61b0
               try clear p62
               try clear q62
               try clear hx62
               try clear hf62
               try clear p64
               try clear c66
               try clear c66b0
               try clear c66b1
               try clear c68
               try clear c70
               try clear c70b0
               try clear c72
               try clear c73
               try clear c73b0
               try clear c73b1
               try clear c76
               try clear p78
               try clear q78
               try clear hx78
               try clear p79
               try clear q79
               try clear hx79
               try clear hcz14_0
               try clear hcz14_1
               try clear hcz20_0
               try clear hcz20_1
               try clear hcz28_0
               try clear hcz28_1
               try clear hcz30_0
               try clear hcz30_1
               try clear hcz31_0
               try clear hcz31_1
               try clear hcz35_0
               try clear hcz35_1
               try clear hcz37_0
               try clear hcz37_1
               try clear hcz38_0
               try clear hcz38_1
               try clear hcz40_0
               try clear hcz40_1
               try clear hcz42_0
               try clear hcz42_1
               try clear hcz43_0
               try clear hcz43_1
               try clear hcz45_0
               try clear hcz45_1
               try clear hcz69_0
               try clear hcz69_1
               try clear hcz77_0
               try clear hcz77_1
               try clear hfz14_0
               try clear hfz14_1
               try clear hfz20_0
               try clear hfz20_1
               try clear hfz28_0
               try clear hfz28_1
               try clear hfz30_0
               try clear hfz30_1
               try clear hfz31_0
               try clear hfz31_1
               try clear hfz35_0
               try clear hfz35_1
               try clear hfz37_0
               try clear hfz37_1
               try clear hfz38_0
               try clear hfz38_1
               try clear hfz40_0
               try clear hfz40_1
               try clear hfz42_0
               try clear hfz42_1
               try clear hfz43_0
               try clear hfz43_1
               try clear hfz45_0
               try clear hfz45_1
               try clear hfz69_0
               try clear hfz69_1
               try clear hfz77_0
               try clear hfz77_1
               try clear hx62_0
               try clear hx788_0
               try clear hx789_0
               try clear hx790_0
               try clear hx791_0
               try clear hx792_0
               try clear p2
               try clear p6
               try clear p62
               try clear p7
               try clear p788
               try clear p789
               try clear p790
               try clear p791
               try clear p792
               try clear q62
               try clear q7
               try clear q788
               try clear q789
               try clear q790
               try clear q791
               try clear q792
               obtain ⟨kq, x158_66, rfl, HA, HJ66, BK775, BK783, HB⟩ := hcut
               cases kq with
               | zero => exact absurd HA.out (by simp [trishawlaw01_TurnLeast.j4])
               | succ kj66 =>
                have H := HA.out
                clear HA
                simp only [trishawlaw01_TurnLeast.j4] at H
                by_cases c81 : x158_66 = true
                ·subst c81
                 have H1 : (some false) = some r := by rw [if_pos rfl] at H; exact H
                 clear H
                 have H := H1
                 clear H1
                 exact absurd (Option.some.inj (H.trans (congrArg some hr.out))) (by decide)
                ·replace c81 := Bool.eq_false_iff.mpr c81
                 subst c81
                 have H1 : ((turn_Feasible.f kj66 l0 t772 t773).bind fun bt796 => (if bt796.2 = 0 then (trishawlaw01_TurnLeast.j5 kj66 l0 t769 (wrap64 (t772 * (wrap64 (Int.tdiv t769 t773)))) (!bt796.1)) else (trishawlaw01_TurnLeast.j5 kj66 l0 t769 (wrap64 (t772 * (wrap64 (Int.tdiv t769 t773)))) true))) = some r := by rw [if_neg (show ¬ (false = true) by decide)] at H; exact H
                 clear H
                 have H := H1
                 clear H1
                 replace H := Option.bind_eq_some_iff.mp H
                 obtain ⟨⟨t796, t797⟩, A820, H⟩ := H
                 replace H : (if t797 = 0 then (trishawlaw01_TurnLeast.j5 kj66 l0 t769 (wrap64 (t772 * (wrap64 (Int.tdiv t769 t773)))) (!t796)) else (trishawlaw01_TurnLeast.j5 kj66 l0 t769 (wrap64 (t772 * (wrap64 (Int.tdiv t769 t773)))) true)) = some r := H
                 have A82 := Aside0.mk A820
                 clear A820
                 have HC83 := Aside0.mk H
                 clear H
                 have hnb84 := NB775_783.out
                 have hnc84 := NB783_775.out
                 have hcz85_0 : wc.cell? ⟨gb775, 0, none⟩ = some (.int .i64 t772) := (blk_cell BK775.out 0).trans rfl
                 have hcz85_1 : wc.cell? ⟨gb775, 1, none⟩ = some (.int .i64 t773) := (blk_cell BK775.out 1).trans rfl
                 have hfz85_0 := blk_frozen BK775.out 0
                 have hfz85_1 := blk_frozen BK775.out 1
                 go_upto_region 25 with (first | (go_at_call 37; (with_reducible refine (turn_Feasible.calls kj66 _ _ l0 t772 t773 t796 t797 _ ?side1 ?side2 A82.out (HN.out.of (bl_))).mono ?_); (case side1 => repeat (first | exact (Kd.C_below HR0.out HB.out) | (with_reducible refine Kd.C_alloc ?_ _) | (with_reducible refine Kd.C_drewN ?_ _) | (with_reducible refine Kd.C_drew ?_))); (case side2 => exact HC0.out); rintro e w86 ⟨rfl, hb⟩; have n0_ := Aside0.mk (blk_below (g := gb775) (o := .cells #[.int .i64 t772, .int .i64 t773] 26 (0, 0)) (bk_ BK775.out) hb); have n1_ := Aside0.mk (blk_below (g := gb783) (o := .cells #[.int .i64 t780, .int .i64 t781] 26 (0, 0)) (bk_ BK783.out) hb); have n2_ := Aside0.mk (below_step (bl_) hb); clear BK775; clear BK783; clear HB; have BK775 := n0_; have BK783 := n1_; have HB := n2_; clear n0_ n1_ n2_; (try clear hb); (try clear hb2); (try clear hk); (try clear hi)))
                 repeat (go_quiet (first | (go_at_call 37; (with_reducible refine (turn_Feasible.calls kj66 _ _ l0 t772 t773 t796 t797 _ ?side1 ?side2 A82.out (HN.out.of (bl_))).mono ?_); (case side1 => repeat (first | exact (Kd.C_below HR0.out HB.out) | (with_reducible refine Kd.C_alloc ?_ _) | (with_reducible refine Kd.C_drewN ?_ _) | (with_reducible refine Kd.C_drew ?_))); (case side2 => exact HC0.out); rintro e w86 ⟨rfl, hb⟩; have n0_ := Aside0.mk (blk_below (g := gb775) (o := .cells #[.int .i64 t772, .int .i64 t773] 26 (0, 0)) (bk_ BK775.out) hb); have n1_ := Aside0.mk (blk_below (g := gb783) (o := .cells #[.int .i64 t780, .int .i64 t781] 26 (0, 0)) (bk_ BK783.out) hb); have n2_ := Aside0.mk (below_step (bl_) hb); clear BK775; clear BK783; clear HB; have BK775 := n0_; have BK783 := n1_; have HB := n2_; clear n0_ n1_ n2_; (try clear hb); (try clear hb2); (try clear hk); (try clear hi))); go_upto_region 25 with (first | (go_at_call 37; (with_reducible refine (turn_Feasible.calls kj66 _ _ l0 t772 t773 t796 t797 _ ?side1 ?side2 A82.out (HN.out.of (bl_))).mono ?_); (case side1 => repeat (first | exact (Kd.C_below HR0.out HB.out) | (with_reducible refine Kd.C_alloc ?_ _) | (with_reducible refine Kd.C_drewN ?_ _) | (with_reducible refine Kd.C_drew ?_))); (case side2 => exact HC0.out); rintro e w86 ⟨rfl, hb⟩; have n0_ := Aside0.mk (blk_below (g := gb775) (o := .cells #[.int .i64 t772, .int .i64 t773] 26 (0, 0)) (bk_ BK775.out) hb); have n1_ := Aside0.mk (blk_below (g := gb783) (o := .cells #[.int .i64 t780, .int .i64 t781] 26 (0, 0)) (bk_ BK783.out) hb); have n2_ := Aside0.mk (below_step (bl_) hb); clear BK775; clear BK783; clear HB; have BK775 := n0_; have BK783 := n1_; have HB := n2_; clear n0_ n1_ n2_; (try clear hb); (try clear hb2); (try clear hk); (try clear hi))))
                 (try simp only [Act.put, List.setIfInBounds_toArray, List.set_cons_zero, List.set_cons_succ])
                 go_cut [170] (fun v170 wc => ∃ (kq : Nat) (x170_82 : Bool), v170 = .bool x170_82 ∧ Aside0 (trishawlaw01_TurnLeast.j5 kq l0 t769 (wrap64 (t772 * (wrap64 (Int.tdiv t769 t773)))) x170_82 = some r) ∧ Aside0 (kq ≤ kj66) ∧ Aside0 (wc.heap[gb775]? = some (.cells #[.int .i64 t772, .int .i64 t773] 26 (0, 0))) ∧ Aside0 (wc.heap[gb783]? = some (.cells #[.int .i64 t780, .int .i64 t781] 26 (0, 0))) ∧ Aside0 (Below w.heap.size w wc))
                 case first =>
                  have H := HC83.out
                  clear HC83
                  by_cases c87 : t797 = 0
                  ·rw [if_pos c87] at H
                   have c87b0 : (t797 == 0) = true := beq_iff_eq.mpr c87
                   have c87b1 : (t797 != 0) = false := bne_eq_false_iff_eq.mpr c87
                   clear c87
                   (first | rw [c87b0] | (simp only [i64_w, i32_w]; rw [c87b0]) | skip)
                   have H' := Aside0.mk H
                   clear H
                   go_wp2
                   repeat (go_quiet (fail); try go_wp2)
                   go_meet
                   case rel => exact ⟨_, (!t796), (by first | rfl | (simp; done) | (simp [*]; done)), H', ⟨by have := HJ2.out; have := HJ10.out; have := HK3.out; have := HK4.out; have := HJ66.out; first | omega | exact Nat.le_refl _⟩, ⟨bk_ BK775.out⟩, ⟨bk_ BK783.out⟩, ⟨bl_⟩⟩
                  ·rw [if_neg c87] at H
                   have c87b0 : (t797 == 0) = false := beq_eq_false_iff_ne.mpr c87
                   have c87b1 : (t797 != 0) = true := bne_iff_ne.mpr c87
                   (first | rw [c87b0] | (simp only [i64_w, i32_w]; rw [c87b0]) | skip)
                   exact absurd hr.out (by intro h_; rw [h_] at H; revert H; cases kj66 <;> simp [trishawlaw01_TurnLeast.j5])
                 case rest =>
                  clear HC83
                  try clear c1
                  try clear c2
                  try clear p2
                  try clear c3
                  try clear c4
                  try clear c4b0
                  try clear c4b1
                  try clear c5
                  try clear c6
                  try clear p6
                  try clear q6
                  try clear hx6
                  try clear hf6
                  try clear c7
                  try clear p7
                  try clear q7
                  try clear hx7
                  try clear c8
                  try clear c12
                  try clear c19
                  try clear c21
                  try clear c21b0
                  try clear c21b1
                  try clear c22
                  try clear c22b0
                  try clear c22b1
                  try clear c23
                  try clear c23b0
                  try clear c23b1
                  try clear c25
                  try clear c26
                  try clear c26b0
                  try clear c27
                  try clear c32
                  try clear c32b0
                  try clear c32b1
                  try clear c33
                  try clear c33b0
                  try clear c33b1
                  try clear c34
                  try clear c39
                  try clear c44
                  try clear c47
                  try clear c48
                  try clear c48b0
                  try clear c48b1
                  try clear c49
                  try clear c49b0
                  try clear c49b1
                  try clear c52
                  try clear c52b0
                  try clear c53
                  try clear c53b0
                  try clear c55
                  try clear c55b0
                  try clear c56
                  try clear c56b0
                  try clear c57
                  try clear c57b0
                  try clear c58
                  try clear c58b0
                  try clear c59
                  try clear c59b0
                  try clear c60
                  try clear c60b0
                  try clear c61
                  try clear c61b0
                  try clear p62
                  try clear q62
                  try clear hx62
                  try clear hf62
                  try clear p64
                  try clear c66
                  try clear c66b0
                  try clear c66b1
                  try clear c68
                  try clear c70
                  try clear c70b0
                  try clear c72
                  try clear c73
                  try clear c73b0
                  try clear c73b1
                  try clear c76
                  try clear p78
                  try clear q78
                  try clear hx78
                  try clear p79
                  try clear q79
                  try clear hx79
                  try clear c81
                  try clear c84
                  try clear c87
                  try clear c87b0
                  try clear c87b1
                  try clear hcz14_0
                  try clear hcz14_1
                  try clear hcz20_0
                  try clear hcz20_1
                  try clear hcz28_0
                  try clear hcz28_1
                  try clear hcz30_0
                  try clear hcz30_1
                  try clear hcz31_0
                  try clear hcz31_1
                  try clear hcz35_0
                  try clear hcz35_1
                  try clear hcz37_0
                  try clear hcz37_1
                  try clear hcz38_0
                  try clear hcz38_1
                  try clear hcz40_0
                  try clear hcz40_1
                  try clear hcz42_0
                  try clear hcz42_1
                  try clear hcz43_0
                  try clear hcz43_1
                  try clear hcz45_0
                  try clear hcz45_1
                  try clear hcz69_0
                  try clear hcz69_1
                  try clear hcz77_0
                  try clear hcz77_1
                  try clear hcz85_0
                  try clear hcz85_1
                  try clear hfz14_0
                  try clear hfz14_1
                  try clear hfz20_0
                  try clear hfz20_1
                  try clear hfz28_0
                  try clear hfz28_1
                  try clear hfz30_0
                  try clear hfz30_1
                  try clear hfz31_0
                  try clear hfz31_1
                  try clear hfz35_0
                  try clear hfz35_1
                  try clear hfz37_0
                  try clear hfz37_1
                  try clear hfz38_0
                  try clear hfz38_1
                  try clear hfz40_0
                  try clear hfz40_1
                  try clear hfz42_0
                  try clear hfz42_1
                  try clear hfz43_0
                  try clear hfz43_1
                  try clear hfz45_0
                  try clear hfz45_1
                  try clear hfz69_0
                  try clear hfz69_1
                  try clear hfz77_0
                  try clear hfz77_1
                  try clear hfz85_0
                  try clear hfz85_1
                  try clear hx62_0
                  try clear hx788_0
                  try clear hx789_0
                  try clear hx790_0
                  try clear hx791_0
                  try clear hx792_0
                  try clear p2
                  try clear p6
                  try clear p62
                  try clear p64
                  try clear p7
                  try clear p78
                  try clear p788
                  try clear p789
                  try clear p79
                  try clear p790
                  try clear p791
                  try clear p792
                  try clear q6
                  try clear q62
                  try clear q7
                  try clear q78
                  try clear q788
                  try clear q789
                  try clear q79
                  try clear q790
                  try clear q791
                  try clear q792
                  obtain ⟨kq, x170_82, rfl, HA, HJ82, BK775, BK783, HB⟩ := hcut
                  cases kq with
                  | zero => exact absurd HA.out (by simp [trishawlaw01_TurnLeast.j5])
                  | succ kj82 =>
                   have H := HA.out
                   clear HA
                   simp only [trishawlaw01_TurnLeast.j5] at H
                   by_cases c88 : x170_82 = true
                   ·subst c88
                    have H1 : (some false) = some r := by rw [if_pos rfl] at H; exact H
                    clear H
                    have H := H1
                    clear H1
                    exact absurd (Option.some.inj (H.trans (congrArg some hr.out))) (by decide)
                   ·replace c88 := Bool.eq_false_iff.mpr c88
                    subst c88
                    have H1 : (if (wrap64 (t772 * (wrap64 (Int.tdiv t769 t773)))) = 0 then (if (l0.length : Int) = 1 then ((trishawlaw01_alive.f kj82).bind fun t798 => (some t798)) else (some false)) else ((trishawref01_Ratio.f kj82 (wrap64 ((wrap64 (t772 * (wrap64 (Int.tdiv t769 t773)))) - 1)) t769).bind fun bt799 => ((turn_Feasible.f kj82 l0 bt799.1 bt799.2).bind fun bt801 => (if bt801.2 = 0 then (if bt801.1 = true then (some false) else ((trishawlaw01_alive.f kj82).bind fun t803 => (some t803))) else (some false))))) = some r := by rw [if_neg (show ¬ (false = true) by decide)] at H; exact H
                    clear H
                    have H := H1
                    clear H1
                    by_cases c89 : (wrap64 (t772 * (wrap64 (Int.tdiv t769 t773)))) = 0
                    ·rw [if_pos c89] at H
                     have c89b0 : ((wrap64 (t772 * (wrap64 (Int.tdiv t769 t773)))) == 0) = true := beq_iff_eq.mpr c89
                     have c89b1 : ((wrap64 (t772 * (wrap64 (Int.tdiv t769 t773)))) != 0) = false := bne_eq_false_iff_eq.mpr c89
                     clear c89
                     by_cases c90 : (l0.length : Int) = 1
                     ·rw [if_pos c90] at H
                      have c90b0 : ((l0.length : Int) == 1) = true := beq_iff_eq.mpr c90
                      have c90b1 : ((l0.length : Int) != 1) = false := bne_eq_false_iff_eq.mpr c90
                      clear c90
                      replace H := Option.bind_eq_some_iff.mp H
                      obtain ⟨t798, A910, H⟩ := H
                      replace H : (some t798) = some r := H
                      have A91 := Aside0.mk A910
                      clear A910
                      obtain rfl := Option.some.inj H
                      go_wp2_with (first | (go_at_call 17; (with_reducible refine (trishawlaw01_alive.calls kj82  t798 _ A91.out (HN.out.of (bl_))).mono ?_); rintro e w92 ⟨rfl, hb⟩; have n0_ := Aside0.mk (blk_below (g := gb775) (o := .cells #[.int .i64 t772, .int .i64 t773] 26 (0, 0)) (bk_ BK775.out) hb); have n1_ := Aside0.mk (blk_below (g := gb783) (o := .cells #[.int .i64 t780, .int .i64 t781] 26 (0, 0)) (bk_ BK783.out) hb); have n2_ := Aside0.mk (below_step (bl_) hb); clear BK775; clear BK783; clear HB; have BK775 := n0_; have BK783 := n1_; have HB := n2_; clear n0_ n1_ n2_; (try clear hb); (try clear hb2); (try clear hk); (try clear hi)))
                      repeat (go_quiet (first | (go_at_call 17; (with_reducible refine (trishawlaw01_alive.calls kj82  t798 _ A91.out (HN.out.of (bl_))).mono ?_); rintro e w92 ⟨rfl, hb⟩; have n0_ := Aside0.mk (blk_below (g := gb775) (o := .cells #[.int .i64 t772, .int .i64 t773] 26 (0, 0)) (bk_ BK775.out) hb); have n1_ := Aside0.mk (blk_below (g := gb783) (o := .cells #[.int .i64 t780, .int .i64 t781] 26 (0, 0)) (bk_ BK783.out) hb); have n2_ := Aside0.mk (below_step (bl_) hb); clear BK775; clear BK783; clear HB; have BK775 := n0_; have BK783 := n1_; have HB := n2_; clear n0_ n1_ n2_; (try clear hb); (try clear hb2); (try clear hk); (try clear hi))); try go_wp2_with (first | (go_at_call 17; (with_reducible refine (trishawlaw01_alive.calls kj82  t798 _ A91.out (HN.out.of (bl_))).mono ?_); rintro e w92 ⟨rfl, hb⟩; have n0_ := Aside0.mk (blk_below (g := gb775) (o := .cells #[.int .i64 t772, .int .i64 t773] 26 (0, 0)) (bk_ BK775.out) hb); have n1_ := Aside0.mk (blk_below (g := gb783) (o := .cells #[.int .i64 t780, .int .i64 t781] 26 (0, 0)) (bk_ BK783.out) hb); have n2_ := Aside0.mk (below_step (bl_) hb); clear BK775; clear BK783; clear HB; have BK775 := n0_; have BK783 := n1_; have HB := n2_; clear n0_ n1_ n2_; (try clear hb); (try clear hb2); (try clear hk); (try clear hi))))
                      go_ret
                      exact ⟨by first | rfl | (simp [errW_none, errW_some] <;> rfl) | (simp [*, errW_none, errW_some] <;> rfl), bl_⟩
                     ·rw [if_neg c90] at H
                      have c90b0 : ((l0.length : Int) == 1) = false := beq_eq_false_iff_ne.mpr c90
                      have c90b1 : ((l0.length : Int) != 1) = true := bne_iff_ne.mpr c90
                      exact absurd (Option.some.inj (H.trans (congrArg some hr.out))) (by decide)
                    ·rw [if_neg c89] at H
                     have c89b0 : ((wrap64 (t772 * (wrap64 (Int.tdiv t769 t773)))) == 0) = false := beq_eq_false_iff_ne.mpr c89
                     have c89b1 : ((wrap64 (t772 * (wrap64 (Int.tdiv t769 t773)))) != 0) = true := bne_iff_ne.mpr c89
                     replace H := Option.bind_eq_some_iff.mp H
                     obtain ⟨⟨t799, t800⟩, A930, H⟩ := H
                     replace H : ((turn_Feasible.f kj82 l0 t799 t800).bind fun bt801 => (if bt801.2 = 0 then (if bt801.1 = true then (some false) else ((trishawlaw01_alive.f kj82).bind fun t803 => (some t803))) else (some false))) = some r := H
                     have A93 := Aside0.mk A930
                     clear A930
                     replace H := Option.bind_eq_some_iff.mp H
                     obtain ⟨⟨t801, t802⟩, A940, H⟩ := H
                     replace H : (if t802 = 0 then (if t801 = true then (some false) else ((trishawlaw01_alive.f kj82).bind fun t803 => (some t803))) else (some false)) = some r := H
                     have A94 := Aside0.mk A940
                     clear A940
                     by_cases c95 : t802 = 0
                     ·rw [if_pos c95] at H
                      have c95b0 : (t802 == 0) = true := beq_iff_eq.mpr c95
                      have c95b1 : (t802 != 0) = false := bne_eq_false_iff_eq.mpr c95
                      clear c95
                      by_cases c96 : t801 = true
                      ·subst c96
                       have H1 : (some false) = some r := by rw [if_pos rfl] at H; exact H
                       clear H
                       have H := H1
                       clear H1
                       exact absurd (Option.some.inj (H.trans (congrArg some hr.out))) (by decide)
                      ·replace c96 := Bool.eq_false_iff.mpr c96
                       subst c96
                       have H1 : ((trishawlaw01_alive.f kj82).bind fun t803 => (some t803)) = some r := by rw [if_neg (show ¬ (false = true) by decide)] at H; exact H
                       clear H
                       have H := H1
                       clear H1
                       replace H := Option.bind_eq_some_iff.mp H
                       obtain ⟨t803, A990, H⟩ := H
                       replace H : (some t803) = some r := H
                       have A99 := Aside0.mk A990
                       clear A990
                       obtain rfl := Option.some.inj H
                       go_wp2_with (first | (go_at_call 38; (with_reducible refine (trishawref01_Ratio.calls kj82 (wrap64 ((wrap64 (t772 * (wrap64 (Int.tdiv t769 t773)))) - 1)) t769 t799 t800 _ A93.out).mono ?_); rintro e w100 ⟨rfl, hb⟩; have n0_ := Aside0.mk (blk_below (g := gb775) (o := .cells #[.int .i64 t772, .int .i64 t773] 26 (0, 0)) (bk_ BK775.out) hb); have n1_ := Aside0.mk (blk_below (g := gb783) (o := .cells #[.int .i64 t780, .int .i64 t781] 26 (0, 0)) (bk_ BK783.out) hb); have n2_ := Aside0.mk (below_step (bl_) hb); clear BK775; clear BK783; clear HB; have BK775 := n0_; have BK783 := n1_; have HB := n2_; clear n0_ n1_ n2_; (try clear hb); (try clear hb2); (try clear hk); (try clear hi)) | (go_at_call 37; (with_reducible refine (turn_Feasible.calls kj82 _ _ l0 t799 t800 false t802 _ ?side1 ?side2 A94.out (HN.out.of (bl_))).mono ?_); (case side1 => repeat (first | exact (Kd.C_below HR0.out HB.out) | (with_reducible refine Kd.C_alloc ?_ _) | (with_reducible refine Kd.C_drewN ?_ _) | (with_reducible refine Kd.C_drew ?_))); (case side2 => exact HC0.out); rintro e w101 ⟨rfl, hb⟩; have n0_ := Aside0.mk (blk_below (g := gb775) (o := .cells #[.int .i64 t772, .int .i64 t773] 26 (0, 0)) (bk_ BK775.out) hb); have n1_ := Aside0.mk (blk_below (g := gb783) (o := .cells #[.int .i64 t780, .int .i64 t781] 26 (0, 0)) (bk_ BK783.out) hb); have n2_ := Aside0.mk (below_step (bl_) hb); clear BK775; clear BK783; clear HB; have BK775 := n0_; have BK783 := n1_; have HB := n2_; clear n0_ n1_ n2_; (try clear hb); (try clear hb2); (try clear hk); (try clear hi)) | (go_at_call 17; (with_reducible refine (trishawlaw01_alive.calls kj82  t803 _ A99.out (HN.out.of (bl_))).mono ?_); rintro e w102 ⟨rfl, hb⟩; have n0_ := Aside0.mk (blk_below (g := gb775) (o := .cells #[.int .i64 t772, .int .i64 t773] 26 (0, 0)) (bk_ BK775.out) hb); have n1_ := Aside0.mk (blk_below (g := gb783) (o := .cells #[.int .i64 t780, .int .i64 t781] 26 (0, 0)) (bk_ BK783.out) hb); have n2_ := Aside0.mk (below_step (bl_) hb); clear BK775; clear BK783; clear HB; have BK775 := n0_; have BK783 := n1_; have HB := n2_; clear n0_ n1_ n2_; (try clear hb); (try clear hb2); (try clear hk); (try clear hi)))
                       repeat (go_quiet (first | (go_at_call 38; (with_reducible refine (trishawref01_Ratio.calls kj82 (wrap64 ((wrap64 (t772 * (wrap64 (Int.tdiv t769 t773)))) - 1)) t769 t799 t800 _ A93.out).mono ?_); rintro e w100 ⟨rfl, hb⟩; have n0_ := Aside0.mk (blk_below (g := gb775) (o := .cells #[.int .i64 t772, .int .i64 t773] 26 (0, 0)) (bk_ BK775.out) hb); have n1_ := Aside0.mk (blk_below (g := gb783) (o := .cells #[.int .i64 t780, .int .i64 t781] 26 (0, 0)) (bk_ BK783.out) hb); have n2_ := Aside0.mk (below_step (bl_) hb); clear BK775; clear BK783; clear HB; have BK775 := n0_; have BK783 := n1_; have HB := n2_; clear n0_ n1_ n2_; (try clear hb); (try clear hb2); (try clear hk); (try clear hi)) | (go_at_call 37; (with_reducible refine (turn_Feasible.calls kj82 _ _ l0 t799 t800 false t802 _ ?side1 ?side2 A94.out (HN.out.of (bl_))).mono ?_); (case side1 => repeat (first | exact (Kd.C_below HR0.out HB.out) | (with_reducible refine Kd.C_alloc ?_ _) | (with_reducible refine Kd.C_drewN ?_ _) | (with_reducible refine Kd.C_drew ?_))); (case side2 => exact HC0.out); rintro e w101 ⟨rfl, hb⟩; have n0_ := Aside0.mk (blk_below (g := gb775) (o := .cells #[.int .i64 t772, .int .i64 t773] 26 (0, 0)) (bk_ BK775.out) hb); have n1_ := Aside0.mk (blk_below (g := gb783) (o := .cells #[.int .i64 t780, .int .i64 t781] 26 (0, 0)) (bk_ BK783.out) hb); have n2_ := Aside0.mk (below_step (bl_) hb); clear BK775; clear BK783; clear HB; have BK775 := n0_; have BK783 := n1_; have HB := n2_; clear n0_ n1_ n2_; (try clear hb); (try clear hb2); (try clear hk); (try clear hi)) | (go_at_call 17; (with_reducible refine (trishawlaw01_alive.calls kj82  t803 _ A99.out (HN.out.of (bl_))).mono ?_); rintro e w102 ⟨rfl, hb⟩; have n0_ := Aside0.mk (blk_below (g := gb775) (o := .cells #[.int .i64 t772, .int .i64 t773] 26 (0, 0)) (bk_ BK775.out) hb); have n1_ := Aside0.mk (blk_below (g := gb783) (o := .cells #[.int .i64 t780, .int .i64 t781] 26 (0, 0)) (bk_ BK783.out) hb); have n2_ := Aside0.mk (below_step (bl_) hb); clear BK775; clear BK783; clear HB; have BK775 := n0_; have BK783 := n1_; have HB := n2_; clear n0_ n1_ n2_; (try clear hb); (try clear hb2); (try clear hk); (try clear hi))); try go_wp2_with (first | (go_at_call 38; (with_reducible refine (trishawref01_Ratio.calls kj82 (wrap64 ((wrap64 (t772 * (wrap64 (Int.tdiv t769 t773)))) - 1)) t769 t799 t800 _ A93.out).mono ?_); rintro e w100 ⟨rfl, hb⟩; have n0_ := Aside0.mk (blk_below (g := gb775) (o := .cells #[.int .i64 t772, .int .i64 t773] 26 (0, 0)) (bk_ BK775.out) hb); have n1_ := Aside0.mk (blk_below (g := gb783) (o := .cells #[.int .i64 t780, .int .i64 t781] 26 (0, 0)) (bk_ BK783.out) hb); have n2_ := Aside0.mk (below_step (bl_) hb); clear BK775; clear BK783; clear HB; have BK775 := n0_; have BK783 := n1_; have HB := n2_; clear n0_ n1_ n2_; (try clear hb); (try clear hb2); (try clear hk); (try clear hi)) | (go_at_call 37; (with_reducible refine (turn_Feasible.calls kj82 _ _ l0 t799 t800 false t802 _ ?side1 ?side2 A94.out (HN.out.of (bl_))).mono ?_); (case side1 => repeat (first | exact (Kd.C_below HR0.out HB.out) | (with_reducible refine Kd.C_alloc ?_ _) | (with_reducible refine Kd.C_drewN ?_ _) | (with_reducible refine Kd.C_drew ?_))); (case side2 => exact HC0.out); rintro e w101 ⟨rfl, hb⟩; have n0_ := Aside0.mk (blk_below (g := gb775) (o := .cells #[.int .i64 t772, .int .i64 t773] 26 (0, 0)) (bk_ BK775.out) hb); have n1_ := Aside0.mk (blk_below (g := gb783) (o := .cells #[.int .i64 t780, .int .i64 t781] 26 (0, 0)) (bk_ BK783.out) hb); have n2_ := Aside0.mk (below_step (bl_) hb); clear BK775; clear BK783; clear HB; have BK775 := n0_; have BK783 := n1_; have HB := n2_; clear n0_ n1_ n2_; (try clear hb); (try clear hb2); (try clear hk); (try clear hi)) | (go_at_call 17; (with_reducible refine (trishawlaw01_alive.calls kj82  t803 _ A99.out (HN.out.of (bl_))).mono ?_); rintro e w102 ⟨rfl, hb⟩; have n0_ := Aside0.mk (blk_below (g := gb775) (o := .cells #[.int .i64 t772, .int .i64 t773] 26 (0, 0)) (bk_ BK775.out) hb); have n1_ := Aside0.mk (blk_below (g := gb783) (o := .cells #[.int .i64 t780, .int .i64 t781] 26 (0, 0)) (bk_ BK783.out) hb); have n2_ := Aside0.mk (below_step (bl_) hb); clear BK775; clear BK783; clear HB; have BK775 := n0_; have BK783 := n1_; have HB := n2_; clear n0_ n1_ n2_; (try clear hb); (try clear hb2); (try clear hk); (try clear hi))))
                       go_ret
                       exact ⟨by first | rfl | (simp [errW_none, errW_some] <;> rfl) | (simp [*, errW_none, errW_some] <;> rfl), bl_⟩
                     ·rw [if_neg c95] at H
                      have c95b0 : (t802 == 0) = false := beq_eq_false_iff_ne.mpr c95
                      have c95b1 : (t802 != 0) = true := bne_iff_ne.mpr c95
                      exact absurd (Option.some.inj (H.trans (congrArg some hr.out))) (by decide)

/-- THE ONE PURE STATEMENT of trishawlaw01_TurnLeast: yours. -/
def trishawlaw01_TurnLeast.Pure : Prop := ∀ (l0 : List Int), l0.length ≤ maxLen → l0.length * 8 ≤ 140737488351232 → (∀ x ∈ l0, (Lit.int .i64 x).wf = true) → ∃ k, trishawlaw01_TurnLeast.f k l0 = some true
theorem trishawlaw01_TurnLeast.walk (P : trishawlaw01_TurnLeast.Pure) (a0 : Option Addr) (len0 cap0 : Nat) (z0 : List Int) (w : World) (w0 : (a0 = none ∧ len0 = 0 ∧ cap0 = 0 ∧ z0 = []) ∨ ∃ x, a0 = some x ∧ len0 ≤ cap0 ∧ cap0 ≤ maxLen ∧ z0.length = cap0 ∧ (∀ i, i < z0.length → w.cell? (x.add i) = some (.int .i64 (z0.getD i 0))) ∧ ∀ n ∈ z0, (Lit.int .i64 n).wf = true) (y0 : len0 * 8 ≤ 140737488351232) (hN0 : NoneLaid w) :
    Calls Tryd.prog 12 #[.slice a0 len0 cap0] w fun e w' => e = .returned (.bool true) ∧ Below w.heap.size w w' := by
 obtain ⟨l0, rfl, hr0, hm0, hw0, hc0⟩ := ReadsInt.ofRowC w0
 obtain ⟨k, h⟩ := P l0 hm0 y0 hw0
 refine (trishawlaw01_TurnLeast.calls k _ _ l0 true w (Kd.C_of_reads (d := (0 : Int)) (h1 := fun _ => rfl) hr0) hc0 h hN0 rfl).mono ?_
 rintro e w' ⟨rfl, hd⟩
 exact ⟨rfl, hd⟩

end Go.Proofs.YtgobffgogmnmpaaDoor.P
