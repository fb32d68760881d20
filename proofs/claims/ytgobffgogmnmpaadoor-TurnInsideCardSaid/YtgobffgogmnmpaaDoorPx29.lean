-- Written by wip/tools/myprint.py of this session's repo, over the kit's printer and hand texts.
import Derived.Test.YtgobffgogmnmpaaDoorPx0
import Derived.Test.YtgobffgogmnmpaaDoorPre
import Derived.Test.YtgobffgogmnmpaaDoorPx3
import Derived.Test.YtgobffgogmnmpaaDoorPx4
import Derived.Test.YtgobffgogmnmpaaDoorPx9
import Derived.Test.YtgobffgogmnmpaaDoorPx10
import Derived.Test.YtgobffgogmnmpaaDoorPx16
import Derived.Test.YtgobffgogmnmpaaDoorPx28
namespace Go.Proofs.YtgobffgogmnmpaaDoor.P
open Go.RowKit Go.Proofs.YtgobffgogmnmpaaDoorW.PrintWords Go.Proofs.YtgobffgogmnmpaaDoorW.PrintLast Go.Proofs.YtgobffgogmnmpaaDoorW.PrintMore
attribute [local go_sem] max2_int min2_int max_two min_two max_three min_three max_four min_four   -- for this text's walks alone
set_option linter.unusedVariables false
set_option linter.unusedSimpArgs false

/-! ### trishawlaw01_TurnInside: function 11 -/
mutual
def trishawlaw01_TurnInside.j0 : Nat → List Int → List Int → Int → Bool → Int → Int → Int → Int → Option (Bool)
  | 0, _, _, _, _, _, _, _, _ => none
  | k + 1, x0, x1, x9, x41, x702000, x702001, x703000, x703001 => if x41 = true then ((trishawlaw01_alive.f k).bind fun t707 => (some t707)) else ((turn_Windows.f k x0 x702000 x702001).bind fun bt708 => (if bt708.2 = 0 then (trishawlaw01_TurnInside.j1 k x0 x1 x9 bt708.1 ((bt708.1.length : Int) != (x0.length : Int)) x702000 x702001 x703000 x703001) else (trishawlaw01_TurnInside.j1 k x0 x1 x9 bt708.1 true x702000 x702001 x703000 x703001)))
def trishawlaw01_TurnInside.j1 : Nat → List Int → List Int → Int → List (List (S51)) → Bool → Int → Int → Int → Int → Option (Bool)
  | 0, _, _, _, _, _, _, _, _, _ => none
  | k + 1, x0, x1, x9, x11, x57, x702000, x702001, x703000, x703001 => if x57 = true then (some false) else (trishawlaw01_TurnInside.l0 k x0 x1 x9 x11 0 x702000 x702001 x703000 x703001)
def trishawlaw01_TurnInside.l0 : Nat → List Int → List Int → Int → List (List (S51)) → Int → Int → Int → Int → Int → Option (Bool)
  | 0, _, _, _, _, _, _, _, _, _ => none
  | k + 1, x0, x1, x9, x11, x13, x702000, x702001, x703000, x703001 => if x13 < (x0.length : Int) then (if 0 ≤ x13 then (if x13 < (x11.length : Int) then (if ((rd_L2 x11 x13).length : Int) = (rd x0 x13) then (trishawlaw01_TurnInside.l0 k x0 x1 x9 x11 (wrap64 (x13 + 1)) x702000 x702001 x703000 x703001) else (some false)) else (none)) else (none)) else ((turn_Windows.f k x0 x703000 x703001).bind fun bt714 => (if bt714.2 = 0 then (if x702001 < 1073741824 then (if x703001 < 1073741824 then ((trishawlaw01_atMost.f x702000 x702001 x703000 x703001).bind fun t718 => (trishawlaw01_TurnInside.j3 k x0 x1 x9 x11 bt714.1 t718 x702000 x702001)) else (trishawlaw01_TurnInside.j3 k x0 x1 x9 x11 bt714.1 false x702000 x702001)) else (trishawlaw01_TurnInside.j3 k x0 x1 x9 x11 bt714.1 false x702000 x702001)) else (trishawlaw01_TurnInside.j3 k x0 x1 x9 x11 bt714.1 false x702000 x702001)))
def trishawlaw01_TurnInside.j3 : Nat → List Int → List Int → Int → List (List (S51)) → List (List (S51)) → Bool → Int → Int → Option (Bool)
  | 0, _, _, _, _, _, _, _, _ => none
  | k + 1, x0, x1, x9, x11, x14, x96, x702000, x702001 => if x96 = true then (trishawlaw01_TurnInside.l1 k x0 x1 x9 x11 x14 0 x702000 x702001) else (trishawlaw01_TurnInside.j8 k x0 x1 x9 x11 x702000 x702001)
def trishawlaw01_TurnInside.j8 : Nat → List Int → List Int → Int → List (List (S51)) → Int → Int → Option (Bool)
  | 0, _, _, _, _, _, _ => none
  | k + 1, x0, x1, x9, x11, x702000, x702001 => if (x1.length : Int) = x9 then ((trishawref01_Days.f k x1 (x0.length : Int)).bind fun t734 => (trishawlaw01_TurnInside.j9 k x0 x1 x9 x11 (t734 != 0) x702000 x702001)) else (trishawlaw01_TurnInside.j9 k x0 x1 x9 x11 true x702000 x702001)
def trishawlaw01_TurnInside.j9 : Nat → List Int → List Int → Int → List (List (S51)) → Bool → Int → Int → Option (Bool)
  | 0, _, _, _, _, _, _, _ => none
  | k + 1, x0, x1, x9, x11, x195, x702000, x702001 => if x195 = true then ((trishawlaw01_alive.f k).bind fun t735 => (some t735)) else (if 0 ≤ (x0.length : Int) then (if ((x0.length : Int) : Int).toNat ≤ 35184372088832 then (trishawlaw01_TurnInside.l3 k x0 x1 x9 x11 (List.replicate ((x0.length : Int) : Int).toNat 0) true 0 x702000 x702001) else (none)) else (none))
def trishawlaw01_TurnInside.l3 : Nat → List Int → List Int → Int → List (List (S51)) → List Int → Bool → Int → Int → Int → Option (Bool)
  | 0, _, _, _, _, _, _, _, _, _ => none
  | k + 1, x0, x1, x9, x11, x18, x19, x20, x702000, x702001 => if x20 < x9 then (if 0 ≤ x20 then (if x20 < (x1.length : Int) then (if 0 ≤ (rd x1 x20) then (if (rd x1 x20) < (x18.length : Int) then (if (rd x1 x20) < (x0.length : Int) then (if (rd x18 (rd x1 x20)) = (rd x0 (rd x1 x20)) then ((trishawlaw01_alive.f k).bind fun t742 => (some t742)) else (if (rd x1 x20) < (x11.length : Int) then (if 0 ≤ (rd x18 (rd x1 x20)) then (if (rd x18 (rd x1 x20)) < ((rd_L2 x11 (rd x1 x20)).length : Int) then (if x19 = true then (if ((rd_T51 (rd_L2 x11 (rd x1 x20)) (rd x18 (rd x1 x20))).f0) ≤ x20 then (trishawlaw01_TurnInside.l3 k x0 x1 x9 x11 (x18.set ((rd x1 x20) : Int).toNat (wrap64 ((rd x18 (rd x1 x20)) + 1))) (decide (x20 ≤ ((rd_T51 (rd_L2 x11 (rd x1 x20)) (rd x18 (rd x1 x20))).f1))) (wrap64 (x20 + 1)) x702000 x702001) else (trishawlaw01_TurnInside.l3 k x0 x1 x9 x11 (x18.set ((rd x1 x20) : Int).toNat (wrap64 ((rd x18 (rd x1 x20)) + 1))) false (wrap64 (x20 + 1)) x702000 x702001)) else (trishawlaw01_TurnInside.l3 k x0 x1 x9 x11 (x18.set ((rd x1 x20) : Int).toNat (wrap64 ((rd x18 (rd x1 x20)) + 1))) false (wrap64 (x20 + 1)) x702000 x702001)) else (none)) else (none)) else (none))) else (none)) else (none)) else (none)) else (none)) else (none)) else ((turn_Deviation.f k x0 x1).bind fun bt753 => (if bt753.2.2 = 0 then ((trishawlaw01_small.f bt753.1 bt753.2.1).bind fun t757 => (if t757 = true then (if x702001 ≥ 1073741824 then ((trishawlaw01_alive.f k).bind fun t758 => (some t758)) else ((trishawlaw01_atMost.f bt753.1 bt753.2.1 x702000 x702001).bind fun t759 => (if (x19 == t759) = true then ((trishawlaw01_alive.f k).bind fun t760 => (some t760)) else (some false)))) else (some false))) else (some false)))
def trishawlaw01_TurnInside.l1 : Nat → List Int → List Int → Int → List (List (S51)) → List (List (S51)) → Int → Int → Int → Option (Bool)
  | 0, _, _, _, _, _, _, _, _ => none
  | k + 1, x0, x1, x9, x11, x14, x16, x702000, x702001 => if x16 < (x0.length : Int) then (trishawlaw01_TurnInside.j5 k x0 x1 x9 x11 x14 x16 ((x14.length : Int) == (x0.length : Int)) x702000 x702001) else (trishawlaw01_TurnInside.j5 k x0 x1 x9 x11 x14 x16 false x702000 x702001)
def trishawlaw01_TurnInside.j5 : Nat → List Int → List Int → Int → List (List (S51)) → List (List (S51)) → Int → Bool → Int → Int → Option (Bool)
  | 0, _, _, _, _, _, _, _, _, _ => none
  | k + 1, x0, x1, x9, x11, x14, x16, x107, x702000, x702001 => if x107 = true then (trishawlaw01_TurnInside.l2 k x0 x1 x9 x11 x14 x16 0 x702000 x702001) else (trishawlaw01_TurnInside.j8 k x0 x1 x9 x11 x702000 x702001)
def trishawlaw01_TurnInside.l2 : Nat → List Int → List Int → Int → List (List (S51)) → List (List (S51)) → Int → Int → Int → Int → Option (Bool)
  | 0, _, _, _, _, _, _, _, _, _ => none
  | k + 1, x0, x1, x9, x11, x14, x16, x17, x702000, x702001 => if 0 ≤ x16 then (if x16 < (x0.length : Int) then (if x17 < (rd x0 x16) then (if x16 < (x14.length : Int) then (trishawlaw01_TurnInside.j7 k x0 x1 x9 x11 x14 x16 x17 (((rd_L2 x14 x16).length : Int) == (rd x0 x16)) x702000 x702001) else (none)) else (trishawlaw01_TurnInside.j7 k x0 x1 x9 x11 x14 x16 x17 false x702000 x702001)) else (none)) else (none)
def trishawlaw01_TurnInside.j7 : Nat → List Int → List Int → Int → List (List (S51)) → List (List (S51)) → Int → Int → Bool → Int → Int → Option (Bool)
  | 0, _, _, _, _, _, _, _, _, _, _ => none
  | k + 1, x0, x1, x9, x11, x14, x16, x17, x127, x702000, x702001 => if x127 = true then (if 0 ≤ x16 then (if x16 < (x11.length : Int) then (if 0 ≤ x17 then (if x17 < ((rd_L2 x11 x16).length : Int) then (if ((rd_T51 (rd_L2 x11 x16) x17).f0) ≤ ((rd_T51 (rd_L2 x11 x16) x17).f1) then (if x16 < (x14.length : Int) then (if x17 < ((rd_L2 x14 x16).length : Int) then (if ((rd_T51 (rd_L2 x14 x16) x17).f0) > ((rd_T51 (rd_L2 x11 x16) x17).f0) then (some false) else (if ((rd_T51 (rd_L2 x14 x16) x17).f1) < ((rd_T51 (rd_L2 x11 x16) x17).f1) then (some false) else (trishawlaw01_TurnInside.l2 k x0 x1 x9 x11 x14 x16 (wrap64 (x17 + 1)) x702000 x702001))) else (none)) else (none)) else (trishawlaw01_TurnInside.l2 k x0 x1 x9 x11 x14 x16 (wrap64 (x17 + 1)) x702000 x702001)) else (none)) else (none)) else (none)) else (none)) else (trishawlaw01_TurnInside.l1 k x0 x1 x9 x11 x14 (wrap64 (x16 + 1)) x702000 x702001)
end
def trishawlaw01_TurnInside.f (k : Nat) (l0 : List Int) (l1 : List Int) (a2_0 : Int) (a2_1 : Int) (a3_0 : Int) (a3_1 : Int) : Option (Bool) := (trishawref01_Shares.f k l0).bind fun bt703 => ((trishawlaw01_few.f l0 l1).bind fun t705 => (if t705 = true then (if bt703.2 = 0 then ((trishawref01_IsBound.f k a2_0 a2_1).bind fun t706 => (trishawlaw01_TurnInside.j0 k l0 l1 bt703.1 (!t706) a2_0 a2_1 a3_0 a3_1)) else (trishawlaw01_TurnInside.j0 k l0 l1 bt703.1 true a2_0 a2_1 a3_0 a3_1)) else (trishawlaw01_TurnInside.j0 k l0 l1 bt703.1 true a2_0 a2_1 a3_0 a3_1)))
theorem trishawlaw01_TurnInside.mono_l : ∀ k, (∀ y0 y1 y2 y3 y4 y5 y6 y7, LeO (trishawlaw01_TurnInside.j0 k y0 y1 y2 y3 y4 y5 y6 y7) (trishawlaw01_TurnInside.j0 (k + 1) y0 y1 y2 y3 y4 y5 y6 y7)) ∧ (∀ y0 y1 y2 y3 y4 y5 y6 y7 y8, LeO (trishawlaw01_TurnInside.j1 k y0 y1 y2 y3 y4 y5 y6 y7 y8) (trishawlaw01_TurnInside.j1 (k + 1) y0 y1 y2 y3 y4 y5 y6 y7 y8)) ∧ (∀ y0 y1 y2 y3 y4 y5 y6 y7 y8, LeO (trishawlaw01_TurnInside.l0 k y0 y1 y2 y3 y4 y5 y6 y7 y8) (trishawlaw01_TurnInside.l0 (k + 1) y0 y1 y2 y3 y4 y5 y6 y7 y8)) ∧ (∀ y0 y1 y2 y3 y4 y5 y6 y7, LeO (trishawlaw01_TurnInside.j3 k y0 y1 y2 y3 y4 y5 y6 y7) (trishawlaw01_TurnInside.j3 (k + 1) y0 y1 y2 y3 y4 y5 y6 y7)) ∧ (∀ y0 y1 y2 y3 y4 y5, LeO (trishawlaw01_TurnInside.j8 k y0 y1 y2 y3 y4 y5) (trishawlaw01_TurnInside.j8 (k + 1) y0 y1 y2 y3 y4 y5)) ∧ (∀ y0 y1 y2 y3 y4 y5 y6, LeO (trishawlaw01_TurnInside.j9 k y0 y1 y2 y3 y4 y5 y6) (trishawlaw01_TurnInside.j9 (k + 1) y0 y1 y2 y3 y4 y5 y6)) ∧ (∀ y0 y1 y2 y3 y4 y5 y6 y7 y8, LeO (trishawlaw01_TurnInside.l3 k y0 y1 y2 y3 y4 y5 y6 y7 y8) (trishawlaw01_TurnInside.l3 (k + 1) y0 y1 y2 y3 y4 y5 y6 y7 y8)) ∧ (∀ y0 y1 y2 y3 y4 y5 y6 y7, LeO (trishawlaw01_TurnInside.l1 k y0 y1 y2 y3 y4 y5 y6 y7) (trishawlaw01_TurnInside.l1 (k + 1) y0 y1 y2 y3 y4 y5 y6 y7)) ∧ (∀ y0 y1 y2 y3 y4 y5 y6 y7 y8, LeO (trishawlaw01_TurnInside.j5 k y0 y1 y2 y3 y4 y5 y6 y7 y8) (trishawlaw01_TurnInside.j5 (k + 1) y0 y1 y2 y3 y4 y5 y6 y7 y8)) ∧ (∀ y0 y1 y2 y3 y4 y5 y6 y7 y8, LeO (trishawlaw01_TurnInside.l2 k y0 y1 y2 y3 y4 y5 y6 y7 y8) (trishawlaw01_TurnInside.l2 (k + 1) y0 y1 y2 y3 y4 y5 y6 y7 y8)) ∧ (∀ y0 y1 y2 y3 y4 y5 y6 y7 y8 y9, LeO (trishawlaw01_TurnInside.j7 k y0 y1 y2 y3 y4 y5 y6 y7 y8 y9) (trishawlaw01_TurnInside.j7 (k + 1) y0 y1 y2 y3 y4 y5 y6 y7 y8 y9))
  | 0 => ⟨fun _ _ _ _ _ _ _ _ r h => by simp [trishawlaw01_TurnInside.j0] at h, fun _ _ _ _ _ _ _ _ _ r h => by simp [trishawlaw01_TurnInside.j1] at h, fun _ _ _ _ _ _ _ _ _ r h => by simp [trishawlaw01_TurnInside.l0] at h, fun _ _ _ _ _ _ _ _ r h => by simp [trishawlaw01_TurnInside.j3] at h, fun _ _ _ _ _ _ r h => by simp [trishawlaw01_TurnInside.j8] at h, fun _ _ _ _ _ _ _ r h => by simp [trishawlaw01_TurnInside.j9] at h, fun _ _ _ _ _ _ _ _ _ r h => by simp [trishawlaw01_TurnInside.l3] at h, fun _ _ _ _ _ _ _ _ r h => by simp [trishawlaw01_TurnInside.l1] at h, fun _ _ _ _ _ _ _ _ _ r h => by simp [trishawlaw01_TurnInside.j5] at h, fun _ _ _ _ _ _ _ _ _ r h => by simp [trishawlaw01_TurnInside.l2] at h, fun _ _ _ _ _ _ _ _ _ _ r h => by simp [trishawlaw01_TurnInside.j7] at h⟩
  | k + 1 => by
    obtain ⟨ih0, ih1, ih2, ih3, ih4, ih5, ih6, ih7, ih8, ih9, ih10⟩ := trishawlaw01_TurnInside.mono_l k
    refine ⟨?_, ?_, ?_, ?_, ?_, ?_, ?_, ?_, ?_, ?_, ?_⟩
    · intro y0 y1 y2 y3 y4 y5 y6 y7
      unfold trishawlaw01_TurnInside.j0
      with_reducible repeat' first | exact ih0 _ _ _ _ _ _ _ _ | exact ih1 _ _ _ _ _ _ _ _ _ | exact ih2 _ _ _ _ _ _ _ _ _ | exact ih3 _ _ _ _ _ _ _ _ | exact ih4 _ _ _ _ _ _ | exact ih5 _ _ _ _ _ _ _ | exact ih6 _ _ _ _ _ _ _ _ _ | exact ih7 _ _ _ _ _ _ _ _ | exact ih8 _ _ _ _ _ _ _ _ _ | exact ih9 _ _ _ _ _ _ _ _ _ | exact ih10 _ _ _ _ _ _ _ _ _ _ | exact trishawlaw01_alive.mono _ | exact trishawref01_Days.mono _ _ _ | exact trishawref01_IsBound.mono _ _ _ | exact trishawref01_Shares.mono _ _ | exact turn_Deviation.mono _ _ _ | exact turn_Windows.mono _ _ _ _ | exact LeO.refl _ | exact LeO.none _ | refine LeO.ite ?_ ?_ | refine LeO.bind ?_ (fun _ => ?_)
    · intro y0 y1 y2 y3 y4 y5 y6 y7 y8
      unfold trishawlaw01_TurnInside.j1
      with_reducible repeat' first | exact ih0 _ _ _ _ _ _ _ _ | exact ih1 _ _ _ _ _ _ _ _ _ | exact ih2 _ _ _ _ _ _ _ _ _ | exact ih3 _ _ _ _ _ _ _ _ | exact ih4 _ _ _ _ _ _ | exact ih5 _ _ _ _ _ _ _ | exact ih6 _ _ _ _ _ _ _ _ _ | exact ih7 _ _ _ _ _ _ _ _ | exact ih8 _ _ _ _ _ _ _ _ _ | exact ih9 _ _ _ _ _ _ _ _ _ | exact ih10 _ _ _ _ _ _ _ _ _ _ | exact trishawlaw01_alive.mono _ | exact trishawref01_Days.mono _ _ _ | exact trishawref01_IsBound.mono _ _ _ | exact trishawref01_Shares.mono _ _ | exact turn_Deviation.mono _ _ _ | exact turn_Windows.mono _ _ _ _ | exact LeO.refl _ | exact LeO.none _ | refine LeO.ite ?_ ?_ | refine LeO.bind ?_ (fun _ => ?_)
    · intro y0 y1 y2 y3 y4 y5 y6 y7 y8
      unfold trishawlaw01_TurnInside.l0
      with_reducible repeat' first | exact ih0 _ _ _ _ _ _ _ _ | exact ih1 _ _ _ _ _ _ _ _ _ | exact ih2 _ _ _ _ _ _ _ _ _ | exact ih3 _ _ _ _ _ _ _ _ | exact ih4 _ _ _ _ _ _ | exact ih5 _ _ _ _ _ _ _ | exact ih6 _ _ _ _ _ _ _ _ _ | exact ih7 _ _ _ _ _ _ _ _ | exact ih8 _ _ _ _ _ _ _ _ _ | exact ih9 _ _ _ _ _ _ _ _ _ | exact ih10 _ _ _ _ _ _ _ _ _ _ | exact trishawlaw01_alive.mono _ | exact trishawref01_Days.mono _ _ _ | exact trishawref01_IsBound.mono _ _ _ | exact trishawref01_Shares.mono _ _ | exact turn_Deviation.mono _ _ _ | exact turn_Windows.mono _ _ _ _ | exact LeO.refl _ | exact LeO.none _ | refine LeO.ite ?_ ?_ | refine LeO.bind ?_ (fun _ => ?_)
    · intro y0 y1 y2 y3 y4 y5 y6 y7
      unfold trishawlaw01_TurnInside.j3
      with_reducible repeat' first | exact ih0 _ _ _ _ _ _ _ _ | exact ih1 _ _ _ _ _ _ _ _ _ | exact ih2 _ _ _ _ _ _ _ _ _ | exact ih3 _ _ _ _ _ _ _ _ | exact ih4 _ _ _ _ _ _ | exact ih5 _ _ _ _ _ _ _ | exact ih6 _ _ _ _ _ _ _ _ _ | exact ih7 _ _ _ _ _ _ _ _ | exact ih8 _ _ _ _ _ _ _ _ _ | exact ih9 _ _ _ _ _ _ _ _ _ | exact ih10 _ _ _ _ _ _ _ _ _ _ | exact trishawlaw01_alive.mono _ | exact trishawref01_Days.mono _ _ _ | exact trishawref01_IsBound.mono _ _ _ | exact trishawref01_Shares.mono _ _ | exact turn_Deviation.mono _ _ _ | exact turn_Windows.mono _ _ _ _ | exact LeO.refl _ | exact LeO.none _ | refine LeO.ite ?_ ?_ | refine LeO.bind ?_ (fun _ => ?_)
    · intro y0 y1 y2 y3 y4 y5
      unfold trishawlaw01_TurnInside.j8
      with_reducible repeat' first | exact ih0 _ _ _ _ _ _ _ _ | exact ih1 _ _ _ _ _ _ _ _ _ | exact ih2 _ _ _ _ _ _ _ _ _ | exact ih3 _ _ _ _ _ _ _ _ | exact ih4 _ _ _ _ _ _ | exact ih5 _ _ _ _ _ _ _ | exact ih6 _ _ _ _ _ _ _ _ _ | exact ih7 _ _ _ _ _ _ _ _ | exact ih8 _ _ _ _ _ _ _ _ _ | exact ih9 _ _ _ _ _ _ _ _ _ | exact ih10 _ _ _ _ _ _ _ _ _ _ | exact trishawlaw01_alive.mono _ | exact trishawref01_Days.mono _ _ _ | exact trishawref01_IsBound.mono _ _ _ | exact trishawref01_Shares.mono _ _ | exact turn_Deviation.mono _ _ _ | exact turn_Windows.mono _ _ _ _ | exact LeO.refl _ | exact LeO.none _ | refine LeO.ite ?_ ?_ | refine LeO.bind ?_ (fun _ => ?_)
    · intro y0 y1 y2 y3 y4 y5 y6
      unfold trishawlaw01_TurnInside.j9
      with_reducible repeat' first | exact ih0 _ _ _ _ _ _ _ _ | exact ih1 _ _ _ _ _ _ _ _ _ | exact ih2 _ _ _ _ _ _ _ _ _ | exact ih3 _ _ _ _ _ _ _ _ | exact ih4 _ _ _ _ _ _ | exact ih5 _ _ _ _ _ _ _ | exact ih6 _ _ _ _ _ _ _ _ _ | exact ih7 _ _ _ _ _ _ _ _ | exact ih8 _ _ _ _ _ _ _ _ _ | exact ih9 _ _ _ _ _ _ _ _ _ | exact ih10 _ _ _ _ _ _ _ _ _ _ | exact trishawlaw01_alive.mono _ | exact trishawref01_Days.mono _ _ _ | exact trishawref01_IsBound.mono _ _ _ | exact trishawref01_Shares.mono _ _ | exact turn_Deviation.mono _ _ _ | exact turn_Windows.mono _ _ _ _ | exact LeO.refl _ | exact LeO.none _ | refine LeO.ite ?_ ?_ | refine LeO.bind ?_ (fun _ => ?_)
    · intro y0 y1 y2 y3 y4 y5 y6 y7 y8
      unfold trishawlaw01_TurnInside.l3
      with_reducible repeat' first | exact ih0 _ _ _ _ _ _ _ _ | exact ih1 _ _ _ _ _ _ _ _ _ | exact ih2 _ _ _ _ _ _ _ _ _ | exact ih3 _ _ _ _ _ _ _ _ | exact ih4 _ _ _ _ _ _ | exact ih5 _ _ _ _ _ _ _ | exact ih6 _ _ _ _ _ _ _ _ _ | exact ih7 _ _ _ _ _ _ _ _ | exact ih8 _ _ _ _ _ _ _ _ _ | exact ih9 _ _ _ _ _ _ _ _ _ | exact ih10 _ _ _ _ _ _ _ _ _ _ | exact trishawlaw01_alive.mono _ | exact trishawref01_Days.mono _ _ _ | exact trishawref01_IsBound.mono _ _ _ | exact trishawref01_Shares.mono _ _ | exact turn_Deviation.mono _ _ _ | exact turn_Windows.mono _ _ _ _ | exact LeO.refl _ | exact LeO.none _ | refine LeO.ite ?_ ?_ | refine LeO.bind ?_ (fun _ => ?_)
    · intro y0 y1 y2 y3 y4 y5 y6 y7
      unfold trishawlaw01_TurnInside.l1
      with_reducible repeat' first | exact ih0 _ _ _ _ _ _ _ _ | exact ih1 _ _ _ _ _ _ _ _ _ | exact ih2 _ _ _ _ _ _ _ _ _ | exact ih3 _ _ _ _ _ _ _ _ | exact ih4 _ _ _ _ _ _ | exact ih5 _ _ _ _ _ _ _ | exact ih6 _ _ _ _ _ _ _ _ _ | exact ih7 _ _ _ _ _ _ _ _ | exact ih8 _ _ _ _ _ _ _ _ _ | exact ih9 _ _ _ _ _ _ _ _ _ | exact ih10 _ _ _ _ _ _ _ _ _ _ | exact trishawlaw01_alive.mono _ | exact trishawref01_Days.mono _ _ _ | exact trishawref01_IsBound.mono _ _ _ | exact trishawref01_Shares.mono _ _ | exact turn_Deviation.mono _ _ _ | exact turn_Windows.mono _ _ _ _ | exact LeO.refl _ | exact LeO.none _ | refine LeO.ite ?_ ?_ | refine LeO.bind ?_ (fun _ => ?_)
    · intro y0 y1 y2 y3 y4 y5 y6 y7 y8
      unfold trishawlaw01_TurnInside.j5
      with_reducible repeat' first | exact ih0 _ _ _ _ _ _ _ _ | exact ih1 _ _ _ _ _ _ _ _ _ | exact ih2 _ _ _ _ _ _ _ _ _ | exact ih3 _ _ _ _ _ _ _ _ | exact ih4 _ _ _ _ _ _ | exact ih5 _ _ _ _ _ _ _ | exact ih6 _ _ _ _ _ _ _ _ _ | exact ih7 _ _ _ _ _ _ _ _ | exact ih8 _ _ _ _ _ _ _ _ _ | exact ih9 _ _ _ _ _ _ _ _ _ | exact ih10 _ _ _ _ _ _ _ _ _ _ | exact trishawlaw01_alive.mono _ | exact trishawref01_Days.mono _ _ _ | exact trishawref01_IsBound.mono _ _ _ | exact trishawref01_Shares.mono _ _ | exact turn_Deviation.mono _ _ _ | exact turn_Windows.mono _ _ _ _ | exact LeO.refl _ | exact LeO.none _ | refine LeO.ite ?_ ?_ | refine LeO.bind ?_ (fun _ => ?_)
    · intro y0 y1 y2 y3 y4 y5 y6 y7 y8
      unfold trishawlaw01_TurnInside.l2
      with_reducible repeat' first | exact ih0 _ _ _ _ _ _ _ _ | exact ih1 _ _ _ _ _ _ _ _ _ | exact ih2 _ _ _ _ _ _ _ _ _ | exact ih3 _ _ _ _ _ _ _ _ | exact ih4 _ _ _ _ _ _ | exact ih5 _ _ _ _ _ _ _ | exact ih6 _ _ _ _ _ _ _ _ _ | exact ih7 _ _ _ _ _ _ _ _ | exact ih8 _ _ _ _ _ _ _ _ _ | exact ih9 _ _ _ _ _ _ _ _ _ | exact ih10 _ _ _ _ _ _ _ _ _ _ | exact trishawlaw01_alive.mono _ | exact trishawref01_Days.mono _ _ _ | exact trishawref01_IsBound.mono _ _ _ | exact trishawref01_Shares.mono _ _ | exact turn_Deviation.mono _ _ _ | exact turn_Windows.mono _ _ _ _ | exact LeO.refl _ | exact LeO.none _ | refine LeO.ite ?_ ?_ | refine LeO.bind ?_ (fun _ => ?_)
    · intro y0 y1 y2 y3 y4 y5 y6 y7 y8 y9
      unfold trishawlaw01_TurnInside.j7
      with_reducible repeat' first | exact ih0 _ _ _ _ _ _ _ _ | exact ih1 _ _ _ _ _ _ _ _ _ | exact ih2 _ _ _ _ _ _ _ _ _ | exact ih3 _ _ _ _ _ _ _ _ | exact ih4 _ _ _ _ _ _ | exact ih5 _ _ _ _ _ _ _ | exact ih6 _ _ _ _ _ _ _ _ _ | exact ih7 _ _ _ _ _ _ _ _ | exact ih8 _ _ _ _ _ _ _ _ _ | exact ih9 _ _ _ _ _ _ _ _ _ | exact ih10 _ _ _ _ _ _ _ _ _ _ | exact trishawlaw01_alive.mono _ | exact trishawref01_Days.mono _ _ _ | exact trishawref01_IsBound.mono _ _ _ | exact trishawref01_Shares.mono _ _ | exact turn_Deviation.mono _ _ _ | exact turn_Windows.mono _ _ _ _ | exact LeO.refl _ | exact LeO.none _ | refine LeO.ite ?_ ?_ | refine LeO.bind ?_ (fun _ => ?_)
theorem trishawlaw01_TurnInside.mono : ∀ a0 a1 a2 a3 a4 a5 k, LeO (trishawlaw01_TurnInside.f k a0 a1 a2 a3 a4 a5) (trishawlaw01_TurnInside.f (k + 1) a0 a1 a2 a3 a4 a5) := by
  intro a0 a1 a2 a3 a4 a5 k
  obtain ⟨ih0, ih1, ih2, ih3, ih4, ih5, ih6, ih7, ih8, ih9, ih10⟩ := trishawlaw01_TurnInside.mono_l k
  unfold trishawlaw01_TurnInside.f
  with_reducible repeat' first | exact ih0 _ _ _ _ _ _ _ _ | exact ih1 _ _ _ _ _ _ _ _ _ | exact ih2 _ _ _ _ _ _ _ _ _ | exact ih3 _ _ _ _ _ _ _ _ | exact ih4 _ _ _ _ _ _ | exact ih5 _ _ _ _ _ _ _ | exact ih6 _ _ _ _ _ _ _ _ _ | exact ih7 _ _ _ _ _ _ _ _ | exact ih8 _ _ _ _ _ _ _ _ _ | exact ih9 _ _ _ _ _ _ _ _ _ | exact ih10 _ _ _ _ _ _ _ _ _ _ | exact trishawlaw01_alive.mono _ | exact trishawref01_Days.mono _ _ _ | exact trishawref01_IsBound.mono _ _ _ | exact trishawref01_Shares.mono _ _ | exact turn_Deviation.mono _ _ _ | exact turn_Windows.mono _ _ _ _ | exact LeO.refl _ | exact LeO.none _ | refine LeO.ite ?_ ?_ | refine LeO.bind ?_ (fun _ => ?_)
def trishawlaw01_TurnInside.T10 : Bool × List (List Nat × List Nat) := (true, [([], []), ([], []), ([0, 1], [0, 1]), ([2], [2]), ([3], [3]), ([], []), ([], []), ([5, 6], [5, 6]), ([7], [7]), ([4, 8], [4, 8])])
def trishawlaw01_TurnInside.B10 : List Nat := [0, 0, 3, 7, 15, 0, 0, 96, 224, 511]
theorem trishawlaw01_TurnInside.tab10 : rtab .any (opsOf Tryd.f11 10) = trishawlaw01_TurnInside.T10 := by kernel_rfl
theorem trishawlaw01_TurnInside.bits10 : waitsOk trishawlaw01_TurnInside.T10.2 trishawlaw01_TurnInside.B10 = true := by kernel_rfl
def trishawlaw01_TurnInside.T18 : Bool × List (List Nat × List Nat) := (true, [([], []), ([], []), ([], []), ([1, 2], [1, 2]), ([3], [3]), ([0, 4], [0, 4]), ([5], [5]), ([6], [6]), ([6], [6]), ([7, 8, 6], [6, 7, 8]), ([9, 6], [6, 9]), ([10, 6], [6, 10]), ([6], [6]), ([6], [6]), ([12, 13, 6], [6, 12, 13]), ([14, 6], [6, 14]), ([11, 15, 6], [6, 11, 15]), ([6, 16], [6, 16])])
def trishawlaw01_TurnInside.B18 : List Nat := [0, 0, 0, 6, 14, 31, 63, 127, 127, 511, 1023, 2047, 127, 127, 12415, 28799, 65535, 131071]
theorem trishawlaw01_TurnInside.tab18 : rtab .any (opsOf Tryd.f11 18) = trishawlaw01_TurnInside.T18 := by kernel_rfl
theorem trishawlaw01_TurnInside.bits18 : waitsOk trishawlaw01_TurnInside.T18.2 trishawlaw01_TurnInside.B18 = true := by kernel_rfl
def trishawlaw01_TurnInside.T20 : Bool × List (List Nat × List Nat) := (true, [([], []), ([], []), ([0, 1], [0, 1]), ([2], [2]), ([], []), ([3, 4], [3, 4]), ([5], [5]), ([6], [6]), ([], []), ([], []), ([8, 9], [8, 9]), ([10], [10]), ([], []), ([11, 12], [11, 12]), ([13], [13]), ([14], [14]), ([7, 15], [7, 15]), ([16], [16]), ([17], [17]), ([17], [17]), ([18, 19, 17], [17, 18, 19]), ([20, 17], [17, 20]), ([17], [17]), ([21, 22, 17], [17, 21, 22]), ([23, 17], [17, 23]), ([24, 17], [17, 24]), ([17], [17]), ([17], [17]), ([26, 27, 17], [17, 26, 27]), ([28, 17], [17, 28]), ([17], [17]), ([29, 30, 17], [17, 29, 30]), ([31, 17], [17, 31]), ([32, 17], [17, 32]), ([25, 33, 17], [17, 25, 33]), ([34, 17, 17], [17, 34]), ([35], [35]), ([35], [35]), ([36, 37, 35], [35, 36, 37]), ([38, 35], [35, 38]), ([35], [35]), ([39, 40, 35], [35, 39, 40]), ([41, 35], [35, 41]), ([42, 35], [35, 42]), ([35], [35]), ([35], [35]), ([44, 45, 35], [35, 44, 45]), ([46, 35], [35, 46]), ([35], [35]), ([47, 48, 35], [35, 47, 48]), ([49, 35], [35, 49]), ([50, 35], [35, 50]), ([43, 51, 35], [35, 43, 51]), ([35, 52, 17], [17, 35, 52]), ([17, 53], [17, 53])])
def trishawlaw01_TurnInside.B20 : List Nat := [0, 0, 3, 7, 0, 31, 63, 127, 0, 0, 768, 1792, 0, 7936, 16128, 32512, 65535, 131071, 262143, 262143, 1048575, 2097151, 262143, 8388607, 16777215, 33554431, 262143, 262143, 201588735, 470024191, 262143, 2080636927, 4228120575, 8523087871, 17179869183, 34359738367, 68719476735, 68719476735, 274877906943, 549755813887, 68719476735, 2199023255551, 4398046511103, 8796093022207, 68719476735, 68719476735, 52845277609983, 123214021787647, 68719476735, 545426486853631, 1108376440274943, 2234276347117567, 4503599627370495, 9007199254740991, 18014398509481983]
theorem trishawlaw01_TurnInside.tab20 : rtab .any (opsOf Tryd.f11 20) = trishawlaw01_TurnInside.T20 := by kernel_rfl
theorem trishawlaw01_TurnInside.bits20 : waitsOk trishawlaw01_TurnInside.T20.2 trishawlaw01_TurnInside.B20 = true := by kernel_rfl
def trishawlaw01_TurnInside.T30 : Bool × List (List Nat × List Nat) := (true, [([], []), ([], []), ([0, 1], [0, 1]), ([2], [2]), ([], []), ([], []), ([4, 5], [4, 5]), ([6], [6]), ([3, 7], [3, 7])])
def trishawlaw01_TurnInside.B30 : List Nat := [0, 0, 3, 7, 0, 0, 48, 112, 255]
theorem trishawlaw01_TurnInside.tab30 : rtab .any (opsOf Tryd.f11 30) = trishawlaw01_TurnInside.T30 := by kernel_rfl
theorem trishawlaw01_TurnInside.bits30 : waitsOk trishawlaw01_TurnInside.T30.2 trishawlaw01_TurnInside.B30 = true := by kernel_rfl
def trishawlaw01_TurnInside.T32 : Bool × List (List Nat × List Nat) := (true, [([], []), ([], []), ([0, 1], [0, 1]), ([2], [2]), ([], []), ([], []), ([4, 5], [4, 5]), ([6], [6]), ([3, 7], [3, 7]), ([8], [8]), ([], []), ([10, 9, 0, 1, 2, 3, 4, 5, 6, 7, 8, 9, 10], [9, 10])])
def trishawlaw01_TurnInside.B32 : List Nat := [0, 0, 3, 7, 0, 0, 48, 112, 255, 511, 0, 2047]
theorem trishawlaw01_TurnInside.tab32 : rtab .any (opsOf Tryd.f11 32) = trishawlaw01_TurnInside.T32 := by kernel_rfl
theorem trishawlaw01_TurnInside.bits32 : waitsOk trishawlaw01_TurnInside.T32.2 trishawlaw01_TurnInside.B32 = true := by kernel_rfl
set_option maxHeartbeats 8000000 in
set_option maxRecDepth 100000 in
theorem trishawlaw01_TurnInside.calls (k : Nat) (A0 : Option Addr) (c0 : Nat) (l0 : List Int) (A1 : Option Addr) (c1 : Nat) (l1 : List Int) (a2_0 : Int) (a2_1 : Int) (a3_0 : Int) (a3_1 : Int) (r : Bool) (w : World) (hr0 : Kd.C (Kd.int .i64) w A0 l0.length l0) (hc0 : l0.length ≤ c0) (hr1 : Kd.C (Kd.int .i64) w A1 l1.length l1) (hc1 : l1.length ≤ c1) (h : trishawlaw01_TurnInside.f k l0 l1 a2_0 a2_1 a3_0 a3_1 = some r) (hN0 : NoneLaid w) (hr_ : r = true) (hd_ : ∀ k ws, turn_Windows.f k l0 a3_0 a3_1 = some (ws, 0) → a3_1 < 1073741824) :
    Calls Tryd.prog 11 #[.slice A0 l0.length c0, .slice A1 l1.length c1, .agg #[.int .i64 a2_0, .int .i64 a2_1], .agg #[.int .i64 a3_0, .int .i64 a3_1]] w fun e w' => e = .returned (.bool r) ∧ Below w.heap.size w w' := by
 have HN := Aside0.mk hN0
 clear hN0
 have hr := Aside0.mk hr_
 have hd := Aside0.mk hd_
 clear hd_
 clear hr_
 have hu26 := Tryd.underlying26
 have hu51 := Tryd.underlying51
 have HR0 := Aside0.mk hr0
 have HC0 := Aside0.mk hc0
 clear hr0 hc0
 have HR1 := Aside0.mk hr1
 have HC1 := Aside0.mk hc1
 clear hr1 hc1
 have HB := Aside0.mk (Below.refl w.heap.size w)
 have H : ((trishawref01_Shares.f k l0).bind fun bt703 => ((trishawlaw01_few.f l0 l1).bind fun t705 => (if t705 = true then (if bt703.2 = 0 then ((trishawref01_IsBound.f k a2_0 a2_1).bind fun t706 => (trishawlaw01_TurnInside.j0 k l0 l1 bt703.1 (!t706) a2_0 a2_1 a3_0 a3_1)) else (trishawlaw01_TurnInside.j0 k l0 l1 bt703.1 true a2_0 a2_1 a3_0 a3_1)) else (trishawlaw01_TurnInside.j0 k l0 l1 bt703.1 true a2_0 a2_1 a3_0 a3_1)))) = some r := h
 clear h
 obtain ⟨⟨t703, t704⟩, A5, H⟩ := bi_ H
 replace H : ((trishawlaw01_few.f l0 l1).bind fun t705 => (if t705 = true then (if t704 = 0 then ((trishawref01_IsBound.f k a2_0 a2_1).bind fun t706 => (trishawlaw01_TurnInside.j0 k l0 l1 t703 (!t706) a2_0 a2_1 a3_0 a3_1)) else (trishawlaw01_TurnInside.j0 k l0 l1 t703 true a2_0 a2_1 a3_0 a3_1)) else (trishawlaw01_TurnInside.j0 k l0 l1 t703 true a2_0 a2_1 a3_0 a3_1))) = some r := H
 have HC6 := Aside0.mk H
 clear H
 go_enter Tryd.func11, Tryd.ntmps11
 go_upto_region 2 with (first | ((with_reducible refine gate_dst (N := 6) rfl ?_); (try (refine gate_guard (by rfl) ?_; dsimp only)); refine be_ #[.int .i64 a2_0, .int .i64 a2_1] 26 ?_; intro gb701 hg w7 hbox hb; have BK701 := Aside0.mk (hbox); have GW701 := gw_ hg; have GE701 := gw_ hg; replace HB := hb_ hb; clear hb hbox hg) | ((with_reducible refine gate_dst (N := 7) rfl ?_); (try (refine gate_guard (by rfl) ?_; dsimp only)); refine be_ #[.int .i64 a3_0, .int .i64 a3_1] 26 ?_; intro gb702 hg w8 hbox hb; have BK702 := Aside0.mk (hbox); have GW702 := gw_ hg; have GE702 := gw_ hg; replace HB := hb_ hb; have NB701_702 := nl_ hg BK701; have NB702_701 := sy_ NB701_702; replace BK701 := bb_ BK701 hb; clear hb hbox hg) | ((with_reducible refine gate_callee (f := 23) rfl ?_); refine goesL_ (some 26) rfl rfl Tryd.func23 (by kernel_rfl) rfl #[.slice A0 l0.length c0] rfl (as_) ?_; (with_reducible refine (trishawref01_Shares.calls k _ _ l0 t703 t704 _ ?side1 ?side2 A5.out).mono ?_); (case side1 => exact cb_ HR0.out); (case side2 => exact HC0.out); rintro e w' ⟨rfl, ⟨nd, rfl⟩⟩; refine ⟨_, rfl, ?_⟩))
 (try simp only [Act.put, List.setIfInBounds_toArray, List.set_cons_zero, List.set_cons_succ])
 go_cut [41] (fun v41 wc => ∃ (kq : Nat) (x41_5 : Bool), v41 = .bool x41_5 ∧ Aside0 (trishawlaw01_TurnInside.j0 kq l0 l1 t703 x41_5 a2_0 a2_1 a3_0 a3_1 = some r) ∧ Aside0 (kq ≤ k) ∧ Aside0 (wc.heap[gb701]? = some (.cells #[.int .i64 a2_0, .int .i64 a2_1] 26 (0, 0))) ∧ Aside0 (wc.heap[gb702]? = some (.cells #[.int .i64 a3_0, .int .i64 a3_1] 26 (0, 0))) ∧ Aside0 (Below w.heap.size w wc))
 case first =>
  as_aux_lemma =>
  have H := HC6.out
  clear HC6
  obtain ⟨t705, A9, H⟩ := bi_ H
  replace H : (if t705 = true then (if t704 = 0 then ((trishawref01_IsBound.f k a2_0 a2_1).bind fun t706 => (trishawlaw01_TurnInside.j0 k l0 l1 t703 (!t706) a2_0 a2_1 a3_0 a3_1)) else (trishawlaw01_TurnInside.j0 k l0 l1 t703 true a2_0 a2_1 a3_0 a3_1)) else (trishawlaw01_TurnInside.j0 k l0 l1 t703 true a2_0 a2_1 a3_0 a3_1)) = some r := H
  by_cases c10 : t705 = true
  ·subst c10
   have H1 : (if t704 = 0 then ((trishawref01_IsBound.f k a2_0 a2_1).bind fun t706 => (trishawlaw01_TurnInside.j0 k l0 l1 t703 (!t706) a2_0 a2_1 a3_0 a3_1)) else (trishawlaw01_TurnInside.j0 k l0 l1 t703 true a2_0 a2_1 a3_0 a3_1)) = some r := by rw [if_pos rfl] at H; exact H
   clear H
   have H := H1
   clear H1
   by_cases c11 : t704 = 0
   ·rw [if_pos c11] at H
    have c11b0 : (t704 == 0) = true := beq_iff_eq.mpr c11
    have c11b1 : (t704 != 0) = false := bne_eq_false_iff_eq.mpr c11
    clear c11
    (first | rw [c11b0] | (simp only [i64_w, i32_w]; rw [c11b0]) | skip)
    obtain ⟨t706, A12, H⟩ := bi_ H
    replace H : (trishawlaw01_TurnInside.j0 k l0 l1 t703 (!t706) a2_0 a2_1 a3_0 a3_1) = some r := H
    have H' := Aside0.mk H
    clear H
    go_wp2_with (first | ((with_reducible refine gate_callee (f := 16) rfl ?_); refine goesL_ (some 31) rfl rfl Tryd.func16 (by kernel_rfl) rfl #[.slice A0 l0.length c0, .slice A1 l1.length c1] rfl (as_) ?_; (with_reducible refine (trishawlaw01_few.calls _ _ l0 _ _ l1 true _ ?side1 ?side2 ?side3 ?side4 A9.out).mono ?_); (case side1 => exact cb_ HR0.out); (case side2 => exact HC0.out); (case side3 => exact cb_ HR1.out); (case side4 => exact HC1.out); rintro e w' ⟨rfl, ⟨nd, rfl⟩⟩; refine ⟨_, rfl, ?_⟩; have hnb13 := NB701_702.out; have hnc13 := NB702_701.out; have hcz14_0 := bc_ BK701 0 (.int .i64 a2_0); have hcz14_1 := bc_ BK701 1 (.int .i64 a2_1); have hfz14_0 := bz_ BK701 0; have hfz14_1 := bz_ BK701 1) | (go_at_call 35; (with_reducible refine (trishawref01_IsBound.calls k a2_0 a2_1 t706 _ A12.out).mono ?_); rintro e w15 ⟨rfl, hb⟩; replace BK701 := bb_ BK701 hb; replace BK702 := bb_ BK702 hb; replace HB := hb_ hb; clear hb))
    go_meet
    case rel => exact ⟨_, (!t706), rs_, H', ⟨by first | omega | exact Nat.le_refl _⟩, ⟨bk_ BK701.out⟩, ⟨bk_ BK702.out⟩, ⟨bl_⟩⟩
   ·rw [if_neg c11] at H
    have c11b0 : (t704 == 0) = false := beq_eq_false_iff_ne.mpr c11
    have c11b1 : (t704 != 0) = true := bne_iff_ne.mpr c11
    (first | rw [c11b0] | (simp only [i64_w, i32_w]; rw [c11b0]) | skip)
    have H' := Aside0.mk H
    clear H
    go_wp2_with (first | ((with_reducible refine gate_callee (f := 16) rfl ?_); refine goesL_ (some 31) rfl rfl Tryd.func16 (by kernel_rfl) rfl #[.slice A0 l0.length c0, .slice A1 l1.length c1] rfl (as_) ?_; (with_reducible refine (trishawlaw01_few.calls _ _ l0 _ _ l1 true _ ?side1 ?side2 ?side3 ?side4 A9.out).mono ?_); (case side1 => exact cb_ HR0.out); (case side2 => exact HC0.out); (case side3 => exact cb_ HR1.out); (case side4 => exact HC1.out); rintro e w' ⟨rfl, ⟨nd, rfl⟩⟩; refine ⟨_, rfl, ?_⟩))
    go_meet
    case rel => exact ⟨_, (true), rs_, H', ⟨by first | omega | exact Nat.le_refl _⟩, ⟨bk_ BK701.out⟩, ⟨bk_ BK702.out⟩, ⟨bl_⟩⟩
  ·replace c10 := Bool.eq_false_iff.mpr c10
   subst c10
   have H1 : (trishawlaw01_TurnInside.j0 k l0 l1 t703 true a2_0 a2_1 a3_0 a3_1) = some r := by rw [if_neg (show ¬ (false = true) by decide)] at H; exact H
   clear H
   have H := H1
   clear H1
   have H' := Aside0.mk H
   clear H
   go_wp2_with (first | ((with_reducible refine gate_callee (f := 16) rfl ?_); refine goesL_ (some 31) rfl rfl Tryd.func16 (by kernel_rfl) rfl #[.slice A0 l0.length c0, .slice A1 l1.length c1] rfl (as_) ?_; (with_reducible refine (trishawlaw01_few.calls _ _ l0 _ _ l1 false _ ?side1 ?side2 ?side3 ?side4 A9.out).mono ?_); (case side1 => exact cb_ HR0.out); (case side2 => exact HC0.out); (case side3 => exact cb_ HR1.out); (case side4 => exact HC1.out); rintro e w' ⟨rfl, ⟨nd, rfl⟩⟩; refine ⟨_, rfl, ?_⟩))
   go_meet
   case rel => exact ⟨_, (true), rs_, H', ⟨by first | omega | exact Nat.le_refl _⟩, ⟨bk_ BK701.out⟩, ⟨bk_ BK702.out⟩, ⟨bl_⟩⟩
 case rest =>
  as_aux_lemma =>
  clear HC6
  try clear c1
  try clear c2
  try clear p2
  try clear c10
  try clear c11
  try clear c11b0
  try clear c11b1
  try clear c13
  try clear hcz14_0
  try clear hcz14_1
  try clear hfz14_0
  try clear hfz14_1
  obtain ⟨kq, x41_5, rfl, HA, HJ5, BK701, BK702, HB⟩ := hcut
  cases kq with
  | zero => exact absurd HA.out (by simp [trishawlaw01_TurnInside.j0])
  | succ kj5 =>
   have H := HA.out
   clear HA
   simp only [trishawlaw01_TurnInside.j0] at H
   by_cases c16 : x41_5 = true
   ·subst c16
    have H1 : ((trishawlaw01_alive.f kj5).bind fun t707 => (some t707)) = some r := by rw [if_pos rfl] at H; exact H
    clear H
    have H := H1
    clear H1
    obtain ⟨t707, A17, H⟩ := bi_ H
    replace H : (some t707) = some r := H
    obtain rfl := Option.some.inj H
    go_wp2_with (first | ((with_reducible refine gate_callee (f := 17) rfl ?_); refine goesL_ (some 42) rfl rfl Tryd.func17 (by kernel_rfl) rfl #[] rfl (as_) ?_; (with_reducible refine (trishawlaw01_alive.calls kj5  t707 _ A17.out (HN.out.of (bl_))).mono ?_); rintro e w18 ⟨rfl, hb⟩; refine ⟨_, rfl, ?_⟩; replace BK701 := bb_ BK701 hb; replace BK702 := bb_ BK702 hb; replace HB := hb_ hb; clear hb))
    go_ret
    exact ⟨er_, bl_⟩
   ·replace c16 := Bool.eq_false_iff.mpr c16
    subst c16
    have H1 : ((turn_Windows.f kj5 l0 a2_0 a2_1).bind fun bt708 => (if bt708.2 = 0 then (trishawlaw01_TurnInside.j1 kj5 l0 l1 t703 bt708.1 ((bt708.1.length : Int) != (l0.length : Int)) a2_0 a2_1 a3_0 a3_1) else (trishawlaw01_TurnInside.j1 kj5 l0 l1 t703 bt708.1 true a2_0 a2_1 a3_0 a3_1))) = some r := by rw [if_neg (show ¬ (false = true) by decide)] at H; exact H
    clear H
    have H := H1
    clear H1
    obtain ⟨⟨t708, t711⟩, A19, H⟩ := bi_ H
    replace H : (if t711 = 0 then (trishawlaw01_TurnInside.j1 kj5 l0 l1 t703 t708 ((t708.length : Int) != (l0.length : Int)) a2_0 a2_1 a3_0 a3_1) else (trishawlaw01_TurnInside.j1 kj5 l0 l1 t703 t708 true a2_0 a2_1 a3_0 a3_1)) = some r := H
    have HC20 := Aside0.mk H
    clear H
    have hnb21 := NB701_702.out
    have hnc21 := NB702_701.out
    have hcz22_0 := bc_ BK701 0 (.int .i64 a2_0)
    have hcz22_1 := bc_ BK701 1 (.int .i64 a2_1)
    have hfz22_0 := bz_ BK701 0
    have hfz22_1 := bz_ BK701 1
    go_upto_region 5 with (first | ((with_reducible refine gate_callee (f := 36) rfl ?_); refine goesL_ (some 46) rfl rfl Tryd.func36 (by kernel_rfl) rfl #[.slice A0 l0.length c0, .agg #[.int .i64 a2_0, .int .i64 a2_1]] rfl (as_) ?_; (with_reducible refine (turn_Windows.calls kj5 _ _ l0 a2_0 a2_1 t708 t711 _ ?side1 ?side2 A19.out (HN.out.of (bl_))).mono ?_); (case side1 => exact cb_ HR0.out); (case side2 => exact HC0.out); rintro e w23 ⟨v709, rfl, ho0, hb⟩; refine ⟨_, rfl, ?_⟩; have HO710 := Aside0.mk (Kd.S_lower ho0 (below_size (bl_))); replace BK701 := bb_ BK701 hb; replace BK702 := bb_ BK702 hb; replace HB := hb_ hb; clear hb ho0))
    (try simp only [Act.put, List.setIfInBounds_toArray, List.set_cons_zero, List.set_cons_succ])
    go_cut [57] (fun v57 wc => ∃ (kq : Nat) (x57_19 : Bool), v57 = .bool x57_19 ∧ Aside0 (trishawlaw01_TurnInside.j1 kq l0 l1 t703 t708 x57_19 a2_0 a2_1 a3_0 a3_1 = some r) ∧ Aside0 (kq ≤ kj5) ∧ Aside0 (Kd.S (Kd.slice 51 k51) 49 wc w.heap.size (fun _ => True) v709 t708) ∧ Aside0 (wc.heap[gb701]? = some (.cells #[.int .i64 a2_0, .int .i64 a2_1] 26 (0, 0))) ∧ Aside0 (wc.heap[gb702]? = some (.cells #[.int .i64 a3_0, .int .i64 a3_1] 26 (0, 0))) ∧ Aside0 (Below w.heap.size w wc))
    case first =>
     as_aux_lemma =>
     have H := HC20.out
     clear HC20
     by_cases c24 : t711 = 0
     ·rw [if_pos c24] at H
      have c24b0 : (t711 == 0) = true := beq_iff_eq.mpr c24
      have c24b1 : (t711 != 0) = false := bne_eq_false_iff_eq.mpr c24
      clear c24
      (first | rw [c24b0] | (simp only [i64_w, i32_w]; rw [c24b0]) | skip)
      have H' := Aside0.mk H
      clear H
      obtain ⟨Ao25, co25, eo25⟩ := Kd.S_slice HO710.out
      subst eo25
      go_wp2
      go_meet
      case rel => exact ⟨_, (((t708.length : Int) != (l0.length : Int))), rs_, H', ⟨by have := HJ5.out; first | omega | exact Nat.le_refl _⟩, ⟨ks_ HO710.out⟩, ⟨bk_ BK701.out⟩, ⟨bk_ BK702.out⟩, ⟨bl_⟩⟩
     ·rw [if_neg c24] at H
      have c24b0 : (t711 == 0) = false := beq_eq_false_iff_ne.mpr c24
      have c24b1 : (t711 != 0) = true := bne_iff_ne.mpr c24
      (first | rw [c24b0] | (simp only [i64_w, i32_w]; rw [c24b0]) | skip)
      exact absurd hr.out (by intro h_; rw [h_] at H; revert H; cases kj5 <;> simp [trishawlaw01_TurnInside.j1])
    case rest =>
     as_aux_lemma =>
     clear HC20
     try clear c1
     try clear c2
     try clear p2
     try clear c3
     try clear c10
     try clear c11
     try clear c11b0
     try clear c11b1
     try clear c13
     try clear c16
     try clear c17
     try clear c21
     try clear c23
     try clear c24
     try clear c24b0
     try clear c24b1
     try clear hcz14_0
     try clear hcz14_1
     try clear hcz22_0
     try clear hcz22_1
     try clear hfz14_0
     try clear hfz14_1
     try clear hfz22_0
     try clear hfz22_1
     try clear p2
     obtain ⟨kq, x57_19, rfl, HA, HJ19, HO_11, BK701, BK702, HB⟩ := hcut
     cases kq with
     | zero => exact absurd HA.out (by simp [trishawlaw01_TurnInside.j1])
     | succ kj19 =>
      have H := HA.out
      clear HA
      simp only [trishawlaw01_TurnInside.j1] at H
      by_cases c26 : x57_19 = true
      ·subst c26
       have H1 : (some false) = some r := by rw [if_pos rfl] at H; exact H
       clear H
       have H := H1
       clear H1
       exact absurd (Option.some.inj (H.trans (congrArg some hr.out))) (by decide)
      ·replace c26 := Bool.eq_false_iff.mpr c26
       subst c26
       have H1 : (trishawlaw01_TurnInside.l0 kj19 l0 l1 t703 t708 0 a2_0 a2_1 a3_0 a3_1) = some r := by rw [if_neg (show ¬ (false = true) by decide)] at H; exact H
       clear H
       have H := H1
       clear H1
       have H' := Aside0.mk H
       clear H
       go_wp2
       go_loopg [13] kj19 (fun kq v13 w' => ∃ (x13_3 : Int), v13 = .int .i64 x13_3 ∧ Aside0 (trishawlaw01_TurnInside.l0 kq l0 l1 t703 t708 x13_3 a2_0 a2_1 a3_0 a3_1 = some r) ∧ Aside0 (kq ≤ kj19) ∧ Aside0 (Kd.S (Kd.slice 51 k51) 49 w' w.heap.size (fun _ => True) v709 t708) ∧ Aside0 (w'.heap[gb701]? = some (.cells #[.int .i64 a2_0, .int .i64 a2_1] 26 (0, 0))) ∧ Aside0 (w'.heap[gb702]? = some (.cells #[.int .i64 a3_0, .int .i64 a3_1] 26 (0, 0))) ∧ Aside0 (Below w.heap.size w w'))
       case atStart => exact ⟨(0), rs_, H', ⟨Nat.le_refl _⟩, ⟨ks_ HO_11.out⟩, ⟨bk_ BK701.out⟩, ⟨bk_ BK702.out⟩, ⟨bl_⟩⟩
       case round =>
        as_aux_lemma =>
        clear H'
        try clear c1
        try clear c2
        try clear p2
        try clear c3
        try clear c10
        try clear c11
        try clear c11b0
        try clear c11b1
        try clear c13
        try clear c16
        try clear c17
        try clear c21
        try clear c23
        try clear c24
        try clear c24b0
        try clear c24b1
        try clear c26
        try clear hcz14_0
        try clear hcz14_1
        try clear hcz22_0
        try clear hcz22_1
        try clear hfz14_0
        try clear hfz14_1
        try clear hfz22_0
        try clear hfz22_1
        try clear p2
        obtain ⟨x13_3, rfl, HA, HK3, HO_11, BK701, BK702, HB⟩ := hrel
        cases gk with
        | zero => exact absurd HA.out (by simp [trishawlaw01_TurnInside.l0])
        | succ k3 =>
         have H := HA.out
         clear HA
         simp only [trishawlaw01_TurnInside.l0] at H
         by_cases c27 : x13_3 < (l0.length : Int)
         ·rw [if_pos c27] at H
          have c27b0 : decide (x13_3 < (l0.length : Int)) = true := decide_eq_true c27
          clear c27
          obtain ⟨c28b0, H⟩ := fp_ H
          obtain ⟨c29b0, H⟩ := fp_ H
          by_cases c30 : ((rd_L2 t708 x13_3).length : Int) = (rd l0 x13_3)
          ·rw [if_pos c30] at H
           have c30b0 : (((rd_L2 t708 x13_3).length : Int) == (rd l0 x13_3)) = true := beq_iff_eq.mpr c30
           have c30b1 : (((rd_L2 t708 x13_3).length : Int) != (rd l0 x13_3)) = false := bne_eq_false_iff_eq.mpr c30
           clear c30
           have H' := Aside0.mk H
           clear H
           try go_wp2
           replace HO_11 := Aside0.mk (Kd.S_drew HO_11.out)
           replace BK701 := Aside0.mk (blk_drew BK701.out)
           replace BK702 := Aside0.mk (blk_drew BK702.out)
           replace HB := Aside0.mk (below_drew1 HB.out)
           obtain ⟨Ao32, co32, eo32⟩ := Kd.S_slice HO_11.out
           (first | subst eo32 | (injection eo32 with f1_ f2_ f3_; have f4_ := f1_.symm; have f5_ := f3_.symm; clear f1_ f2_ f3_; subst f4_; subst f5_))
           have p712 : 0 ≤ (x13_3 : Int) := od_
           have q712 : x13_3 < (t708.length : Int) := od_
           obtain ⟨ad712, A712_0, c712_0, e712, hx712_0, hl712_0, hi712_0⟩ := at_L2 (Kd.S_reads' HO_11.out).2.2 x13_3 p712 q712
           cases e712
           obtain ⟨ce712, hce712, hMe712, hcc712⟩ := Kd.S_get HO_11.out [] x13_3 p712 (by first | exact q712 | exact od_ | (have e_ := (Kd.S_reads' HO_11.out).1; omega))
           obtain ⟨ve712_0, rfl, ge712_0⟩ := hMe712
           have hv712_0 := hcc712 0 _ rfl
           rw [Nat.add_zero, show ((Kd.slice 51 k51)).sz = 1 from rfl, Nat.mul_one] at hv712_0
           replace hv712_0 := Option.some.inj (hv712_0.symm.trans hx712_0)
           rw [hv712_0] at ge712_0
           have HL712_0 := Aside0.mk (show Kd.R k51 51 _ _ _ _ (rd_L2 t708 x13_3) from ge712_0)
           clear hv712_0 ge712_0
           clear hcc712 hce712
           have HR712_0 := Aside0.mk hi712_0
           have HC712_0 := Aside0.mk hl712_0
           clear hi712_0 hl712_0
           replace p712 := eq_true p712
           replace q712 := eq_true q712
           have p713 : 0 ≤ (x13_3 : Int) := od_
           have q713 : x13_3 < (l0.length : Int) := od_
           obtain ⟨ad713, e713, hx713_0⟩ := Kd.at_int HR0.out x13_3 p713 q713
           have hw713_0 := hx713_0
           cases e713
           replace hx713_0 := hc_ HB hx713_0
           replace p713 := eq_true p713
           replace q713 := eq_true q713
           refine start_ (n := 10) (S := fun w' => w'.cell? (ad712.add (x13_3).toNat) = some (.slice A712_0 (rd_L2 t708 x13_3).length c712_0) ∧ w'.cell? (ad713.add (x13_3).toNat) = some (.int .i64 (rd l0 x13_3))) (ds := []) #[false, false, false, false, false, false, false, false, false, false] (by kernel_rfl) rfl rfl ⟨hx712_0, (hc_ HB hw713_0)⟩ (fun hHeld => ?_); refine with_tabW trishawlaw01_TurnInside.tab10 trishawlaw01_TurnInside.bits10 (fun HT_ HW_ => ?_)
           generalize wr.drew = w31 at HO_11 BK701 BK702 HB HL712_0 HR712_0 hx712_0 hx713_0 hHeld ⊢
           refine pu_ 0 64 HT_.out (h := ?_)
           refine pu_ 1 65 HT_.out (h := ?_)
           refine pu_ 2 66 HT_.out (h := ?_)
           refine pu_ 5 69 HT_.out (h := ?_)
           refine pu_ 6 70 HT_.out (h := ?_)
           refine pu_ 7 71 HT_.out (h := ?_)
           refine ta_ 3 67 HT_.out HW_.out hHeld (h := ?_)
           refine pu_ 4 68 HT_.out (h := ?_)
           refine ta_ 8 72 HT_.out HW_.out hHeld (h := ?_)
           refine pu_ 9 73 HT_.out (h := ?_)
           refine done_ (done_of HT_.out (by kernel_rfl)) ?_
           try go_wp2
           go_roundg k3
           case measure => have := HJ5.out; have := HJ19.out; have := HK3.out; omega
           case rel => exact ⟨(wrap64 (x13_3 + 1)), rs_, H', ⟨by have := HJ5.out; have := HJ19.out; have := HK3.out; omega⟩, ⟨ks_ HO_11.out⟩, ⟨bk_ BK701.out⟩, ⟨bk_ BK702.out⟩, ⟨bl_⟩⟩
          ·rw [if_neg c30] at H
           have c30b0 : (((rd_L2 t708 x13_3).length : Int) == (rd l0 x13_3)) = false := beq_eq_false_iff_ne.mpr c30
           have c30b1 : (((rd_L2 t708 x13_3).length : Int) != (rd l0 x13_3)) = true := bne_iff_ne.mpr c30
           exact absurd (Option.some.inj (H.trans (congrArg some hr.out))) (by decide)
         ·rw [if_neg c27] at H
          have c27b0 : decide (x13_3 < (l0.length : Int)) = false := decide_eq_false c27
          clear c27
          obtain ⟨⟨t714, t717⟩, A35, H⟩ := bi_ H
          replace H : (if t717 = 0 then (if a2_1 < 1073741824 then (if a3_1 < 1073741824 then ((trishawlaw01_atMost.f a2_0 a2_1 a3_0 a3_1).bind fun t718 => (trishawlaw01_TurnInside.j3 k3 l0 l1 t703 t708 t714 t718 a2_0 a2_1)) else (trishawlaw01_TurnInside.j3 k3 l0 l1 t703 t708 t714 false a2_0 a2_1)) else (trishawlaw01_TurnInside.j3 k3 l0 l1 t703 t708 t714 false a2_0 a2_1)) else (trishawlaw01_TurnInside.j3 k3 l0 l1 t703 t708 t714 false a2_0 a2_1)) = some r := H
          have HC36 := Aside0.mk H
          clear H
          have hnb37 := NB702_701.out
          have hnc37 := NB701_702.out
          have hcz38_0 := bc_ BK702 0 (.int .i64 a3_0)
          have hcz38_1 := bc_ BK702 1 (.int .i64 a3_1)
          have hfz38_0 := bz_ BK702 0
          have hfz38_1 := bz_ BK702 1
          go_upto_region 13 with (first | ((with_reducible refine gate_callee (f := 36) rfl ?_); refine goesL_ (some 77) rfl rfl Tryd.func36 (by kernel_rfl) rfl #[.slice A0 l0.length c0, .agg #[.int .i64 a3_0, .int .i64 a3_1]] rfl (as_) ?_; (with_reducible refine (turn_Windows.calls k3 _ _ l0 a3_0 a3_1 t714 t717 _ ?side1 ?side2 A35.out (HN.out.of (bl_))).mono ?_); (case side1 => exact cb_ HR0.out); (case side2 => exact HC0.out); rintro e w39 ⟨v715, rfl, ho0, hb⟩; refine ⟨_, rfl, ?_⟩; have HO716 := Aside0.mk (Kd.S_lower (Kd.S_new' ho0 (Kd.S_lt (ks_ HO_11.out))) (below_size (bl_))); replace HO_11 := Aside0.mk (Kd.S_elder' (ks_ HO_11.out) (Kd.S_base ho0) hb); replace BK701 := bb_ BK701 hb; replace BK702 := bb_ BK702 hb; replace HB := hb_ hb; clear hb ho0))
          (try simp only [Act.put, List.setIfInBounds_toArray, List.set_cons_zero, List.set_cons_succ])
          go_cut [96] (fun v96 wc => ∃ (kq : Nat) (x96_35 : Bool), v96 = .bool x96_35 ∧ Aside0 (trishawlaw01_TurnInside.j3 kq l0 l1 t703 t708 t714 x96_35 a2_0 a2_1 = some r) ∧ Aside0 (kq ≤ k3) ∧ Aside0 (Kd.S (Kd.slice 51 k51) 49 wc w.heap.size (fun k_ => some k_ ≠ (v715 : Value).ownBlock) v709 t708) ∧ Aside0 (Kd.S (Kd.slice 51 k51) 49 wc w.heap.size (fun k_ => some k_ ≠ (v709 : Value).ownBlock) v715 t714) ∧ Aside0 (wc.heap[gb701]? = some (.cells #[.int .i64 a2_0, .int .i64 a2_1] 26 (0, 0))) ∧ Aside0 (wc.heap[gb702]? = some (.cells #[.int .i64 a3_0, .int .i64 a3_1] 26 (0, 0))) ∧ Aside0 (Below w.heap.size w wc))
          case first =>
           as_aux_lemma =>
           have H := HC36.out
           clear HC36
           by_cases c40 : t717 = 0
           ·rw [if_pos c40] at H
            have c40b0 : (t717 == 0) = true := beq_iff_eq.mpr c40
            have c40b1 : (t717 != 0) = false := bne_eq_false_iff_eq.mpr c40
            clear c40
            (first | rw [c40b0] | (simp only [i64_w, i32_w]; rw [c40b0]) | skip)
            by_cases c41 : a2_1 < 1073741824
            ·rw [if_pos c41] at H
             have c41b0 : decide (a2_1 < 1073741824) = true := decide_eq_true c41
             clear c41
             by_cases c42 : a3_1 < 1073741824
             ·rw [if_pos c42] at H
              have c42b0 : decide (a3_1 < 1073741824) = true := decide_eq_true c42
              clear c42
              obtain ⟨t718, A43, H⟩ := bi_ H
              replace H : (trishawlaw01_TurnInside.j3 k3 l0 l1 t703 t708 t714 t718 a2_0 a2_1) = some r := H
              have H' := Aside0.mk H
              clear H
              have hnb44 := NB701_702.out
              have hnc44 := NB702_701.out
              have hcz45_0 := bc_ BK701 0 (.int .i64 a2_0)
              have hcz45_1 := bc_ BK701 1 (.int .i64 a2_1)
              have hfz45_0 := bz_ BK701 0
              have hfz45_1 := bz_ BK701 1
              have hcz46_0 := bc_ BK702 0 (.int .i64 a3_0)
              have hcz46_1 := bc_ BK702 1 (.int .i64 a3_1)
              have hfz46_0 := bz_ BK702 0
              have hfz46_1 := bz_ BK702 1
              go_wp2_with (first | (go_at_call 27; (with_reducible refine (trishawlaw01_atMost.calls a2_0 a2_1 a3_0 a3_1 t718 _ A43.out).mono ?_); rintro e w47 ⟨rfl, hb⟩; replace HO_11 := Aside0.mk (Kd.S_below (ks_ HO_11.out) hb); replace HO716 := Aside0.mk (Kd.S_below (ks_ HO716.out) hb); replace BK701 := bb_ BK701 hb; replace BK702 := bb_ BK702 hb; replace HB := hb_ hb; clear hb))
              go_meet
              case rel => exact ⟨_, (t718), rs_, H', ⟨by have := HJ5.out; have := HJ19.out; have := HK3.out; first | omega | exact Nat.le_refl _⟩, ⟨by refine ks_ ?_; exact Kd.S_mono HO_11.out (fun _ hk => hk.2)⟩, ⟨by refine ks_ ?_; exact Kd.S_mono HO716.out (fun _ hk => hk.2)⟩, ⟨bk_ BK701.out⟩, ⟨bk_ BK702.out⟩, ⟨bl_⟩⟩
             ·exact absurd (hd.out _ _ (by have h_ := A35.out; rw [beq_iff_eq.mp c40b0] at h_; exact h_)) c42
            ·rw [if_neg c41] at H
             have c41b0 : decide (a2_1 < 1073741824) = false := decide_eq_false c41
             clear c41
             have H' := Aside0.mk H
             clear H
             have hnb51 := NB701_702.out
             have hnc51 := NB702_701.out
             have hcz52_0 := bc_ BK701 0 (.int .i64 a2_0)
             have hcz52_1 := bc_ BK701 1 (.int .i64 a2_1)
             have hfz52_0 := bz_ BK701 0
             have hfz52_1 := bz_ BK701 1
             go_wp2
             go_meet
             case rel => exact ⟨_, (false), rs_, H', ⟨by have := HJ5.out; have := HJ19.out; have := HK3.out; first | omega | exact Nat.le_refl _⟩, ⟨by refine ks_ ?_; exact Kd.S_mono HO_11.out (fun _ hk => hk.2)⟩, ⟨by refine ks_ ?_; exact Kd.S_mono HO716.out (fun _ hk => hk.2)⟩, ⟨bk_ BK701.out⟩, ⟨bk_ BK702.out⟩, ⟨bl_⟩⟩
           ·rw [if_neg c40] at H
            have c40b0 : (t717 == 0) = false := beq_eq_false_iff_ne.mpr c40
            have c40b1 : (t717 != 0) = true := bne_iff_ne.mpr c40
            (first | rw [c40b0] | (simp only [i64_w, i32_w]; rw [c40b0]) | skip)
            have H' := Aside0.mk H
            clear H
            go_wp2
            go_meet
            case rel => exact ⟨_, (false), rs_, H', ⟨by have := HJ5.out; have := HJ19.out; have := HK3.out; first | omega | exact Nat.le_refl _⟩, ⟨by refine ks_ ?_; exact Kd.S_mono HO_11.out (fun _ hk => hk.2)⟩, ⟨by refine ks_ ?_; exact Kd.S_mono HO716.out (fun _ hk => hk.2)⟩, ⟨bk_ BK701.out⟩, ⟨bk_ BK702.out⟩, ⟨bl_⟩⟩
          case rest =>
           as_aux_lemma =>
           clear HC36
           try clear c1
           try clear c2
           try clear p2
           try clear c3
           try clear c4
           try clear c5
           try clear p6
           try clear c7
           try clear p7
           try clear q7
           try clear hx7
           try clear c10
           try clear c11
           try clear c11b0
           try clear c11b1
           try clear c13
           try clear c16
           try clear c17
           try clear c21
           try clear c23
           try clear c24
           try clear c24b0
           try clear c24b1
           try clear c26
           try clear c27
           try clear c27b0
           try clear c28
           try clear c28b0
           try clear c29
           try clear c29b0
           try clear c30
           try clear c30b0
           try clear c30b1
           try clear c36
           try clear c37
           try clear c40
           try clear c40b0
           try clear c40b1
           try clear c41
           try clear c41b0
           try clear c42
           try clear c42b0
           try clear c44
           try clear c48
           try clear c51
           try clear hcz14_0
           try clear hcz14_1
           try clear hcz22_0
           try clear hcz22_1
           try clear hcz38_0
           try clear hcz38_1
           try clear hcz45_0
           try clear hcz45_1
           try clear hcz46_0
           try clear hcz46_1
           try clear hcz49_0
           try clear hcz49_1
           try clear hcz50_0
           try clear hcz50_1
           try clear hcz52_0
           try clear hcz52_1
           try clear hfz14_0
           try clear hfz14_1
           try clear hfz22_0
           try clear hfz22_1
           try clear hfz38_0
           try clear hfz38_1
           try clear hfz45_0
           try clear hfz45_1
           try clear hfz46_0
           try clear hfz46_1
           try clear hfz49_0
           try clear hfz49_1
           try clear hfz50_0
           try clear hfz50_1
           try clear hfz52_0
           try clear hfz52_1
           try clear hx712_0
           try clear hx713_0
           try clear p2
           try clear p712
           try clear p713
           try clear q712
           try clear q713
           obtain ⟨kq, x96_35, rfl, HA, HJ35, HO_11, HO_14, BK701, BK702, HB⟩ := hcut
           cases kq with
           | zero => exact absurd HA.out (by simp [trishawlaw01_TurnInside.j3])
           | succ kj35 =>
            have H := HA.out
            clear HA
            simp only [trishawlaw01_TurnInside.j3] at H
            have HC53 := Aside0.mk H
            clear H
            go_upto_if 96 with (fail)
            go_cut [] (fun wc => ∃ (kq : Nat), Aside0 (trishawlaw01_TurnInside.j8 kq l0 l1 t703 t708 a2_0 a2_1 = some r) ∧ Aside0 (kq ≤ kj35) ∧ Aside0 (Kd.S (Kd.slice 51 k51) 49 wc w.heap.size (fun _ => True) v709 t708) ∧ Aside0 (wc.heap[gb701]? = some (.cells #[.int .i64 a2_0, .int .i64 a2_1] 26 (0, 0))) ∧ Aside0 (wc.heap[gb702]? = some (.cells #[.int .i64 a3_0, .int .i64 a3_1] 26 (0, 0))) ∧ Aside0 (Below w.heap.size w wc))
            case first =>
             as_aux_lemma =>
             have H := HC53.out
             clear HC53
             by_cases c54 : x96_35 = true
             ·subst c54
              have H1 : (trishawlaw01_TurnInside.l1 kj35 l0 l1 t703 t708 t714 0 a2_0 a2_1) = some r := by rw [if_pos rfl] at H; exact H
              clear H
              have H := H1
              clear H1
              have H' := Aside0.mk H
              clear H
              go_wp2
              go_loopg [16] kj35 (fun kq v16 w' => ∃ (x16_5 : Int), v16 = .int .i64 x16_5 ∧ Aside0 (trishawlaw01_TurnInside.l1 kq l0 l1 t703 t708 t714 x16_5 a2_0 a2_1 = some r) ∧ Aside0 (kq ≤ kj35) ∧ Aside0 (Kd.S (Kd.slice 51 k51) 49 w' w.heap.size (fun k_ => some k_ ≠ (v715 : Value).ownBlock) v709 t708) ∧ Aside0 (Kd.S (Kd.slice 51 k51) 49 w' w.heap.size (fun k_ => some k_ ≠ (v709 : Value).ownBlock) v715 t714) ∧ Aside0 (w'.heap[gb701]? = some (.cells #[.int .i64 a2_0, .int .i64 a2_1] 26 (0, 0))) ∧ Aside0 (w'.heap[gb702]? = some (.cells #[.int .i64 a3_0, .int .i64 a3_1] 26 (0, 0))) ∧ Aside0 (Below w.heap.size w w'))
              case atStart => exact ⟨(0), rs_, H', ⟨Nat.le_refl _⟩, ⟨ks_ HO_11.out⟩, ⟨ks_ HO_14.out⟩, ⟨bk_ BK701.out⟩, ⟨bk_ BK702.out⟩, ⟨bl_⟩⟩
              case round =>
               as_aux_lemma =>
               clear H'
               try clear c1
               try clear c2
               try clear p2
               try clear c3
               try clear c4
               try clear c5
               try clear p6
               try clear c7
               try clear p7
               try clear q7
               try clear hx7
               try clear c10
               try clear c11
               try clear c11b0
               try clear c11b1
               try clear c13
               try clear c16
               try clear c17
               try clear c21
               try clear c23
               try clear c24
               try clear c24b0
               try clear c24b1
               try clear c26
               try clear c27
               try clear c27b0
               try clear c28
               try clear c28b0
               try clear c29
               try clear c29b0
               try clear c30
               try clear c30b0
               try clear c30b1
               try clear c36
               try clear c37
               try clear c40
               try clear c40b0
               try clear c40b1
               try clear c41
               try clear c41b0
               try clear c42
               try clear c42b0
               try clear c44
               try clear c48
               try clear c51
               try clear c54
               try clear hcz14_0
               try clear hcz14_1
               try clear hcz22_0
               try clear hcz22_1
               try clear hcz38_0
               try clear hcz38_1
               try clear hcz45_0
               try clear hcz45_1
               try clear hcz46_0
               try clear hcz46_1
               try clear hcz49_0
               try clear hcz49_1
               try clear hcz50_0
               try clear hcz50_1
               try clear hcz52_0
               try clear hcz52_1
               try clear hfz14_0
               try clear hfz14_1
               try clear hfz22_0
               try clear hfz22_1
               try clear hfz38_0
               try clear hfz38_1
               try clear hfz45_0
               try clear hfz45_1
               try clear hfz46_0
               try clear hfz46_1
               try clear hfz49_0
               try clear hfz49_1
               try clear hfz50_0
               try clear hfz50_1
               try clear hfz52_0
               try clear hfz52_1
               try clear hx712_0
               try clear hx713_0
               try clear p2
               try clear p6
               try clear p7
               try clear p712
               try clear p713
               try clear q7
               try clear q712
               try clear q713
               obtain ⟨x16_5, rfl, HA, HK5, HO_11, HO_14, BK701, BK702, HB⟩ := hrel
               cases gk with
               | zero => exact absurd HA.out (by simp [trishawlaw01_TurnInside.l1])
               | succ k5 =>
                have H := HA.out
                clear HA
                simp only [trishawlaw01_TurnInside.l1] at H
                have HC55 := Aside0.mk H
                clear H
                go_upto_region 15 with (fail)
                go_cut [107] (fun v107 wc => ∃ (kq : Nat) (x107_54 : Bool), v107 = .bool x107_54 ∧ Aside0 (trishawlaw01_TurnInside.j5 kq l0 l1 t703 t708 t714 x16_5 x107_54 a2_0 a2_1 = some r) ∧ Aside0 (kq ≤ k5) ∧ Aside0 (Kd.S (Kd.slice 51 k51) 49 wc w.heap.size (fun k_ => some k_ ≠ (v715 : Value).ownBlock) v709 t708) ∧ Aside0 (Kd.S (Kd.slice 51 k51) 49 wc w.heap.size (fun k_ => some k_ ≠ (v709 : Value).ownBlock) v715 t714) ∧ Aside0 (wc.heap[gb701]? = some (.cells #[.int .i64 a2_0, .int .i64 a2_1] 26 (0, 0))) ∧ Aside0 (wc.heap[gb702]? = some (.cells #[.int .i64 a3_0, .int .i64 a3_1] 26 (0, 0))) ∧ Aside0 (Below w.heap.size w wc))
                case first =>
                 as_aux_lemma =>
                 have H := HC55.out
                 clear HC55
                 by_cases c56 : x16_5 < (l0.length : Int)
                 ·rw [if_pos c56] at H
                  have c56b0 : decide (x16_5 < (l0.length : Int)) = true := decide_eq_true c56
                  clear c56
                  (first | rw [c56b0] | (simp only [i64_w, i32_w]; rw [c56b0]) | skip)
                  have H' := Aside0.mk H
                  clear H
                  obtain ⟨Ao57, co57, eo57⟩ := Kd.S_slice HO_14.out
                  subst eo57
                  go_wp2
                  go_meet
                  case rel => exact ⟨_, (((t714.length : Int) == (l0.length : Int))), rs_, H', ⟨by have := HJ5.out; have := HJ19.out; have := HK3.out; have := HJ35.out; have := HK5.out; first | omega | exact Nat.le_refl _⟩, ⟨ks_ HO_11.out⟩, ⟨ks_ HO_14.out⟩, ⟨bk_ BK701.out⟩, ⟨bk_ BK702.out⟩, ⟨bl_⟩⟩
                 ·rw [if_neg c56] at H
                  have c56b0 : decide (x16_5 < (l0.length : Int)) = false := decide_eq_false c56
                  clear c56
                  (first | rw [c56b0] | (simp only [i64_w, i32_w]; rw [c56b0]) | skip)
                  have H' := Aside0.mk H
                  clear H
                  go_wp2
                  go_meet
                  case rel => exact ⟨_, (false), rs_, H', ⟨by have := HJ5.out; have := HJ19.out; have := HK3.out; have := HJ35.out; have := HK5.out; first | omega | exact Nat.le_refl _⟩, ⟨ks_ HO_11.out⟩, ⟨ks_ HO_14.out⟩, ⟨bk_ BK701.out⟩, ⟨bk_ BK702.out⟩, ⟨bl_⟩⟩
                case rest =>
                 as_aux_lemma =>
                 clear HC55
                 try clear c1
                 try clear c2
                 try clear p2
                 try clear c3
                 try clear c4
                 try clear c5
                 try clear p6
                 try clear c7
                 try clear p7
                 try clear q7
                 try clear hx7
                 try clear c10
                 try clear c11
                 try clear c11b0
                 try clear c11b1
                 try clear c13
                 try clear c16
                 try clear c17
                 try clear c21
                 try clear c23
                 try clear c24
                 try clear c24b0
                 try clear c24b1
                 try clear c26
                 try clear c27
                 try clear c27b0
                 try clear c28
                 try clear c28b0
                 try clear c29
                 try clear c29b0
                 try clear c30
                 try clear c30b0
                 try clear c30b1
                 try clear c36
                 try clear c37
                 try clear c40
                 try clear c40b0
                 try clear c40b1
                 try clear c41
                 try clear c41b0
                 try clear c42
                 try clear c42b0
                 try clear c44
                 try clear c48
                 try clear c51
                 try clear c54
                 try clear c56
                 try clear c56b0
                 try clear hcz14_0
                 try clear hcz14_1
                 try clear hcz22_0
                 try clear hcz22_1
                 try clear hcz38_0
                 try clear hcz38_1
                 try clear hcz45_0
                 try clear hcz45_1
                 try clear hcz46_0
                 try clear hcz46_1
                 try clear hcz49_0
                 try clear hcz49_1
                 try clear hcz50_0
                 try clear hcz50_1
                 try clear hcz52_0
                 try clear hcz52_1
                 try clear hfz14_0
                 try clear hfz14_1
                 try clear hfz22_0
                 try clear hfz22_1
                 try clear hfz38_0
                 try clear hfz38_1
                 try clear hfz45_0
                 try clear hfz45_1
                 try clear hfz46_0
                 try clear hfz46_1
                 try clear hfz49_0
                 try clear hfz49_1
                 try clear hfz50_0
                 try clear hfz50_1
                 try clear hfz52_0
                 try clear hfz52_1
                 try clear hx712_0
                 try clear hx713_0
                 try clear p2
                 try clear p6
                 try clear p7
                 try clear p712
                 try clear p713
                 try clear q7
                 try clear q712
                 try clear q713
                 obtain ⟨kq, x107_54, rfl, HA, HJ54, HO_11, HO_14, BK701, BK702, HB⟩ := hcut
                 cases kq with
                 | zero => exact absurd HA.out (by simp [trishawlaw01_TurnInside.j5])
                 | succ kj54 =>
                  have H := HA.out
                  clear HA
                  simp only [trishawlaw01_TurnInside.j5] at H
                  by_cases c58 : x107_54 = true
                  ·subst c58
                   have H1 : (trishawlaw01_TurnInside.l2 kj54 l0 l1 t703 t708 t714 x16_5 0 a2_0 a2_1) = some r := by rw [if_pos rfl] at H; exact H
                   clear H
                   have H := H1
                   clear H1
                   have H' := Aside0.mk H
                   clear H
                   go_wp2
                   go_loopg [17] kj54 (fun kq v17 w' => ∃ (x17_7 : Int), v17 = .int .i64 x17_7 ∧ Aside0 (trishawlaw01_TurnInside.l2 kq l0 l1 t703 t708 t714 x16_5 x17_7 a2_0 a2_1 = some r) ∧ Aside0 (kq ≤ kj54) ∧ Aside0 (Kd.S (Kd.slice 51 k51) 49 w' w.heap.size (fun k_ => some k_ ≠ (v715 : Value).ownBlock) v709 t708) ∧ Aside0 (Kd.S (Kd.slice 51 k51) 49 w' w.heap.size (fun k_ => some k_ ≠ (v709 : Value).ownBlock) v715 t714) ∧ Aside0 (w'.heap[gb701]? = some (.cells #[.int .i64 a2_0, .int .i64 a2_1] 26 (0, 0))) ∧ Aside0 (w'.heap[gb702]? = some (.cells #[.int .i64 a3_0, .int .i64 a3_1] 26 (0, 0))) ∧ Aside0 (Below w.heap.size w w'))
                   case atStart => exact ⟨(0), rs_, H', ⟨Nat.le_refl _⟩, ⟨ks_ HO_11.out⟩, ⟨ks_ HO_14.out⟩, ⟨bk_ BK701.out⟩, ⟨bk_ BK702.out⟩, ⟨bl_⟩⟩
                   case round =>
                    as_aux_lemma =>
                    clear H'
                    try clear c1
                    try clear c2
                    try clear p2
                    try clear c3
                    try clear c4
                    try clear c5
                    try clear p6
                    try clear c7
                    try clear p7
                    try clear q7
                    try clear hx7
                    try clear c10
                    try clear c11
                    try clear c11b0
                    try clear c11b1
                    try clear c13
                    try clear c16
                    try clear c17
                    try clear c21
                    try clear c23
                    try clear c24
                    try clear c24b0
                    try clear c24b1
                    try clear c26
                    try clear c27
                    try clear c27b0
                    try clear c28
                    try clear c28b0
                    try clear c29
                    try clear c29b0
                    try clear c30
                    try clear c30b0
                    try clear c30b1
                    try clear c36
                    try clear c37
                    try clear c40
                    try clear c40b0
                    try clear c40b1
                    try clear c41
                    try clear c41b0
                    try clear c42
                    try clear c42b0
                    try clear c44
                    try clear c48
                    try clear c51
                    try clear c54
                    try clear c56
                    try clear c56b0
                    try clear c58
                    try clear hcz14_0
                    try clear hcz14_1
                    try clear hcz22_0
                    try clear hcz22_1
                    try clear hcz38_0
                    try clear hcz38_1
                    try clear hcz45_0
                    try clear hcz45_1
                    try clear hcz46_0
                    try clear hcz46_1
                    try clear hcz49_0
                    try clear hcz49_1
                    try clear hcz50_0
                    try clear hcz50_1
                    try clear hcz52_0
                    try clear hcz52_1
                    try clear hfz14_0
                    try clear hfz14_1
                    try clear hfz22_0
                    try clear hfz22_1
                    try clear hfz38_0
                    try clear hfz38_1
                    try clear hfz45_0
                    try clear hfz45_1
                    try clear hfz46_0
                    try clear hfz46_1
                    try clear hfz49_0
                    try clear hfz49_1
                    try clear hfz50_0
                    try clear hfz50_1
                    try clear hfz52_0
                    try clear hfz52_1
                    try clear hx712_0
                    try clear hx713_0
                    try clear p2
                    try clear p6
                    try clear p7
                    try clear p712
                    try clear p713
                    try clear q7
                    try clear q712
                    try clear q713
                    obtain ⟨x17_7, rfl, HA, HK7, HO_11, HO_14, BK701, BK702, HB⟩ := hrel
                    cases gk with
                    | zero => exact absurd HA.out (by simp [trishawlaw01_TurnInside.l2])
                    | succ k7 =>
                     have H := HA.out
                     clear HA
                     simp only [trishawlaw01_TurnInside.l2] at H
                     have HC59 := Aside0.mk H
                     clear H
                     go_upto_region 18 with (fail)
                     go_cut [127] (fun v127 wc => ∃ (kq : Nat) (x127_58 : Bool), v127 = .bool x127_58 ∧ Aside0 (trishawlaw01_TurnInside.j7 kq l0 l1 t703 t708 t714 x16_5 x17_7 x127_58 a2_0 a2_1 = some r) ∧ Aside0 (kq ≤ k7) ∧ Aside0 (Kd.S (Kd.slice 51 k51) 49 wc w.heap.size (fun k_ => some k_ ≠ (v715 : Value).ownBlock) v709 t708) ∧ Aside0 (Kd.S (Kd.slice 51 k51) 49 wc w.heap.size (fun k_ => some k_ ≠ (v709 : Value).ownBlock) v715 t714) ∧ Aside0 (wc.heap[gb701]? = some (.cells #[.int .i64 a2_0, .int .i64 a2_1] 26 (0, 0))) ∧ Aside0 (wc.heap[gb702]? = some (.cells #[.int .i64 a3_0, .int .i64 a3_1] 26 (0, 0))) ∧ Aside0 (Below w.heap.size w wc))
                     case first =>
                      as_aux_lemma =>
                      have H := HC59.out
                      clear HC59
                      obtain ⟨c60b0, H⟩ := fp_ H
                      (first | rw [c60b0] | (simp only [i64_w, i32_w]; rw [c60b0]) | skip)
                      obtain ⟨c61b0, H⟩ := fp_ H
                      by_cases c62 : x17_7 < (rd l0 x16_5)
                      ·rw [if_pos c62] at H
                       have c62b0 : decide (x17_7 < (rd l0 x16_5)) = true := decide_eq_true c62
                       clear c62
                       obtain ⟨c63b0, H⟩ := fp_ H
                       have H' := Aside0.mk H
                       clear H
                       try go_wp2
                       replace HO_11 := Aside0.mk (Kd.S_drew HO_11.out)
                       replace HO_14 := Aside0.mk (Kd.S_drew HO_14.out)
                       replace BK701 := Aside0.mk (blk_drew BK701.out)
                       replace BK702 := Aside0.mk (blk_drew BK702.out)
                       replace HB := Aside0.mk (below_drew1 HB.out)
                       have p719 : 0 ≤ (x16_5 : Int) := od_
                       have q719 : x16_5 < (l0.length : Int) := od_
                       obtain ⟨ad719, e719, hx719_0⟩ := Kd.at_int HR0.out x16_5 p719 q719
                       have hw719_0 := hx719_0
                       cases e719
                       replace hx719_0 := hc_ HB hx719_0
                       replace p719 := eq_true p719
                       replace q719 := eq_true q719
                       obtain ⟨Ao65, co65, eo65⟩ := Kd.S_slice HO_14.out
                       (first | subst eo65 | (injection eo65 with f1_ f2_ f3_; have f4_ := f1_.symm; have f5_ := f3_.symm; clear f1_ f2_ f3_; subst f4_; subst f5_))
                       have p720 : 0 ≤ (x16_5 : Int) := od_
                       have q720 : x16_5 < (t714.length : Int) := od_
                       obtain ⟨ad720, A720_0, c720_0, e720, hx720_0, hl720_0, hi720_0⟩ := at_L2 (Kd.S_reads' HO_14.out).2.2 x16_5 p720 q720
                       cases e720
                       obtain ⟨ce720, hce720, hMe720, hcc720⟩ := Kd.S_get HO_14.out [] x16_5 p720 (by first | exact q720 | exact od_ | (have e_ := (Kd.S_reads' HO_14.out).1; omega))
                       obtain ⟨ve720_0, rfl, ge720_0⟩ := hMe720
                       have hv720_0 := hcc720 0 _ rfl
                       rw [Nat.add_zero, show ((Kd.slice 51 k51)).sz = 1 from rfl, Nat.mul_one] at hv720_0
                       replace hv720_0 := Option.some.inj (hv720_0.symm.trans hx720_0)
                       rw [hv720_0] at ge720_0
                       have HL720_0 := Aside0.mk (show Kd.R k51 51 _ _ _ _ (rd_L2 t714 x16_5) from ge720_0)
                       clear hv720_0 ge720_0
                       clear hcc720 hce720
                       have HR720_0 := Aside0.mk hi720_0
                       have HC720_0 := Aside0.mk hl720_0
                       clear hi720_0 hl720_0
                       replace p720 := eq_true p720
                       replace q720 := eq_true q720
                       have p721 : 0 ≤ (x16_5 : Int) := od_
                       have q721 : x16_5 < (l0.length : Int) := od_
                       obtain ⟨ad721, e721, hx721_0⟩ := Kd.at_int HR0.out x16_5 p721 q721
                       have hw721_0 := hx721_0
                       obtain rfl : ad719 = ad721 := (by injection e721)
                       replace hx721_0 := hc_ HB hx721_0
                       replace p721 := eq_true p721
                       replace q721 := eq_true q721
                       refine start_ (n := 18) (S := fun w' => w'.cell? (ad719.add (x16_5).toNat) = some (.int .i64 (rd l0 x16_5)) ∧ w'.cell? (ad720.add (x16_5).toNat) = some (.slice A720_0 (rd_L2 t714 x16_5).length c720_0) ∧ w'.cell? (ad719.add (x16_5).toNat) = some (.int .i64 (rd l0 x16_5))) (ds := []) #[false, false, false, false, false, false, false, false, false, false, false, false, false, false, false, false, false, false] (by kernel_rfl) rfl rfl ⟨(hc_ HB hw719_0), hx720_0, (hc_ HB hw721_0)⟩ (fun hHeld => ?_); refine with_tabW trishawlaw01_TurnInside.tab18 trishawlaw01_TurnInside.bits18 (fun HT_ HW_ => ?_)
                       generalize wr.drew = w64 at HO_11 HO_14 BK701 BK702 HB HL720_0 HR720_0 hx719_0 hx720_0 hx721_0 hHeld ⊢
                       refine pu_ 0 110 HT_.out (h := ?_)
                       refine pu_ 1 111 HT_.out (h := ?_)
                       refine pu_ 2 112 HT_.out (h := ?_)
                       refine pu_ 3 113 HT_.out (h := ?_)
                       refine ta_ 4 114 HT_.out HW_.out hHeld (h := ?_)
                       refine pu_ 5 115 HT_.out (h := ?_)
                       refine pu_ 6 116 HT_.out (h := ?_)
                       refine pu_ 7 117 HT_.out (h := ?_)
                       refine pu_ 8 118 HT_.out (h := ?_)
                       refine pu_ 9 119 HT_.out (h := ?_)
                       refine pu_ 12 122 HT_.out (h := ?_)
                       refine pu_ 13 123 HT_.out (h := ?_)
                       refine pu_ 14 124 HT_.out (h := ?_)
                       refine ta_ 10 120 HT_.out HW_.out hHeld (h := ?_)
                       refine pu_ 11 121 HT_.out (h := ?_)
                       refine ta_ 15 125 HT_.out HW_.out hHeld (h := ?_)
                       refine pu_ 16 126 HT_.out (h := ?_)
                       refine pu_ 17 127 HT_.out (h := ?_)
                       refine done_ (done_of HT_.out (by kernel_rfl)) ?_
                       try go_wp2
                       go_meet
                       case rel => exact ⟨_, ((((rd_L2 t714 x16_5).length : Int) == (rd l0 x16_5))), rs_, H', ⟨by have := HJ5.out; have := HJ19.out; have := HK3.out; have := HJ35.out; have := HK5.out; have := HJ54.out; have := HK7.out; first | omega | exact Nat.le_refl _⟩, ⟨ks_ HO_11.out⟩, ⟨ks_ HO_14.out⟩, ⟨bk_ BK701.out⟩, ⟨bk_ BK702.out⟩, ⟨bl_⟩⟩
                      ·rw [if_neg c62] at H
                       have c62b0 : decide (x17_7 < (rd l0 x16_5)) = false := decide_eq_false c62
                       clear c62
                       have H' := Aside0.mk H
                       clear H
                       try go_wp2
                       replace HO_11 := Aside0.mk (Kd.S_drew HO_11.out)
                       replace HO_14 := Aside0.mk (Kd.S_drew HO_14.out)
                       replace BK701 := Aside0.mk (blk_drew BK701.out)
                       replace BK702 := Aside0.mk (blk_drew BK702.out)
                       replace HB := Aside0.mk (below_drew1 HB.out)
                       have p719 : 0 ≤ (x16_5 : Int) := od_
                       have q719 : x16_5 < (l0.length : Int) := od_
                       obtain ⟨ad719, e719, hx719_0⟩ := Kd.at_int HR0.out x16_5 p719 q719
                       have hw719_0 := hx719_0
                       cases e719
                       replace hx719_0 := hc_ HB hx719_0
                       replace p719 := eq_true p719
                       replace q719 := eq_true q719
                       refine start_ (n := 18) (S := fun w' => w'.cell? (ad719.add (x16_5).toNat) = some (.int .i64 (rd l0 x16_5))) (ds := []) #[false, false, false, false, false, false, false, false, false, false, false, false, false, false, false, false, false, false] (by kernel_rfl) rfl rfl ((hc_ HB hw719_0)) (fun hHeld => ?_); refine with_tabW trishawlaw01_TurnInside.tab18 trishawlaw01_TurnInside.bits18 (fun HT_ HW_ => ?_)
                       generalize wr.drew = w66 at HO_11 HO_14 BK701 BK702 HB hx719_0 hHeld ⊢
                       refine pu_ 0 110 HT_.out (h := ?_)
                       refine pu_ 1 111 HT_.out (h := ?_)
                       refine pu_ 2 112 HT_.out (h := ?_)
                       refine pu_ 3 113 HT_.out (h := ?_)
                       refine take_ (i := 4) (N := some 114) (v := ?_) (a' := ?_) #[true, true, true, true, true, false, false, false, false, false, false, false, false, false, false, false, false, false] rfl rfl (take_ofW HT_.out HW_.out (by kernel_rfl)) (fun _ _ _ h => h) (Or.inl ⟨by rfl, ?_⟩) hHeld ?_ ?_
                       rotate_left
                       ·intro w' s0
                        go_simp
                        with_reducible rfl
                       rotate_left
                       ·simp only [Act.put, List.setIfInBounds_toArray, List.set_cons_zero, List.set_cons_succ, i64_w, i32_w]
                        rfl
                       refine pu_ 5 115 HT_.out (h := ?_)
                       refine pu_ 6 116 HT_.out (h := ?_)
                       refine pn_ 7 117 HT_.out (h := ?_)
                       refine pn_ 8 118 HT_.out (h := ?_)
                       refine pn_ 9 119 HT_.out (h := ?_)
                       refine pn_ 10 120 HT_.out (h := ?_)
                       refine pn_ 11 121 HT_.out (h := ?_)
                       refine pn_ 12 122 HT_.out (h := ?_)
                       refine pn_ 13 123 HT_.out (h := ?_)
                       refine pn_ 14 124 HT_.out (h := ?_)
                       refine pn_ 15 125 HT_.out (h := ?_)
                       refine pn_ 16 126 HT_.out (h := ?_)
                       refine pu_ 17 127 HT_.out (h := ?_)
                       refine done_ (done_of HT_.out (by kernel_rfl)) ?_
                       try go_wp2
                       go_meet
                       case rel => exact ⟨_, (false), rs_, H', ⟨by have := HJ5.out; have := HJ19.out; have := HK3.out; have := HJ35.out; have := HK5.out; have := HJ54.out; have := HK7.out; first | omega | exact Nat.le_refl _⟩, ⟨ks_ HO_11.out⟩, ⟨ks_ HO_14.out⟩, ⟨bk_ BK701.out⟩, ⟨bk_ BK702.out⟩, ⟨bl_⟩⟩
                     case rest =>
                      as_aux_lemma =>
                      clear HC59
                      try clear c1
                      try clear c2
                      try clear p2
                      try clear c3
                      try clear c4
                      try clear c5
                      try clear c6
                      try clear p6
                      try clear c7
                      try clear p7
                      try clear q7
                      try clear hx7
                      try clear c10
                      try clear c11
                      try clear c11b0
                      try clear c11b1
                      try clear c13
                      try clear c16
                      try clear c17
                      try clear c21
                      try clear c23
                      try clear c24
                      try clear c24b0
                      try clear c24b1
                      try clear c26
                      try clear c27
                      try clear c27b0
                      try clear c28
                      try clear c28b0
                      try clear c29
                      try clear c29b0
                      try clear c30
                      try clear c30b0
                      try clear c30b1
                      try clear c36
                      try clear c37
                      try clear c40
                      try clear c40b0
                      try clear c40b1
                      try clear c41
                      try clear c41b0
                      try clear c42
                      try clear c42b0
                      try clear c44
                      try clear c48
                      try clear c51
                      try clear c54
                      try clear c56
                      try clear c56b0
                      try clear c58
                      try clear c60
                      try clear c60b0
                      try clear c61
                      try clear c61b0
                      try clear c62
                      try clear c62b0
                      try clear c63
                      try clear c63b0
                      try clear hcz14_0
                      try clear hcz14_1
                      try clear hcz22_0
                      try clear hcz22_1
                      try clear hcz38_0
                      try clear hcz38_1
                      try clear hcz45_0
                      try clear hcz45_1
                      try clear hcz46_0
                      try clear hcz46_1
                      try clear hcz49_0
                      try clear hcz49_1
                      try clear hcz50_0
                      try clear hcz50_1
                      try clear hcz52_0
                      try clear hcz52_1
                      try clear hfz14_0
                      try clear hfz14_1
                      try clear hfz22_0
                      try clear hfz22_1
                      try clear hfz38_0
                      try clear hfz38_1
                      try clear hfz45_0
                      try clear hfz45_1
                      try clear hfz46_0
                      try clear hfz46_1
                      try clear hfz49_0
                      try clear hfz49_1
                      try clear hfz50_0
                      try clear hfz50_1
                      try clear hfz52_0
                      try clear hfz52_1
                      try clear hx712_0
                      try clear hx713_0
                      try clear hx719_0
                      try clear hx720_0
                      try clear hx721_0
                      try clear p2
                      try clear p6
                      try clear p7
                      try clear p712
                      try clear p713
                      try clear p719
                      try clear p720
                      try clear p721
                      try clear q7
                      try clear q712
                      try clear q713
                      try clear q719
                      try clear q720
                      try clear q721
                      obtain ⟨kq, x127_58, rfl, HA, HJ58, HO_11, HO_14, BK701, BK702, HB⟩ := hcut
                      cases kq with
                      | zero => exact absurd HA.out (by simp [trishawlaw01_TurnInside.j7])
                      | succ kj58 =>
                       have H := HA.out
                       clear HA
                       simp only [trishawlaw01_TurnInside.j7] at H
                       by_cases c67 : x127_58 = true
                       ·as_aux_lemma =>
                        subst c67
                        have H1 : (if 0 ≤ x16_5 then (if x16_5 < (t708.length : Int) then (if 0 ≤ x17_7 then (if x17_7 < ((rd_L2 t708 x16_5).length : Int) then (if ((rd_T51 (rd_L2 t708 x16_5) x17_7).f0) ≤ ((rd_T51 (rd_L2 t708 x16_5) x17_7).f1) then (if x16_5 < (t714.length : Int) then (if x17_7 < ((rd_L2 t714 x16_5).length : Int) then (if ((rd_T51 (rd_L2 t714 x16_5) x17_7).f0) > ((rd_T51 (rd_L2 t708 x16_5) x17_7).f0) then (some false) else (if ((rd_T51 (rd_L2 t714 x16_5) x17_7).f1) < ((rd_T51 (rd_L2 t708 x16_5) x17_7).f1) then (some false) else (trishawlaw01_TurnInside.l2 kj58 l0 l1 t703 t708 t714 x16_5 (wrap64 (x17_7 + 1)) a2_0 a2_1))) else (none)) else (none)) else (trishawlaw01_TurnInside.l2 kj58 l0 l1 t703 t708 t714 x16_5 (wrap64 (x17_7 + 1)) a2_0 a2_1)) else (none)) else (none)) else (none)) else (none)) = some r := by rw [if_pos rfl] at H; exact H
                        clear H
                        have H := H1
                        clear H1
                        obtain ⟨c68b0, H⟩ := fp_ H
                        obtain ⟨c69b0, H⟩ := fp_ H
                        obtain ⟨c70b0, H⟩ := fp_ H
                        obtain ⟨c71b0, H⟩ := fp_ H
                        by_cases c72 : ((rd_T51 (rd_L2 t708 x16_5) x17_7).f0) ≤ ((rd_T51 (rd_L2 t708 x16_5) x17_7).f1)
                        ·rw [if_pos c72] at H
                         have c72b0 : decide (((rd_T51 (rd_L2 t708 x16_5) x17_7).f0) ≤ ((rd_T51 (rd_L2 t708 x16_5) x17_7).f1)) = true := decide_eq_true c72
                         clear c72
                         obtain ⟨c73b0, H⟩ := fp_ H
                         obtain ⟨c74b0, H⟩ := fp_ H
                         by_cases c75 : ((rd_T51 (rd_L2 t714 x16_5) x17_7).f0) > ((rd_T51 (rd_L2 t708 x16_5) x17_7).f0)
                         ·rw [if_pos c75] at H
                          have c75b0 : decide (((rd_T51 (rd_L2 t708 x16_5) x17_7).f0) < ((rd_T51 (rd_L2 t714 x16_5) x17_7).f0)) = true := decide_eq_true c75
                          clear c75
                          exact absurd (Option.some.inj (H.trans (congrArg some hr.out))) (by decide)
                         ·rw [if_neg c75] at H
                          have c75b0 : decide (((rd_T51 (rd_L2 t708 x16_5) x17_7).f0) < ((rd_T51 (rd_L2 t714 x16_5) x17_7).f0)) = false := decide_eq_false c75
                          clear c75
                          by_cases c79 : ((rd_T51 (rd_L2 t714 x16_5) x17_7).f1) < ((rd_T51 (rd_L2 t708 x16_5) x17_7).f1)
                          ·rw [if_pos c79] at H
                           have c79b0 : decide (((rd_T51 (rd_L2 t714 x16_5) x17_7).f1) < ((rd_T51 (rd_L2 t708 x16_5) x17_7).f1)) = true := decide_eq_true c79
                           clear c79
                           exact absurd (Option.some.inj (H.trans (congrArg some hr.out))) (by decide)
                          ·as_aux_lemma =>
                           rw [if_neg c79] at H
                           have c79b0 : decide (((rd_T51 (rd_L2 t714 x16_5) x17_7).f1) < ((rd_T51 (rd_L2 t708 x16_5) x17_7).f1)) = false := decide_eq_false c79
                           clear c79
                           have H' := Aside0.mk H
                           clear H
                           try go_wp2
                           replace HO_11 := Aside0.mk (Kd.S_drew HO_11.out)
                           replace HO_14 := Aside0.mk (Kd.S_drew HO_14.out)
                           replace BK701 := Aside0.mk (blk_drew BK701.out)
                           replace BK702 := Aside0.mk (blk_drew BK702.out)
                           replace HB := Aside0.mk (below_drew1 HB.out)
                           obtain ⟨Ao84, co84, eo84⟩ := Kd.S_slice HO_11.out
                           (first | subst eo84 | (injection eo84 with f1_ f2_ f3_; have f4_ := f1_.symm; have f5_ := f3_.symm; clear f1_ f2_ f3_; subst f4_; subst f5_))
                           have p722 : 0 ≤ (x16_5 : Int) := od_
                           have q722 : x16_5 < (t708.length : Int) := od_
                           obtain ⟨ad722, A722_0, c722_0, e722, hx722_0, hl722_0, hi722_0⟩ := at_L2 (Kd.S_reads' HO_11.out).2.2 x16_5 p722 q722
                           cases e722
                           obtain ⟨ce722, hce722, hMe722, hcc722⟩ := Kd.S_get HO_11.out [] x16_5 p722 (by first | exact q722 | exact od_ | (have e_ := (Kd.S_reads' HO_11.out).1; omega))
                           obtain ⟨ve722_0, rfl, ge722_0⟩ := hMe722
                           have hv722_0 := hcc722 0 _ rfl
                           rw [Nat.add_zero, show ((Kd.slice 51 k51)).sz = 1 from rfl, Nat.mul_one] at hv722_0
                           replace hv722_0 := Option.some.inj (hv722_0.symm.trans hx722_0)
                           rw [hv722_0] at ge722_0
                           have HL722_0 := Aside0.mk (show Kd.R k51 51 _ _ _ _ (rd_L2 t708 x16_5) from ge722_0)
                           clear hv722_0 ge722_0
                           clear hcc722 hce722
                           have HR722_0 := Aside0.mk hi722_0
                           have HC722_0 := Aside0.mk hl722_0
                           clear hi722_0 hl722_0
                           replace p722 := eq_true p722
                           replace q722 := eq_true q722
                           have p723 : 0 ≤ (x17_7 : Int) := od_
                           have q723 : x17_7 < ((rd_L2 t708 x16_5).length : Int) := od_
                           obtain ⟨ad723, e723, hx723_0, hx723_1⟩ := at_T51 (by repeat (first | (with_reducible exact HR722_0.out) | (with_reducible refine Kd.C_alloc ?_ _) | (with_reducible refine Kd.C_drewN ?_ _) | (with_reducible refine Kd.C_drew ?_) | exact HR722_0.out)) x17_7 p723 q723
                           cases e723
                           replace p723 := eq_true p723
                           replace q723 := eq_true q723
                           have p724 : 0 ≤ (x16_5 : Int) := od_
                           have q724 : x16_5 < (t708.length : Int) := od_
                           obtain ⟨ad724, A724_0, c724_0, e724, hx724_0, hl724_0, hi724_0⟩ := at_L2 (Kd.S_reads' HO_11.out).2.2 x16_5 p724 q724
                           obtain rfl : ad722 = ad724 := (by injection e724)
                           obtain ⟨ce724, hce724, hMe724, hcc724⟩ := Kd.S_get HO_11.out [] x16_5 p724 (by first | exact q724 | exact od_ | (have e_ := (Kd.S_reads' HO_11.out).1; omega))
                           obtain ⟨ve724_0, rfl, ge724_0⟩ := hMe724
                           have hv724_0 := hcc724 0 _ rfl
                           rw [Nat.add_zero, show ((Kd.slice 51 k51)).sz = 1 from rfl, Nat.mul_one] at hv724_0
                           replace hv724_0 := Option.some.inj (hv724_0.symm.trans hx724_0)
                           rw [hv724_0] at ge724_0
                           have HL724_0 := Aside0.mk (show Kd.R k51 51 _ _ _ _ (rd_L2 t708 x16_5) from ge724_0)
                           clear hv724_0 ge724_0
                           clear hcc724 hce724
                           have HR724_0 := Aside0.mk hi724_0
                           have HC724_0 := Aside0.mk hl724_0
                           clear hi724_0 hl724_0
                           replace p724 := eq_true p724
                           replace q724 := eq_true q724
                           have ea_ := Option.some.inj (hx722_0.symm.trans hx724_0)
                           injection ea_ with ea_ en_ ec_
                           subst ea_
                           subst ec_
                           clear en_
                           have p725 : 0 ≤ (x17_7 : Int) := od_
                           have q725 : x17_7 < ((rd_L2 t708 x16_5).length : Int) := od_
                           obtain ⟨ad725, e725, hx725_0, hx725_1⟩ := at_T51 (by repeat (first | (with_reducible exact HR724_0.out) | (with_reducible refine Kd.C_alloc ?_ _) | (with_reducible refine Kd.C_drewN ?_ _) | (with_reducible refine Kd.C_drew ?_) | exact HR724_0.out)) x17_7 p725 q725
                           cases e725
                           replace p725 := eq_true p725
                           replace q725 := eq_true q725
                           obtain ⟨Ao85, co85, eo85⟩ := Kd.S_slice HO_14.out
                           (first | subst eo85 | (injection eo85 with f1_ f2_ f3_; have f4_ := f1_.symm; have f5_ := f3_.symm; clear f1_ f2_ f3_; subst f4_; subst f5_))
                           have p726 : 0 ≤ (x16_5 : Int) := od_
                           have q726 : x16_5 < (t714.length : Int) := od_
                           obtain ⟨ad726, A726_0, c726_0, e726, hx726_0, hl726_0, hi726_0⟩ := at_L2 (Kd.S_reads' HO_14.out).2.2 x16_5 p726 q726
                           cases e726
                           obtain ⟨ce726, hce726, hMe726, hcc726⟩ := Kd.S_get HO_14.out [] x16_5 p726 (by first | exact q726 | exact od_ | (have e_ := (Kd.S_reads' HO_14.out).1; omega))
                           obtain ⟨ve726_0, rfl, ge726_0⟩ := hMe726
                           have hv726_0 := hcc726 0 _ rfl
                           rw [Nat.add_zero, show ((Kd.slice 51 k51)).sz = 1 from rfl, Nat.mul_one] at hv726_0
                           replace hv726_0 := Option.some.inj (hv726_0.symm.trans hx726_0)
                           rw [hv726_0] at ge726_0
                           have HL726_0 := Aside0.mk (show Kd.R k51 51 _ _ _ _ (rd_L2 t714 x16_5) from ge726_0)
                           clear hv726_0 ge726_0
                           clear hcc726 hce726
                           have HR726_0 := Aside0.mk hi726_0
                           have HC726_0 := Aside0.mk hl726_0
                           clear hi726_0 hl726_0
                           replace p726 := eq_true p726
                           replace q726 := eq_true q726
                           have p727 : 0 ≤ (x17_7 : Int) := od_
                           have q727 : x17_7 < ((rd_L2 t714 x16_5).length : Int) := od_
                           obtain ⟨ad727, e727, hx727_0, hx727_1⟩ := at_T51 (by repeat (first | (with_reducible exact HR726_0.out) | (with_reducible refine Kd.C_alloc ?_ _) | (with_reducible refine Kd.C_drewN ?_ _) | (with_reducible refine Kd.C_drew ?_) | exact HR726_0.out)) x17_7 p727 q727
                           cases e727
                           replace p727 := eq_true p727
                           replace q727 := eq_true q727
                           have p728 : 0 ≤ (x16_5 : Int) := od_
                           have q728 : x16_5 < (t708.length : Int) := od_
                           obtain ⟨ad728, A728_0, c728_0, e728, hx728_0, hl728_0, hi728_0⟩ := at_L2 (Kd.S_reads' HO_11.out).2.2 x16_5 p728 q728
                           obtain rfl : ad722 = ad728 := (by injection e728)
                           obtain ⟨ce728, hce728, hMe728, hcc728⟩ := Kd.S_get HO_11.out [] x16_5 p728 (by first | exact q728 | exact od_ | (have e_ := (Kd.S_reads' HO_11.out).1; omega))
                           obtain ⟨ve728_0, rfl, ge728_0⟩ := hMe728
                           have hv728_0 := hcc728 0 _ rfl
                           rw [Nat.add_zero, show ((Kd.slice 51 k51)).sz = 1 from rfl, Nat.mul_one] at hv728_0
                           replace hv728_0 := Option.some.inj (hv728_0.symm.trans hx728_0)
                           rw [hv728_0] at ge728_0
                           have HL728_0 := Aside0.mk (show Kd.R k51 51 _ _ _ _ (rd_L2 t708 x16_5) from ge728_0)
                           clear hv728_0 ge728_0
                           clear hcc728 hce728
                           have HR728_0 := Aside0.mk hi728_0
                           have HC728_0 := Aside0.mk hl728_0
                           clear hi728_0 hl728_0
                           replace p728 := eq_true p728
                           replace q728 := eq_true q728
                           have ea_ := Option.some.inj (hx722_0.symm.trans hx728_0)
                           injection ea_ with ea_ en_ ec_
                           subst ea_
                           subst ec_
                           clear en_
                           have p729 : 0 ≤ (x17_7 : Int) := od_
                           have q729 : x17_7 < ((rd_L2 t708 x16_5).length : Int) := od_
                           obtain ⟨ad729, e729, hx729_0, hx729_1⟩ := at_T51 (by repeat (first | (with_reducible exact HR728_0.out) | (with_reducible refine Kd.C_alloc ?_ _) | (with_reducible refine Kd.C_drewN ?_ _) | (with_reducible refine Kd.C_drew ?_) | exact HR728_0.out)) x17_7 p729 q729
                           cases e729
                           replace p729 := eq_true p729
                           replace q729 := eq_true q729
                           have p730 : 0 ≤ (x16_5 : Int) := od_
                           have q730 : x16_5 < (t714.length : Int) := od_
                           obtain ⟨ad730, A730_0, c730_0, e730, hx730_0, hl730_0, hi730_0⟩ := at_L2 (Kd.S_reads' HO_14.out).2.2 x16_5 p730 q730
                           obtain rfl : ad726 = ad730 := (by injection e730)
                           obtain ⟨ce730, hce730, hMe730, hcc730⟩ := Kd.S_get HO_14.out [] x16_5 p730 (by first | exact q730 | exact od_ | (have e_ := (Kd.S_reads' HO_14.out).1; omega))
                           obtain ⟨ve730_0, rfl, ge730_0⟩ := hMe730
                           have hv730_0 := hcc730 0 _ rfl
                           rw [Nat.add_zero, show ((Kd.slice 51 k51)).sz = 1 from rfl, Nat.mul_one] at hv730_0
                           replace hv730_0 := Option.some.inj (hv730_0.symm.trans hx730_0)
                           rw [hv730_0] at ge730_0
                           have HL730_0 := Aside0.mk (show Kd.R k51 51 _ _ _ _ (rd_L2 t714 x16_5) from ge730_0)
                           clear hv730_0 ge730_0
                           clear hcc730 hce730
                           have HR730_0 := Aside0.mk hi730_0
                           have HC730_0 := Aside0.mk hl730_0
                           clear hi730_0 hl730_0
                           replace p730 := eq_true p730
                           replace q730 := eq_true q730
                           have ea_ := Option.some.inj (hx726_0.symm.trans hx730_0)
                           injection ea_ with ea_ en_ ec_
                           subst ea_
                           subst ec_
                           clear en_
                           have p731 : 0 ≤ (x17_7 : Int) := od_
                           have q731 : x17_7 < ((rd_L2 t714 x16_5).length : Int) := od_
                           obtain ⟨ad731, e731, hx731_0, hx731_1⟩ := at_T51 (by repeat (first | (with_reducible exact HR730_0.out) | (with_reducible refine Kd.C_alloc ?_ _) | (with_reducible refine Kd.C_drewN ?_ _) | (with_reducible refine Kd.C_drew ?_) | exact HR730_0.out)) x17_7 p731 q731
                           cases e731
                           replace p731 := eq_true p731
                           replace q731 := eq_true q731
                           have p732 : 0 ≤ (x16_5 : Int) := od_
                           have q732 : x16_5 < (t708.length : Int) := od_
                           obtain ⟨ad732, A732_0, c732_0, e732, hx732_0, hl732_0, hi732_0⟩ := at_L2 (Kd.S_reads' HO_11.out).2.2 x16_5 p732 q732
                           obtain rfl : ad722 = ad732 := (by injection e732)
                           obtain ⟨ce732, hce732, hMe732, hcc732⟩ := Kd.S_get HO_11.out [] x16_5 p732 (by first | exact q732 | exact od_ | (have e_ := (Kd.S_reads' HO_11.out).1; omega))
                           obtain ⟨ve732_0, rfl, ge732_0⟩ := hMe732
                           have hv732_0 := hcc732 0 _ rfl
                           rw [Nat.add_zero, show ((Kd.slice 51 k51)).sz = 1 from rfl, Nat.mul_one] at hv732_0
                           replace hv732_0 := Option.some.inj (hv732_0.symm.trans hx732_0)
                           rw [hv732_0] at ge732_0
                           have HL732_0 := Aside0.mk (show Kd.R k51 51 _ _ _ _ (rd_L2 t708 x16_5) from ge732_0)
                           clear hv732_0 ge732_0
                           clear hcc732 hce732
                           have HR732_0 := Aside0.mk hi732_0
                           have HC732_0 := Aside0.mk hl732_0
                           clear hi732_0 hl732_0
                           replace p732 := eq_true p732
                           replace q732 := eq_true q732
                           have ea_ := Option.some.inj (hx722_0.symm.trans hx732_0)
                           injection ea_ with ea_ en_ ec_
                           subst ea_
                           subst ec_
                           clear en_
                           have p733 : 0 ≤ (x17_7 : Int) := od_
                           have q733 : x17_7 < ((rd_L2 t708 x16_5).length : Int) := od_
                           obtain ⟨ad733, e733, hx733_0, hx733_1⟩ := at_T51 (by repeat (first | (with_reducible exact HR732_0.out) | (with_reducible refine Kd.C_alloc ?_ _) | (with_reducible refine Kd.C_drewN ?_ _) | (with_reducible refine Kd.C_drew ?_) | exact HR732_0.out)) x17_7 p733 q733
                           cases e733
                           replace p733 := eq_true p733
                           replace q733 := eq_true q733
                           refine start_ (n := 55) (S := fun w' => w'.cell? (ad722.add (x16_5).toNat) = some (.slice (some ad723) (rd_L2 t708 x16_5).length c722_0) ∧ w'.cell? (ad723.add ((x17_7).toNat * 2)) = some (.int .i64 ((rd_T51 (rd_L2 t708 x16_5) x17_7).f0)) ∧ w'.cell? ⟨(ad723.add ((x17_7).toNat * 2)).block, (ad723.add ((x17_7).toNat * 2)).off + 1, none⟩ = some (.int .i64 ((rd_T51 (rd_L2 t708 x16_5) x17_7).f1)) ∧ w'.cell? (ad722.add (x16_5).toNat) = some (.slice (some ad723) (rd_L2 t708 x16_5).length c722_0) ∧ w'.cell? (ad723.add ((x17_7).toNat * 2)) = some (.int .i64 ((rd_T51 (rd_L2 t708 x16_5) x17_7).f0)) ∧ w'.cell? ⟨(ad723.add ((x17_7).toNat * 2)).block, (ad723.add ((x17_7).toNat * 2)).off + 1, none⟩ = some (.int .i64 ((rd_T51 (rd_L2 t708 x16_5) x17_7).f1)) ∧ w'.cell? (ad726.add (x16_5).toNat) = some (.slice (some ad727) (rd_L2 t714 x16_5).length c726_0) ∧ w'.cell? (ad727.add ((x17_7).toNat * 2)) = some (.int .i64 ((rd_T51 (rd_L2 t714 x16_5) x17_7).f0)) ∧ w'.cell? ⟨(ad727.add ((x17_7).toNat * 2)).block, (ad727.add ((x17_7).toNat * 2)).off + 1, none⟩ = some (.int .i64 ((rd_T51 (rd_L2 t714 x16_5) x17_7).f1)) ∧ w'.cell? (ad722.add (x16_5).toNat) = some (.slice (some ad723) (rd_L2 t708 x16_5).length c722_0) ∧ w'.cell? (ad723.add ((x17_7).toNat * 2)) = some (.int .i64 ((rd_T51 (rd_L2 t708 x16_5) x17_7).f0)) ∧ w'.cell? ⟨(ad723.add ((x17_7).toNat * 2)).block, (ad723.add ((x17_7).toNat * 2)).off + 1, none⟩ = some (.int .i64 ((rd_T51 (rd_L2 t708 x16_5) x17_7).f1)) ∧ w'.cell? (ad726.add (x16_5).toNat) = some (.slice (some ad727) (rd_L2 t714 x16_5).length c726_0) ∧ w'.cell? (ad727.add ((x17_7).toNat * 2)) = some (.int .i64 ((rd_T51 (rd_L2 t714 x16_5) x17_7).f0)) ∧ w'.cell? ⟨(ad727.add ((x17_7).toNat * 2)).block, (ad727.add ((x17_7).toNat * 2)).off + 1, none⟩ = some (.int .i64 ((rd_T51 (rd_L2 t714 x16_5) x17_7).f1)) ∧ w'.cell? (ad722.add (x16_5).toNat) = some (.slice (some ad723) (rd_L2 t708 x16_5).length c722_0) ∧ w'.cell? (ad723.add ((x17_7).toNat * 2)) = some (.int .i64 ((rd_T51 (rd_L2 t708 x16_5) x17_7).f0)) ∧ w'.cell? ⟨(ad723.add ((x17_7).toNat * 2)).block, (ad723.add ((x17_7).toNat * 2)).off + 1, none⟩ = some (.int .i64 ((rd_T51 (rd_L2 t708 x16_5) x17_7).f1))) (ds := []) #[false, false, false, false, false, false, false, false, false, false, false, false, false, false, false, false, false, false, false, false, false, false, false, false, false, false, false, false, false, false, false, false, false, false, false, false, false, false, false, false, false, false, false, false, false, false, false, false, false, false, false, false, false, false, false] (by kernel_rfl) rfl rfl ⟨hx722_0, hx723_0, hx723_1, hx724_0, hx725_0, hx725_1, hx726_0, hx727_0, hx727_1, hx728_0, hx729_0, hx729_1, hx730_0, hx731_0, hx731_1, hx732_0, hx733_0, hx733_1⟩ (fun hHeld => ?_); refine with_tabW trishawlaw01_TurnInside.tab20 trishawlaw01_TurnInside.bits20 (fun HT_ HW_ => ?_)
                           generalize wc.drew = w83 at HO_11 HO_14 BK701 BK702 HB HL722_0 HL724_0 HL726_0 HL728_0 HL730_0 HL732_0 HR722_0 HR724_0 HR726_0 HR728_0 HR730_0 HR732_0 hx722_0 hx723_0 hx723_1 hx724_0 hx725_0 hx725_1 hx726_0 hx727_0 hx727_1 hx728_0 hx729_0 hx729_1 hx730_0 hx731_0 hx731_1 hx732_0 hx733_0 hx733_1 hHeld ⊢
                           refine pu_ 0 130 HT_.out (h := ?_)
                           refine pu_ 1 131 HT_.out (h := ?_)
                           refine pu_ 2 132 HT_.out (h := ?_)
                           refine pu_ 4 134 HT_.out (h := ?_)
                           refine pu_ 8 138 HT_.out (h := ?_)
                           refine pu_ 9 139 HT_.out (h := ?_)
                           refine pu_ 10 140 HT_.out (h := ?_)
                           refine pu_ 12 142 HT_.out (h := ?_)
                           refine ta_ 3 133 HT_.out HW_.out hHeld (h := ?_)
                           refine pu_ 5 135 HT_.out (h := ?_)
                           refine pu_ 6 136 HT_.out (h := ?_)
                           refine ta_ 7 137 HT_.out HW_.out hHeld (h := ?_)
                           refine ta_ 11 141 HT_.out HW_.out hHeld (h := ?_)
                           refine pu_ 13 143 HT_.out (h := ?_)
                           refine pu_ 14 144 HT_.out (h := ?_)
                           refine ta_ 15 145 HT_.out HW_.out hHeld (h := ?_)
                           refine pu_ 16 146 HT_.out (h := ?_)
                           refine pu_ 17 147 HT_.out (h := ?_)
                           refine pu_ 18 148 HT_.out (h := ?_)
                           refine pu_ 19 149 HT_.out (h := ?_)
                           refine pu_ 20 150 HT_.out (h := ?_)
                           refine pu_ 22 152 HT_.out (h := ?_)
                           refine pu_ 26 156 HT_.out (h := ?_)
                           refine pu_ 27 157 HT_.out (h := ?_)
                           refine pu_ 28 158 HT_.out (h := ?_)
                           refine pu_ 30 160 HT_.out (h := ?_)
                           refine ta_ 21 151 HT_.out HW_.out hHeld (h := ?_)
                           refine pu_ 23 153 HT_.out (h := ?_)
                           refine pu_ 24 154 HT_.out (h := ?_)
                           refine ta_ 25 155 HT_.out HW_.out hHeld (h := ?_)
                           refine ta_ 29 159 HT_.out HW_.out hHeld (h := ?_)
                           refine pu_ 31 161 HT_.out (h := ?_)
                           refine pu_ 32 162 HT_.out (h := ?_)
                           refine ta_ 33 163 HT_.out HW_.out hHeld (h := ?_)
                           refine pu_ 34 164 HT_.out (h := ?_)
                           refine pu_ 35 165 HT_.out (h := ?_)
                           refine pu_ 36 166 HT_.out (h := ?_)
                           refine pu_ 37 167 HT_.out (h := ?_)
                           refine pu_ 38 168 HT_.out (h := ?_)
                           refine pu_ 40 170 HT_.out (h := ?_)
                           refine pu_ 44 174 HT_.out (h := ?_)
                           refine pu_ 45 175 HT_.out (h := ?_)
                           refine pu_ 46 176 HT_.out (h := ?_)
                           refine pu_ 48 178 HT_.out (h := ?_)
                           refine ta_ 39 169 HT_.out HW_.out hHeld (h := ?_)
                           refine pu_ 41 171 HT_.out (h := ?_)
                           refine pu_ 42 172 HT_.out (h := ?_)
                           refine ta_ 43 173 HT_.out HW_.out hHeld (h := ?_)
                           refine ta_ 47 177 HT_.out HW_.out hHeld (h := ?_)
                           refine pu_ 49 179 HT_.out (h := ?_)
                           refine pu_ 50 180 HT_.out (h := ?_)
                           refine ta_ 51 181 HT_.out HW_.out hHeld (h := ?_)
                           refine pu_ 52 182 HT_.out (h := ?_)
                           refine pu_ 53 183 HT_.out (h := ?_)
                           refine pu_ 54 184 HT_.out (h := ?_)
                           refine done_ (done_of HT_.out (by kernel_rfl)) ?_
                           try go_wp2
                           go_roundg kj58
                           case measure => have := HJ5.out; have := HJ19.out; have := HK3.out; have := HJ35.out; have := HK5.out; have := HJ54.out; have := HK7.out; have := HJ58.out; omega
                           case rel => exact ⟨(wrap64 (x17_7 + 1)), rs_, H', ⟨by have := HJ5.out; have := HJ19.out; have := HK3.out; have := HJ35.out; have := HK5.out; have := HJ54.out; have := HK7.out; have := HJ58.out; omega⟩, ⟨ks_ HO_11.out⟩, ⟨ks_ HO_14.out⟩, ⟨bk_ BK701.out⟩, ⟨bk_ BK702.out⟩, ⟨bl_⟩⟩
                        ·as_aux_lemma =>
                         rw [if_neg c72] at H
                         have c72b0 : decide (((rd_T51 (rd_L2 t708 x16_5) x17_7).f0) ≤ ((rd_T51 (rd_L2 t708 x16_5) x17_7).f1)) = false := decide_eq_false c72
                         clear c72
                         have H' := Aside0.mk H
                         clear H
                         try go_wp2
                         replace HO_11 := Aside0.mk (Kd.S_drew HO_11.out)
                         replace HO_14 := Aside0.mk (Kd.S_drew HO_14.out)
                         replace BK701 := Aside0.mk (blk_drew BK701.out)
                         replace BK702 := Aside0.mk (blk_drew BK702.out)
                         replace HB := Aside0.mk (below_drew1 HB.out)
                         obtain ⟨Ao87, co87, eo87⟩ := Kd.S_slice HO_11.out
                         (first | subst eo87 | (injection eo87 with f1_ f2_ f3_; have f4_ := f1_.symm; have f5_ := f3_.symm; clear f1_ f2_ f3_; subst f4_; subst f5_))
                         have p722 : 0 ≤ (x16_5 : Int) := od_
                         have q722 : x16_5 < (t708.length : Int) := od_
                         obtain ⟨ad722, A722_0, c722_0, e722, hx722_0, hl722_0, hi722_0⟩ := at_L2 (Kd.S_reads' HO_11.out).2.2 x16_5 p722 q722
                         cases e722
                         obtain ⟨ce722, hce722, hMe722, hcc722⟩ := Kd.S_get HO_11.out [] x16_5 p722 (by first | exact q722 | exact od_ | (have e_ := (Kd.S_reads' HO_11.out).1; omega))
                         obtain ⟨ve722_0, rfl, ge722_0⟩ := hMe722
                         have hv722_0 := hcc722 0 _ rfl
                         rw [Nat.add_zero, show ((Kd.slice 51 k51)).sz = 1 from rfl, Nat.mul_one] at hv722_0
                         replace hv722_0 := Option.some.inj (hv722_0.symm.trans hx722_0)
                         rw [hv722_0] at ge722_0
                         have HL722_0 := Aside0.mk (show Kd.R k51 51 _ _ _ _ (rd_L2 t708 x16_5) from ge722_0)
                         clear hv722_0 ge722_0
                         clear hcc722 hce722
                         have HR722_0 := Aside0.mk hi722_0
                         have HC722_0 := Aside0.mk hl722_0
                         clear hi722_0 hl722_0
                         replace p722 := eq_true p722
                         replace q722 := eq_true q722
                         have p723 : 0 ≤ (x17_7 : Int) := od_
                         have q723 : x17_7 < ((rd_L2 t708 x16_5).length : Int) := od_
                         obtain ⟨ad723, e723, hx723_0, hx723_1⟩ := at_T51 (by repeat (first | (with_reducible exact HR722_0.out) | (with_reducible refine Kd.C_alloc ?_ _) | (with_reducible refine Kd.C_drewN ?_ _) | (with_reducible refine Kd.C_drew ?_) | exact HR722_0.out)) x17_7 p723 q723
                         cases e723
                         replace p723 := eq_true p723
                         replace q723 := eq_true q723
                         have p724 : 0 ≤ (x16_5 : Int) := od_
                         have q724 : x16_5 < (t708.length : Int) := od_
                         obtain ⟨ad724, A724_0, c724_0, e724, hx724_0, hl724_0, hi724_0⟩ := at_L2 (Kd.S_reads' HO_11.out).2.2 x16_5 p724 q724
                         obtain rfl : ad722 = ad724 := (by injection e724)
                         obtain ⟨ce724, hce724, hMe724, hcc724⟩ := Kd.S_get HO_11.out [] x16_5 p724 (by first | exact q724 | exact od_ | (have e_ := (Kd.S_reads' HO_11.out).1; omega))
                         obtain ⟨ve724_0, rfl, ge724_0⟩ := hMe724
                         have hv724_0 := hcc724 0 _ rfl
                         rw [Nat.add_zero, show ((Kd.slice 51 k51)).sz = 1 from rfl, Nat.mul_one] at hv724_0
                         replace hv724_0 := Option.some.inj (hv724_0.symm.trans hx724_0)
                         rw [hv724_0] at ge724_0
                         have HL724_0 := Aside0.mk (show Kd.R k51 51 _ _ _ _ (rd_L2 t708 x16_5) from ge724_0)
                         clear hv724_0 ge724_0
                         clear hcc724 hce724
                         have HR724_0 := Aside0.mk hi724_0
                         have HC724_0 := Aside0.mk hl724_0
                         clear hi724_0 hl724_0
                         replace p724 := eq_true p724
                         replace q724 := eq_true q724
                         have ea_ := Option.some.inj (hx722_0.symm.trans hx724_0)
                         injection ea_ with ea_ en_ ec_
                         subst ea_
                         subst ec_
                         clear en_
                         have p725 : 0 ≤ (x17_7 : Int) := od_
                         have q725 : x17_7 < ((rd_L2 t708 x16_5).length : Int) := od_
                         obtain ⟨ad725, e725, hx725_0, hx725_1⟩ := at_T51 (by repeat (first | (with_reducible exact HR724_0.out) | (with_reducible refine Kd.C_alloc ?_ _) | (with_reducible refine Kd.C_drewN ?_ _) | (with_reducible refine Kd.C_drew ?_) | exact HR724_0.out)) x17_7 p725 q725
                         cases e725
                         replace p725 := eq_true p725
                         replace q725 := eq_true q725
                         refine start_ (n := 55) (S := fun w' => w'.cell? (ad722.add (x16_5).toNat) = some (.slice (some ad723) (rd_L2 t708 x16_5).length c722_0) ∧ w'.cell? (ad723.add ((x17_7).toNat * 2)) = some (.int .i64 ((rd_T51 (rd_L2 t708 x16_5) x17_7).f0)) ∧ w'.cell? ⟨(ad723.add ((x17_7).toNat * 2)).block, (ad723.add ((x17_7).toNat * 2)).off + 1, none⟩ = some (.int .i64 ((rd_T51 (rd_L2 t708 x16_5) x17_7).f1)) ∧ w'.cell? (ad722.add (x16_5).toNat) = some (.slice (some ad723) (rd_L2 t708 x16_5).length c722_0) ∧ w'.cell? (ad723.add ((x17_7).toNat * 2)) = some (.int .i64 ((rd_T51 (rd_L2 t708 x16_5) x17_7).f0)) ∧ w'.cell? ⟨(ad723.add ((x17_7).toNat * 2)).block, (ad723.add ((x17_7).toNat * 2)).off + 1, none⟩ = some (.int .i64 ((rd_T51 (rd_L2 t708 x16_5) x17_7).f1))) (ds := []) #[false, false, false, false, false, false, false, false, false, false, false, false, false, false, false, false, false, false, false, false, false, false, false, false, false, false, false, false, false, false, false, false, false, false, false, false, false, false, false, false, false, false, false, false, false, false, false, false, false, false, false, false, false, false, false] (by kernel_rfl) rfl rfl ⟨hx722_0, hx723_0, hx723_1, hx724_0, hx725_0, hx725_1⟩ (fun hHeld => ?_); refine with_tabW trishawlaw01_TurnInside.tab20 trishawlaw01_TurnInside.bits20 (fun HT_ HW_ => ?_)
                         generalize wc.drew = w86 at HO_11 HO_14 BK701 BK702 HB HL722_0 HL724_0 HR722_0 HR724_0 hx722_0 hx723_0 hx723_1 hx724_0 hx725_0 hx725_1 hHeld ⊢
                         refine pu_ 0 130 HT_.out (h := ?_)
                         refine pu_ 1 131 HT_.out (h := ?_)
                         refine pu_ 2 132 HT_.out (h := ?_)
                         refine pu_ 4 134 HT_.out (h := ?_)
                         refine pu_ 8 138 HT_.out (h := ?_)
                         refine pu_ 9 139 HT_.out (h := ?_)
                         refine pu_ 10 140 HT_.out (h := ?_)
                         refine pu_ 12 142 HT_.out (h := ?_)
                         refine ta_ 3 133 HT_.out HW_.out hHeld (h := ?_)
                         refine pu_ 5 135 HT_.out (h := ?_)
                         refine pu_ 6 136 HT_.out (h := ?_)
                         refine ta_ 7 137 HT_.out HW_.out hHeld (h := ?_)
                         refine ta_ 11 141 HT_.out HW_.out hHeld (h := ?_)
                         refine pu_ 13 143 HT_.out (h := ?_)
                         refine pu_ 14 144 HT_.out (h := ?_)
                         refine ta_ 15 145 HT_.out HW_.out hHeld (h := ?_)
                         refine pu_ 16 146 HT_.out (h := ?_)
                         refine pu_ 17 147 HT_.out (h := ?_)
                         refine pn_ 18 148 HT_.out (h := ?_)
                         refine pn_ 19 149 HT_.out (h := ?_)
                         refine pn_ 20 150 HT_.out (h := ?_)
                         refine pn_ 21 151 HT_.out (h := ?_)
                         refine pn_ 22 152 HT_.out (h := ?_)
                         refine pn_ 23 153 HT_.out (h := ?_)
                         refine pn_ 24 154 HT_.out (h := ?_)
                         refine pn_ 25 155 HT_.out (h := ?_)
                         refine pn_ 26 156 HT_.out (h := ?_)
                         refine pn_ 27 157 HT_.out (h := ?_)
                         refine pn_ 28 158 HT_.out (h := ?_)
                         refine pn_ 29 159 HT_.out (h := ?_)
                         refine pn_ 30 160 HT_.out (h := ?_)
                         refine pn_ 31 161 HT_.out (h := ?_)
                         refine pn_ 32 162 HT_.out (h := ?_)
                         refine pn_ 33 163 HT_.out (h := ?_)
                         refine pn_ 34 164 HT_.out (h := ?_)
                         refine pn_ 35 165 HT_.out (h := ?_)
                         refine pn_ 36 166 HT_.out (h := ?_)
                         refine pn_ 37 167 HT_.out (h := ?_)
                         refine pn_ 38 168 HT_.out (h := ?_)
                         refine pn_ 39 169 HT_.out (h := ?_)
                         refine pn_ 40 170 HT_.out (h := ?_)
                         refine pn_ 41 171 HT_.out (h := ?_)
                         refine pn_ 42 172 HT_.out (h := ?_)
                         refine pn_ 43 173 HT_.out (h := ?_)
                         refine pn_ 44 174 HT_.out (h := ?_)
                         refine pn_ 45 175 HT_.out (h := ?_)
                         refine pn_ 46 176 HT_.out (h := ?_)
                         refine pn_ 47 177 HT_.out (h := ?_)
                         refine pn_ 48 178 HT_.out (h := ?_)
                         refine pn_ 49 179 HT_.out (h := ?_)
                         refine pn_ 50 180 HT_.out (h := ?_)
                         refine pn_ 51 181 HT_.out (h := ?_)
                         refine pn_ 52 182 HT_.out (h := ?_)
                         refine pn_ 53 183 HT_.out (h := ?_)
                         refine pu_ 54 184 HT_.out (h := ?_)
                         refine done_ (done_of HT_.out (by kernel_rfl)) ?_
                         try go_wp2
                         go_roundg kj58
                         case measure => have := HJ5.out; have := HJ19.out; have := HK3.out; have := HJ35.out; have := HK5.out; have := HJ54.out; have := HK7.out; have := HJ58.out; omega
                         case rel => exact ⟨(wrap64 (x17_7 + 1)), rs_, H', ⟨by have := HJ5.out; have := HJ19.out; have := HK3.out; have := HJ35.out; have := HK5.out; have := HJ54.out; have := HK7.out; have := HJ58.out; omega⟩, ⟨ks_ HO_11.out⟩, ⟨ks_ HO_14.out⟩, ⟨bk_ BK701.out⟩, ⟨bk_ BK702.out⟩, ⟨bl_⟩⟩
                       ·as_aux_lemma =>
                        replace c67 := Bool.eq_false_iff.mpr c67
                        subst c67
                        have H1 : (trishawlaw01_TurnInside.l1 kj58 l0 l1 t703 t708 t714 (wrap64 (x16_5 + 1)) a2_0 a2_1) = some r := by rw [if_neg (show ¬ (false = true) by decide)] at H; exact H
                        clear H
                        have H := H1
                        clear H1
                        have H' := Aside0.mk H
                        clear H
                        go_wp2
                        go_roundg kj58
                        case measure => have := HJ5.out; have := HJ19.out; have := HK3.out; have := HJ35.out; have := HK5.out; have := HJ54.out; have := HK7.out; have := HJ58.out; omega
                        case rel => exact ⟨(wrap64 (x16_5 + 1)), rs_, H', ⟨by have := HJ5.out; have := HJ19.out; have := HK3.out; have := HJ35.out; have := HK5.out; have := HJ54.out; have := HK7.out; have := HJ58.out; omega⟩, ⟨ks_ HO_11.out⟩, ⟨ks_ HO_14.out⟩, ⟨bk_ BK701.out⟩, ⟨bk_ BK702.out⟩, ⟨bl_⟩⟩
                  ·as_aux_lemma =>
                   replace c58 := Bool.eq_false_iff.mpr c58
                   subst c58
                   have H1 : (trishawlaw01_TurnInside.j8 kj54 l0 l1 t703 t708 a2_0 a2_1) = some r := by rw [if_neg (show ¬ (false = true) by decide)] at H; exact H
                   clear H
                   have H := H1
                   clear H1
                   have H' := Aside0.mk H
                   clear H
                   go_wp2
                   go_meet
                   case rel => exact ⟨_, H', ⟨by have := HJ5.out; have := HJ19.out; have := HK3.out; have := HJ35.out; have := HK5.out; have := HJ54.out; first | omega | exact Nat.le_refl _⟩, ⟨by refine ks_ ?_; exact Kd.S_mono HO_11.out (fun _ hk => trivial)⟩, ⟨bk_ BK701.out⟩, ⟨bk_ BK702.out⟩, ⟨bl_⟩⟩
             ·replace c54 := Bool.eq_false_iff.mpr c54
              subst c54
              have H1 : (trishawlaw01_TurnInside.j8 kj35 l0 l1 t703 t708 a2_0 a2_1) = some r := by rw [if_neg (show ¬ (false = true) by decide)] at H; exact H
              clear H
              have H := H1
              clear H1
              have H' := Aside0.mk H
              clear H
              go_wp2
              go_meet
              case rel => exact ⟨_, H', ⟨by have := HJ5.out; have := HJ19.out; have := HK3.out; have := HJ35.out; first | omega | exact Nat.le_refl _⟩, ⟨by refine ks_ ?_; exact Kd.S_mono HO_11.out (fun _ hk => trivial)⟩, ⟨bk_ BK701.out⟩, ⟨bk_ BK702.out⟩, ⟨bl_⟩⟩
            case rest =>
             as_aux_lemma =>
             clear HC53
             try clear p2
             try clear c5
             try clear c6
             try clear p6
             try clear c7
             try clear p7
             try clear q7
             try clear hx7
             try clear c54
             try clear c58
             try clear p64
             try clear c67
             try clear c68
             try clear c69
             try clear c70
             try clear c71
             try clear c72
             try clear c72b0
             try clear p72
             try clear q72
             try clear hx72
             try clear c73
             try clear c74
             try clear hx722_0
             try clear hx723_0
             try clear hx723_1
             try clear hx724_0
             try clear hx725_0
             try clear hx725_1
             try clear p722
             try clear p723
             try clear p724
             try clear p725
             try clear q722
             try clear q723
             try clear q724
             try clear q725
             obtain ⟨kq, HA, HJ52, HO_11, BK701, BK702, HB⟩ := hcut
             cases kq with
             | zero => exact absurd HA.out (by simp [trishawlaw01_TurnInside.j8])
             | succ kj52 =>
              have H := HA.out
              clear HA
              simp only [trishawlaw01_TurnInside.j8] at H
              have HC88 := Aside0.mk H
              clear H
              go_upto_region 22 with (fail)
              go_cut [195] (fun v195 wc => ∃ (kq : Nat) (x195_87 : Bool), v195 = .bool x195_87 ∧ Aside0 (trishawlaw01_TurnInside.j9 kq l0 l1 t703 t708 x195_87 a2_0 a2_1 = some r) ∧ Aside0 (kq ≤ kj52) ∧ Aside0 (Kd.S (Kd.slice 51 k51) 49 wc w.heap.size (fun _ => True) v709 t708) ∧ Aside0 (wc.heap[gb701]? = some (.cells #[.int .i64 a2_0, .int .i64 a2_1] 26 (0, 0))) ∧ Aside0 (wc.heap[gb702]? = some (.cells #[.int .i64 a3_0, .int .i64 a3_1] 26 (0, 0))) ∧ Aside0 (Below w.heap.size w wc))
              case first =>
               as_aux_lemma =>
               have H := HC88.out
               clear HC88
               by_cases c89 : (l1.length : Int) = t703
               ·rw [if_pos c89] at H
                have c89b0 : ((l1.length : Int) == t703) = true := beq_iff_eq.mpr c89
                have c89b1 : ((l1.length : Int) != t703) = false := bne_eq_false_iff_eq.mpr c89
                clear c89
                (first | rw [c89b0] | (simp only [i64_w, i32_w]; rw [c89b0]) | skip)
                obtain ⟨t734, A90, H⟩ := bi_ H
                replace H : (trishawlaw01_TurnInside.j9 kj52 l0 l1 t703 t708 (t734 != 0) a2_0 a2_1) = some r := H
                have H' := Aside0.mk H
                clear H
                go_wp2_with (first | (go_at_call 24; (with_reducible refine (trishawref01_Days.calls kj52 _ _ l1 (l0.length : Int) t734 _ ?side1 ?side2 A90.out).mono ?_); (case side1 => exact cb_ HR1.out); (case side2 => exact HC1.out); rintro e w' ⟨rfl, ⟨nd, rfl⟩⟩))
                go_meet
                case rel => exact ⟨_, ((t734 != 0)), rs_, H', ⟨by have := HJ5.out; have := HJ19.out; have := HK3.out; have := HJ35.out; have := HJ52.out; first | omega | exact Nat.le_refl _⟩, ⟨ks_ HO_11.out⟩, ⟨bk_ BK701.out⟩, ⟨bk_ BK702.out⟩, ⟨bl_⟩⟩
               ·rw [if_neg c89] at H
                have c89b0 : ((l1.length : Int) == t703) = false := beq_eq_false_iff_ne.mpr c89
                have c89b1 : ((l1.length : Int) != t703) = true := bne_iff_ne.mpr c89
                (first | rw [c89b0] | (simp only [i64_w, i32_w]; rw [c89b0]) | skip)
                have H' := Aside0.mk H
                clear H
                go_wp2
                go_meet
                case rel => exact ⟨_, (true), rs_, H', ⟨by have := HJ5.out; have := HJ19.out; have := HK3.out; have := HJ35.out; have := HJ52.out; first | omega | exact Nat.le_refl _⟩, ⟨ks_ HO_11.out⟩, ⟨bk_ BK701.out⟩, ⟨bk_ BK702.out⟩, ⟨bl_⟩⟩
              case rest =>
               as_aux_lemma =>
               clear HC88
               try clear p2
               try clear c5
               try clear c6
               try clear p6
               try clear c7
               try clear p7
               try clear q7
               try clear hx7
               try clear c8
               try clear c54
               try clear c58
               try clear p64
               try clear c67
               try clear c68
               try clear c69
               try clear c70
               try clear c71
               try clear c72
               try clear c72b0
               try clear p72
               try clear q72
               try clear hx72
               try clear c73
               try clear c74
               try clear c89
               try clear c89b0
               try clear c89b1
               try clear hx722_0
               try clear hx723_0
               try clear hx723_1
               try clear hx724_0
               try clear hx725_0
               try clear hx725_1
               try clear p2
               try clear p6
               try clear p64
               try clear p7
               try clear p72
               try clear p722
               try clear p723
               try clear p724
               try clear p725
               try clear q7
               try clear q72
               try clear q722
               try clear q723
               try clear q724
               try clear q725
               obtain ⟨kq, x195_87, rfl, HA, HJ87, HO_11, BK701, BK702, HB⟩ := hcut
               cases kq with
               | zero => exact absurd HA.out (by simp [trishawlaw01_TurnInside.j9])
               | succ kj87 =>
                have H := HA.out
                clear HA
                simp only [trishawlaw01_TurnInside.j9] at H
                by_cases c91 : x195_87 = true
                ·as_aux_lemma =>
                 subst c91
                 have H1 : ((trishawlaw01_alive.f kj87).bind fun t735 => (some t735)) = some r := by rw [if_pos rfl] at H; exact H
                 clear H
                 have H := H1
                 clear H1
                 obtain ⟨t735, A92, H⟩ := bi_ H
                 replace H : (some t735) = some r := H
                 obtain rfl := Option.some.inj H
                 go_wp2_with (first | ((with_reducible refine gate_callee (f := 17) rfl ?_); refine goesL_ (some 196) rfl rfl Tryd.func17 (by kernel_rfl) rfl #[] rfl (as_) ?_; (with_reducible refine (trishawlaw01_alive.calls kj87  t735 _ A92.out (HN.out.of (bl_))).mono ?_); rintro e w93 ⟨rfl, hb⟩; refine ⟨_, rfl, ?_⟩; replace HO_11 := Aside0.mk (Kd.S_below (ks_ HO_11.out) hb); replace BK701 := bb_ BK701 hb; replace BK702 := bb_ BK702 hb; replace HB := hb_ hb; clear hb))
                 go_ret
                 exact ⟨er_, bl_⟩
                ·as_aux_lemma =>
                 replace c91 := Bool.eq_false_iff.mpr c91
                 subst c91
                 have H1 : (if 0 ≤ (l0.length : Int) then (if ((l0.length : Int) : Int).toNat ≤ 35184372088832 then (trishawlaw01_TurnInside.l3 kj87 l0 l1 t703 t708 (List.replicate ((l0.length : Int) : Int).toNat 0) true 0 a2_0 a2_1) else (none)) else (none)) = some r := by rw [if_neg (show ¬ (false = true) by decide)] at H; exact H
                 clear H
                 have H := H1
                 clear H1
                 have c94 : 0 ≤ (l0.length : Int) := fl_ fun c94 => by rw [if_neg c94] at H; exact absurd H (by simp)
                 rw [if_pos c94] at H
                 have c94b0 := eq_true c94
                 have c94b1 : decide (0 ≤ (l0.length : Int)) = true := decide_eq_true c94
                 clear c94
                 have c95 : ((l0.length : Int) : Int).toNat ≤ 35184372088832 := fl_ fun c95 => by rw [if_neg c95] at H; exact absurd H (by simp)
                 rw [if_pos c95] at H
                 have c95b0 := eq_true c95
                 have c95b1 : decide (((l0.length : Int) : Int).toNat ≤ 35184372088832) = true := decide_eq_true c95
                 clear c95
                 obtain ⟨y736, hy736⟩ : ∃ y_ : List Int, y_ = (List.replicate ((l0.length : Int) : Int).toNat 0) := ⟨_, rfl⟩
                 replace H : (trishawlaw01_TurnInside.l3 kj87 l0 l1 t703 t708 y736 true 0 a2_0 a2_1) = some r := by first | (rw [hy736]; with_reducible exact H) | (have H2_ := (Option.bind_some _ _).symm.trans H; rw [hy736]; with_reducible exact H2_) | (have H2_ := (Option.bind_some _ _).symm.trans H; with_reducible exact H2_) | with_reducible exact H | (rw [hy736]; exact H) | exact H
                 have Ny736 := Aside0.mk hy736
                 clear hy736
                 have H' := Aside0.mk H
                 clear H
                 go_wp2_with (first | ((with_reducible refine gate_dst (N := 199) rfl ?_); (try (refine gate_guard (by rfl) ?_; dsimp only)); refine Kd.R_make (Kd.int .i64) _ 3 rfl (N := 199) rfl 22 _ _ rfl (l0.length : Int) rfl rfl Tryd.underlying22 (.int .i64 0) 8 info3 rfl (by decide) (by omega) 0 (ok := fun _ => True) (okp := fun _ => True) rfl (fun _ hk => hk) trivial (od_) (Nat.le_trans (Nat.mul_le_mul_right _ (od_ : (l0.length : Int).toNat ≤ 35184372088832)) (by omega)) (Below.refl _ _) (Nat.le_refl _) ?_; intro v737 w96 ho97 hb hg_ hnew_; clear hg_ hnew_; (first | rw [← Ny736.out] at ho97 | (simp only [Int.reduceToNat] at ho97; rw [← Ny736.out] at ho97)); replace HO_11 := Aside0.mk (Kd.S_below (ks_ HO_11.out) hb); have HO738 := rl_ ho97; replace BK701 := bb_ BK701 hb; replace BK702 := bb_ BK702 hb; replace HB := hb_ hb; clear hb ho97))
                 go_loopg [19, 20] kj87 (fun kq v19 v20 w' => ∃ (x18_7 : List Int) (x19_7 : Bool) (x20_7 : Int), v19 = .bool x19_7 ∧ v20 = .int .i64 x20_7 ∧ Aside0 (trishawlaw01_TurnInside.l3 kq l0 l1 t703 t708 x18_7 x19_7 x20_7 a2_0 a2_1 = some r) ∧ Aside0 (kq ≤ kj87) ∧ Aside0 (Kd.S (Kd.slice 51 k51) 49 w' w.heap.size (fun _ => True) v709 t708) ∧ Aside0 (Kd.R (Kd.int .i64) 3 w' w.heap.size (fun _ => True) v737 x18_7) ∧ Aside0 (w'.heap[gb701]? = some (.cells #[.int .i64 a2_0, .int .i64 a2_1] 26 (0, 0))) ∧ Aside0 (w'.heap[gb702]? = some (.cells #[.int .i64 a3_0, .int .i64 a3_1] 26 (0, 0))) ∧ Aside0 (Below w.heap.size w w'))
                 case atStart => exact ⟨(y736), (true), (0), rs_, rs_, H', ⟨Nat.le_refl _⟩, ⟨ks_ HO_11.out⟩, ⟨kr_ HO738.out⟩, ⟨bk_ BK701.out⟩, ⟨bk_ BK702.out⟩, ⟨bl_⟩⟩
                 case round =>
                  as_aux_lemma =>
                  clear H'
                  try clear c1
                  try clear p2
                  try clear c5
                  try clear c6
                  try clear p6
                  try clear c7
                  try clear p7
                  try clear q7
                  try clear hx7
                  try clear c8
                  try clear c9
                  try clear c17
                  try clear c54
                  try clear c58
                  try clear p64
                  try clear c67
                  try clear c68
                  try clear c69
                  try clear c70
                  try clear c71
                  try clear c72
                  try clear c72b0
                  try clear p72
                  try clear q72
                  try clear hx72
                  try clear c73
                  try clear c74
                  try clear c89
                  try clear c89b0
                  try clear c89b1
                  try clear c91
                  try clear c94
                  try clear c94b0
                  try clear c94b1
                  try clear c95
                  try clear c95b0
                  try clear c95b1
                  try clear hx722_0
                  try clear hx723_0
                  try clear hx723_1
                  try clear hx724_0
                  try clear hx725_0
                  try clear hx725_1
                  try clear p2
                  try clear p6
                  try clear p64
                  try clear p7
                  try clear p72
                  try clear p722
                  try clear p723
                  try clear p724
                  try clear p725
                  try clear q7
                  try clear q72
                  try clear q722
                  try clear q723
                  try clear q724
                  try clear q725
                  obtain ⟨x18_7, x19_7, x20_7, rfl, rfl, HA, HK7, HO_11, HO_18, BK701, BK702, HB⟩ := hrel
                  cases gk with
                  | zero => exact absurd HA.out (by simp [trishawlaw01_TurnInside.l3])
                  | succ k7 =>
                   have H := HA.out
                   clear HA
                   simp only [trishawlaw01_TurnInside.l3] at H
                   by_cases c98 : x20_7 < t703
                   ·rw [if_pos c98] at H
                    have c98b0 : decide (x20_7 < t703) = true := decide_eq_true c98
                    clear c98
                    obtain ⟨c99b0, H⟩ := fp_ H
                    obtain ⟨c100b0, H⟩ := fp_ H
                    obtain ⟨c101b0, H⟩ := fp_ H
                    obtain ⟨c102b0, H⟩ := fp_ H
                    obtain ⟨c103b0, H⟩ := fp_ H
                    by_cases c104 : (rd x18_7 (rd l1 x20_7)) = (rd l0 (rd l1 x20_7))
                    ·as_aux_lemma =>
                     rw [if_pos c104] at H
                     have c104b0 : ((rd x18_7 (rd l1 x20_7)) == (rd l0 (rd l1 x20_7))) = true := beq_iff_eq.mpr c104
                     have c104b1 : ((rd x18_7 (rd l1 x20_7)) != (rd l0 (rd l1 x20_7))) = false := bne_eq_false_iff_eq.mpr c104
                     clear c104
                     obtain ⟨t742, A105, H⟩ := bi_ H
                     replace H : (some t742) = some r := H
                     obtain rfl := Option.some.inj H
                     obtain ⟨ad739, e739, hx739_0, p739, q739⟩ := ai_ HR1.out x20_7
                     cases e739
                     replace hx739_0 := hc_ HB hx739_0
                     try go_wp2
                     replace HO_11 := Aside0.mk (Kd.S_drew HO_11.out)
                     replace HO_18 := Aside0.mk (Kd.R_drew HO_18.out)
                     replace BK701 := Aside0.mk (blk_drew BK701.out)
                     replace BK702 := Aside0.mk (blk_drew BK702.out)
                     replace HB := Aside0.mk (below_drew1 HB.out)
                     obtain ⟨Ao107, co107, eo107⟩ := Kd.R_slice HO_18.out
                     (first | subst eo107 | (injection eo107 with f1_ f2_ f3_; have f4_ := f1_.symm; have f5_ := f3_.symm; clear f1_ f2_ f3_; subst f4_; subst f5_))
                     obtain ⟨ad740, e740, hx740_0, p740, q740⟩ := ai_ (Kd.R_reads' HO_18.out).2.2 (rd l1 x20_7)
                     cases e740
                     have p741 : 0 ≤ ((rd l1 x20_7) : Int) := od_
                     have q741 : (rd l1 x20_7) < (l0.length : Int) := od_
                     obtain ⟨ad741, e741, hx741_0⟩ := Kd.at_int HR0.out (rd l1 x20_7) p741 q741
                     have hw741_0 := hx741_0
                     cases e741
                     replace hx741_0 := hc_ HB hx741_0
                     replace p741 := eq_true p741
                     replace q741 := eq_true q741
                     refine start_ (n := 9) (S := fun w' => w'.cell? (ad740.add ((rd l1 x20_7)).toNat) = some (.int .i64 (rd x18_7 (rd l1 x20_7))) ∧ w'.cell? (ad741.add ((rd l1 x20_7)).toNat) = some (.int .i64 (rd l0 (rd l1 x20_7)))) (ds := []) #[false, false, false, false, false, false, false, false, false] (by kernel_rfl) rfl rfl ⟨hx740_0, (hc_ HB hw741_0)⟩ (fun hHeld => ?_); refine with_tabW trishawlaw01_TurnInside.tab30 trishawlaw01_TurnInside.bits30 (fun HT_ HW_ => ?_)
                     generalize wr.drew = w106 at HO_11 HO_18 BK701 BK702 HB hx740_0 hx741_0 hHeld ⊢
                     refine pu_ 0 209 HT_.out (h := ?_)
                     refine pu_ 1 210 HT_.out (h := ?_)
                     refine pu_ 2 211 HT_.out (h := ?_)
                     refine pu_ 4 213 HT_.out (h := ?_)
                     refine pu_ 5 214 HT_.out (h := ?_)
                     refine pu_ 6 215 HT_.out (h := ?_)
                     refine ta_ 3 212 HT_.out HW_.out hHeld (h := ?_)
                     refine ta_ 7 216 HT_.out HW_.out hHeld (h := ?_)
                     refine pu_ 8 217 HT_.out (h := ?_)
                     refine done_ (done_of HT_.out (by kernel_rfl)) ?_
                     try go_wp2_with (first | ((with_reducible refine gate_callee (f := 17) rfl ?_); refine goesL_ (some 218) rfl rfl Tryd.func17 (by kernel_rfl) rfl #[] rfl (as_) ?_; (with_reducible refine (trishawlaw01_alive.calls k7  t742 _ A105.out (HN.out.of (bl_))).mono ?_); rintro e w108 ⟨rfl, hb⟩; refine ⟨_, rfl, ?_⟩; replace HO_11 := Aside0.mk (Kd.S_below (ks_ HO_11.out) hb); replace HO_18 := rb_ HO_18 hb; replace BK701 := bb_ BK701 hb; replace BK702 := bb_ BK702 hb; replace HB := hb_ hb; clear hb))
                     go_ret
                     exact ⟨er_, bl_⟩
                    ·as_aux_lemma =>
                     rw [if_neg c104] at H
                     have c104b0 : ((rd x18_7 (rd l1 x20_7)) == (rd l0 (rd l1 x20_7))) = false := beq_eq_false_iff_ne.mpr c104
                     have c104b1 : ((rd x18_7 (rd l1 x20_7)) != (rd l0 (rd l1 x20_7))) = true := bne_iff_ne.mpr c104
                     obtain ⟨c109b0, H⟩ := fp_ H
                     obtain ⟨c110b0, H⟩ := fp_ H
                     obtain ⟨c111b0, H⟩ := fp_ H
                     by_cases c112 : x19_7 = true
                     ·subst c112
                      have H1 : (if ((rd_T51 (rd_L2 t708 (rd l1 x20_7)) (rd x18_7 (rd l1 x20_7))).f0) ≤ x20_7 then (trishawlaw01_TurnInside.l3 k7 l0 l1 t703 t708 (x18_7.set ((rd l1 x20_7) : Int).toNat (wrap64 ((rd x18_7 (rd l1 x20_7)) + 1))) (decide (x20_7 ≤ ((rd_T51 (rd_L2 t708 (rd l1 x20_7)) (rd x18_7 (rd l1 x20_7))).f1))) (wrap64 (x20_7 + 1)) a2_0 a2_1) else (trishawlaw01_TurnInside.l3 k7 l0 l1 t703 t708 (x18_7.set ((rd l1 x20_7) : Int).toNat (wrap64 ((rd x18_7 (rd l1 x20_7)) + 1))) false (wrap64 (x20_7 + 1)) a2_0 a2_1)) = some r := by rw [if_pos rfl] at H; exact H
                      clear H
                      have H := H1
                      clear H1
                      by_cases c113 : ((rd_T51 (rd_L2 t708 (rd l1 x20_7)) (rd x18_7 (rd l1 x20_7))).f0) ≤ x20_7
                      ·as_aux_lemma =>
                       rw [if_pos c113] at H
                       have c113b0 : decide (((rd_T51 (rd_L2 t708 (rd l1 x20_7)) (rd x18_7 (rd l1 x20_7))).f0) ≤ x20_7) = true := decide_eq_true c113
                       clear c113
                       obtain ⟨y748, hy748⟩ : ∃ y_ : List Int, y_ = (x18_7.set ((rd l1 x20_7) : Int).toNat (wrap64 ((rd x18_7 (rd l1 x20_7)) + 1))) := ⟨_, rfl⟩
                       replace H : (trishawlaw01_TurnInside.l3 k7 l0 l1 t703 t708 y748 (decide (x20_7 ≤ ((rd_T51 (rd_L2 t708 (rd l1 x20_7)) (rd x18_7 (rd l1 x20_7))).f1))) (wrap64 (x20_7 + 1)) a2_0 a2_1) = some r := by first | (rw [hy748]; with_reducible exact H) | (have H2_ := (Option.bind_some _ _).symm.trans H; rw [hy748]; with_reducible exact H2_) | (have H2_ := (Option.bind_some _ _).symm.trans H; with_reducible exact H2_) | with_reducible exact H | (rw [hy748]; exact H) | exact H
                       have Ny748 := Aside0.mk hy748
                       clear hy748
                       have H' := Aside0.mk H
                       clear H
                       obtain ⟨ad739, e739, hx739_0, p739, q739⟩ := ai_ HR1.out x20_7
                       cases e739
                       replace hx739_0 := hc_ HB hx739_0
                       try go_wp2
                       replace HO_11 := Aside0.mk (Kd.S_drew HO_11.out)
                       replace HO_18 := Aside0.mk (Kd.R_drew HO_18.out)
                       replace BK701 := Aside0.mk (blk_drew BK701.out)
                       replace BK702 := Aside0.mk (blk_drew BK702.out)
                       replace HB := Aside0.mk (below_drew1 HB.out)
                       obtain ⟨Ao116, co116, eo116⟩ := Kd.R_slice HO_18.out
                       (first | subst eo116 | (injection eo116 with f1_ f2_ f3_; have f4_ := f1_.symm; have f5_ := f3_.symm; clear f1_ f2_ f3_; subst f4_; subst f5_))
                       obtain ⟨ad740, e740, hx740_0, p740, q740⟩ := ai_ (Kd.R_reads' HO_18.out).2.2 (rd l1 x20_7)
                       cases e740
                       have p741 : 0 ≤ ((rd l1 x20_7) : Int) := od_
                       have q741 : (rd l1 x20_7) < (l0.length : Int) := od_
                       obtain ⟨ad741, e741, hx741_0⟩ := Kd.at_int HR0.out (rd l1 x20_7) p741 q741
                       have hw741_0 := hx741_0
                       cases e741
                       replace hx741_0 := hc_ HB hx741_0
                       replace p741 := eq_true p741
                       replace q741 := eq_true q741
                       refine start_ (n := 9) (S := fun w' => w'.cell? (ad740.add ((rd l1 x20_7)).toNat) = some (.int .i64 (rd x18_7 (rd l1 x20_7))) ∧ w'.cell? (ad741.add ((rd l1 x20_7)).toNat) = some (.int .i64 (rd l0 (rd l1 x20_7)))) (ds := []) #[false, false, false, false, false, false, false, false, false] (by kernel_rfl) rfl rfl ⟨hx740_0, (hc_ HB hw741_0)⟩ (fun hHeld => ?_); refine with_tabW trishawlaw01_TurnInside.tab30 trishawlaw01_TurnInside.bits30 (fun HT_ HW_ => ?_)
                       generalize wr.drew = w115 at HO_11 HO_18 BK701 BK702 HB hx740_0 hx741_0 hHeld ⊢
                       refine pu_ 0 209 HT_.out (h := ?_)
                       refine pu_ 1 210 HT_.out (h := ?_)
                       refine pu_ 2 211 HT_.out (h := ?_)
                       refine pu_ 4 213 HT_.out (h := ?_)
                       refine pu_ 5 214 HT_.out (h := ?_)
                       refine pu_ 6 215 HT_.out (h := ?_)
                       refine ta_ 3 212 HT_.out HW_.out hHeld (h := ?_)
                       refine ta_ 7 216 HT_.out HW_.out hHeld (h := ?_)
                       refine pu_ 8 217 HT_.out (h := ?_)
                       refine done_ (done_of HT_.out (by kernel_rfl)) ?_
                       try go_wp2
                       replace HO_11 := Aside0.mk (Kd.S_drew HO_11.out)
                       replace HO_18 := Aside0.mk (Kd.R_drew HO_18.out)
                       replace BK701 := Aside0.mk (blk_drew BK701.out)
                       replace BK702 := Aside0.mk (blk_drew BK702.out)
                       replace HB := Aside0.mk (below_drew1 HB.out)
                       obtain ⟨Ao118, co118, eo118⟩ := Kd.S_slice HO_11.out
                       (first | subst eo118 | (injection eo118 with f1_ f2_ f3_; have f4_ := f1_.symm; have f5_ := f3_.symm; clear f1_ f2_ f3_; subst f4_; subst f5_))
                       have p743 : 0 ≤ ((rd l1 x20_7) : Int) := od_
                       have q743 : (rd l1 x20_7) < (t708.length : Int) := od_
                       obtain ⟨ad743, A743_0, c743_0, e743, hx743_0, hl743_0, hi743_0⟩ := at_L2 (Kd.S_reads' HO_11.out).2.2 (rd l1 x20_7) p743 q743
                       cases e743
                       obtain ⟨ce743, hce743, hMe743, hcc743⟩ := Kd.S_get HO_11.out [] (rd l1 x20_7) p743 (by first | exact q743 | exact od_ | (have e_ := (Kd.S_reads' HO_11.out).1; omega))
                       obtain ⟨ve743_0, rfl, ge743_0⟩ := hMe743
                       have hv743_0 := hcc743 0 _ rfl
                       rw [Nat.add_zero, show ((Kd.slice 51 k51)).sz = 1 from rfl, Nat.mul_one] at hv743_0
                       replace hv743_0 := Option.some.inj (hv743_0.symm.trans hx743_0)
                       rw [hv743_0] at ge743_0
                       have HL743_0 := Aside0.mk (show Kd.R k51 51 _ _ _ _ (rd_L2 t708 (rd l1 x20_7)) from ge743_0)
                       clear hv743_0 ge743_0
                       clear hcc743 hce743
                       have HR743_0 := Aside0.mk hi743_0
                       have HC743_0 := Aside0.mk hl743_0
                       clear hi743_0 hl743_0
                       replace p743 := eq_true p743
                       replace q743 := eq_true q743
                       obtain ⟨ad744, e744, hx744_0, p744, q744⟩ := ai_ (Kd.R_reads' HO_18.out).2.2 (rd l1 x20_7)
                       obtain rfl : ad740 = ad744 := (by injection e744)
                       have p745 : 0 ≤ ((rd x18_7 (rd l1 x20_7)) : Int) := od_
                       have q745 : (rd x18_7 (rd l1 x20_7)) < ((rd_L2 t708 (rd l1 x20_7)).length : Int) := od_
                       obtain ⟨ad745, e745, hx745_0, hx745_1⟩ := at_T51 (by repeat (first | (with_reducible exact HR743_0.out) | (with_reducible refine Kd.C_alloc ?_ _) | (with_reducible refine Kd.C_drewN ?_ _) | (with_reducible refine Kd.C_drew ?_) | exact HR743_0.out)) (rd x18_7 (rd l1 x20_7)) p745 q745
                       cases e745
                       replace p745 := eq_true p745
                       replace q745 := eq_true q745
                       refine start_ (n := 12) (S := fun w' => w'.cell? (ad743.add ((rd l1 x20_7)).toNat) = some (.slice (some ad745) (rd_L2 t708 (rd l1 x20_7)).length c743_0) ∧ w'.cell? (ad740.add ((rd l1 x20_7)).toNat) = some (.int .i64 (rd x18_7 (rd l1 x20_7))) ∧ w'.cell? (ad745.add (((rd x18_7 (rd l1 x20_7))).toNat * 2)) = some (.int .i64 ((rd_T51 (rd_L2 t708 (rd l1 x20_7)) (rd x18_7 (rd l1 x20_7))).f0)) ∧ w'.cell? ⟨(ad745.add (((rd x18_7 (rd l1 x20_7))).toNat * 2)).block, (ad745.add (((rd x18_7 (rd l1 x20_7))).toNat * 2)).off + 1, none⟩ = some (.int .i64 ((rd_T51 (rd_L2 t708 (rd l1 x20_7)) (rd x18_7 (rd l1 x20_7))).f1))) (ds := []) #[false, false, false, false, false, false, false, false, false, false, false, false] (by kernel_rfl) rfl rfl ⟨hx743_0, hx744_0, hx745_0, hx745_1⟩ (fun hHeld => ?_); refine with_tabW trishawlaw01_TurnInside.tab32 trishawlaw01_TurnInside.bits32 (fun HT_ HW_ => ?_)
                       generalize w115.drew = w117 at HO_11 HO_18 BK701 BK702 HB HL743_0 HR743_0 hx743_0 hx744_0 hx745_0 hx745_1 hHeld ⊢
                       refine pu_ 0 219 HT_.out (h := ?_)
                       refine pu_ 1 220 HT_.out (h := ?_)
                       refine pu_ 2 221 HT_.out (h := ?_)
                       refine pu_ 4 223 HT_.out (h := ?_)
                       refine pu_ 5 224 HT_.out (h := ?_)
                       refine pu_ 6 225 HT_.out (h := ?_)
                       refine ta_ 3 222 HT_.out HW_.out hHeld (h := ?_)
                       refine ta_ 7 226 HT_.out HW_.out hHeld (h := ?_)
                       refine pu_ 8 227 HT_.out (h := ?_)
                       refine ta_ 9 228 HT_.out HW_.out hHeld (h := ?_)
                       refine one_ (i := 10) (N := some 22) #[true, true, true, true, true, true, true, true, true, true, true, false] rfl rfl (one_of HT_.out (by kernel_rfl)) (by decide) (fun K hK => ?_)
                       refine box_step ?hg (N := 22) ?hd (cs := #[.int .i64 0, .int .i64 0]) (t := 51) ?hr ?_; (case hd => rfl); (case hg => rfl); (case hr => first | (go_simp; done) | (go_simp; rfl))
                       intro gb746 hg w119 hbox hb
                       have HS0_ := (hb.cell (World.block_lt_of_cell? _ _ (hHeld.1))).trans (hHeld.1)
                       have HS1_ := (hb.cell (World.block_lt_of_cell? _ _ (hHeld.2.1))).trans (hHeld.2.1)
                       have HS2_ := (hb.cell (World.block_lt_of_cell? _ _ (hHeld.2.2.1))).trans (hHeld.2.2.1)
                       have HS3_ := (hb.cell (World.block_lt_of_cell? _ _ (hHeld.2.2.2))).trans (hHeld.2.2.2)
                       replace HO_11 := Aside0.mk (Kd.S_below (Kd.S_elderB (ks_ HO_11.out) gb746 (Nat.le_of_eq hg.symm)) hb)
                       replace HO_18 := rb_ HO_18 hb
                       replace HL743_0 := Aside0.mk (Kd.R_below (Kd.R_elderB (kr_ HL743_0.out) gb746 (Nat.le_of_eq hg.symm)) hb)
                       replace HR743_0 := Aside0.mk (Kd.C_below (by repeat (first | (with_reducible exact HR743_0.out) | (with_reducible refine Kd.C_alloc ?_ _) | (with_reducible refine Kd.C_drewN ?_ _) | (with_reducible refine Kd.C_drew ?_) | exact HR743_0.out)) hb)
                       have BK746 := Aside0.mk (hbox)
                       have GW746 := gw_ hg
                       have GE746 := gw_ hg
                       replace HB := hb_ hb
                       have NB701_746 := nl_ hg BK701
                       have NB746_701 := sy_ NB701_746
                       replace BK701 := bb_ BK701 hb
                       have NB702_746 := nl_ hg BK702
                       have NB746_702 := sy_ NB702_746
                       replace BK702 := bb_ BK702 hb
                       clear hb hbox hg
                       refine hK.out _ _ ⟨HS0_, HS1_, HS2_, HS3_⟩ (fun hHeld => ?_)
                       clear hK K
                       refine np_ 22 (h := ?_)
                       refine one_ (i := 11) (N := none) #[true, true, true, true, true, true, true, true, true, true, true, true] rfl rfl (one_of HT_.out (by kernel_rfl)) (by decide) (fun K hK => ?_)
                       have hs120 : w119.cell? ⟨gb746, 0, none⟩ = some (.int .i64 0) := (blk_cell BK746.out 0).trans rfl
                       have hfs120 := bz_ BK746 0
                       have hns120_0 := NB701_746.out
                       have hns120_1 := NB702_746.out
                       have hms120_0 := NB746_701.out
                       have hms120_1 := NB746_702.out
                       have hs121 : w119.cell? ⟨gb746, 1, none⟩ = some (.int .i64 0) := (blk_cell BK746.out 1).trans rfl
                       have hfs121 := bz_ BK746 1
                       have hns121_0 := NB701_746.out
                       have hns121_1 := NB702_746.out
                       have hms121_0 := NB746_701.out
                       have hms121_1 := NB746_702.out
                       refine skip_ (w1 := ?_) (by rfl) rfl ?_ ?_
                       rotate_left
                       ·go_simp
                        rfl
                       refine hK.out _ _ ⟨((cell_far (p := ⟨gb746, _, none⟩) (by first | exact Kd.own_blk (Kd.S_away HO_11.out (fun _ hk => hk.2)) | (rw [add_block]; exact Kd.own_blk (Kd.S_away HO_11.out (fun _ hk => hk.2))) | (show (Addr.add _ _).block ≠ _; rw [add_block]; exact Kd.own_blk (Kd.S_away HO_11.out (fun _ hk => hk.2))) | (dsimp only; exact Kd.own_blk (Kd.S_away HO_11.out (fun _ hk => hk.2)))) _).trans (((cell_far (p := ⟨gb746, _, none⟩) (by first | exact Kd.own_blk (Kd.S_away HO_11.out (fun _ hk => hk.2)) | (rw [add_block]; exact Kd.own_blk (Kd.S_away HO_11.out (fun _ hk => hk.2))) | (show (Addr.add _ _).block ≠ _; rw [add_block]; exact Kd.own_blk (Kd.S_away HO_11.out (fun _ hk => hk.2))) | (dsimp only; exact Kd.own_blk (Kd.S_away HO_11.out (fun _ hk => hk.2)))) _).trans (hHeld.1)))), ((cell_far (p := ⟨gb746, _, none⟩) (by first | exact Kd.own_blk (Kd.R_ne HO_18.out BK746.out (by decide)) | (rw [add_block]; exact Kd.own_blk (Kd.R_ne HO_18.out BK746.out (by decide))) | (show (Addr.add _ _).block ≠ _; rw [add_block]; exact Kd.own_blk (Kd.R_ne HO_18.out BK746.out (by decide))) | (dsimp only; exact Kd.own_blk (Kd.R_ne HO_18.out BK746.out (by decide)))) _).trans (((cell_far (p := ⟨gb746, _, none⟩) (by first | exact Kd.own_blk (Kd.R_ne HO_18.out BK746.out (by decide)) | (rw [add_block]; exact Kd.own_blk (Kd.R_ne HO_18.out BK746.out (by decide))) | (show (Addr.add _ _).block ≠ _; rw [add_block]; exact Kd.own_blk (Kd.R_ne HO_18.out BK746.out (by decide))) | (dsimp only; exact Kd.own_blk (Kd.R_ne HO_18.out BK746.out (by decide)))) _).trans (hHeld.2.1)))), ((cell_far (p := ⟨gb746, _, none⟩) (by first | exact Kd.own_blk (Kd.R_away HL743_0.out (fun _ hk => hk.2)) | (rw [add_block]; exact Kd.own_blk (Kd.R_away HL743_0.out (fun _ hk => hk.2))) | (show (Addr.add _ _).block ≠ _; rw [add_block]; exact Kd.own_blk (Kd.R_away HL743_0.out (fun _ hk => hk.2))) | (dsimp only; exact Kd.own_blk (Kd.R_away HL743_0.out (fun _ hk => hk.2)))) _).trans (((cell_far (p := ⟨gb746, _, none⟩) (by first | exact Kd.own_blk (Kd.R_away HL743_0.out (fun _ hk => hk.2)) | (rw [add_block]; exact Kd.own_blk (Kd.R_away HL743_0.out (fun _ hk => hk.2))) | (show (Addr.add _ _).block ≠ _; rw [add_block]; exact Kd.own_blk (Kd.R_away HL743_0.out (fun _ hk => hk.2))) | (dsimp only; exact Kd.own_blk (Kd.R_away HL743_0.out (fun _ hk => hk.2)))) _).trans (hHeld.2.2.1)))), ((cell_far (p := ⟨gb746, _, none⟩) (by first | exact Kd.own_blk (Kd.R_away HL743_0.out (fun _ hk => hk.2)) | (rw [add_block]; exact Kd.own_blk (Kd.R_away HL743_0.out (fun _ hk => hk.2))) | (show (Addr.add _ _).block ≠ _; rw [add_block]; exact Kd.own_blk (Kd.R_away HL743_0.out (fun _ hk => hk.2))) | (dsimp only; exact Kd.own_blk (Kd.R_away HL743_0.out (fun _ hk => hk.2)))) _).trans (((cell_far (p := ⟨gb746, _, none⟩) (by first | exact Kd.own_blk (Kd.R_away HL743_0.out (fun _ hk => hk.2)) | (rw [add_block]; exact Kd.own_blk (Kd.R_away HL743_0.out (fun _ hk => hk.2))) | (show (Addr.add _ _).block ≠ _; rw [add_block]; exact Kd.own_blk (Kd.R_away HL743_0.out (fun _ hk => hk.2))) | (dsimp only; exact Kd.own_blk (Kd.R_away HL743_0.out (fun _ hk => hk.2)))) _).trans (hHeld.2.2.2))))⟩ (fun hHeld => ?_)
                       clear hK K
                       refine done_ (done_of HT_.out (by kernel_rfl)) ?_
                       have n0_ : Aside0 (Kd.S (Kd.slice 51 k51) 49 ((w119.setCell ⟨gb746, 0, none⟩ (.int .i64 ((rd_T51 (rd_L2 t708 (rd l1 x20_7)) (rd x18_7 (rd l1 x20_7))).f0))).setCell ⟨gb746, 1, none⟩ (.int .i64 ((rd_T51 (rd_L2 t708 (rd l1 x20_7)) (rd x18_7 (rd l1 x20_7))).f1))) w.heap.size (fun k_ => k_ ≠ gb746) (.slice (some ad743) t708.length co118) t708) := ⟨by refine ks_ ?_; exact Kd.S_mono (Kd.S_far (p := ⟨gb746, 1, none⟩) (Kd.S_far (p := ⟨gb746, 0, none⟩) (Kd.S_mono HO_11.out (fun k_ hk => (⟨hk, hk.2⟩ : _ ∧ k_ ≠ gb746))) (fun _ hk => hk.2) (.int .i64 ((rd_T51 (rd_L2 t708 (rd l1 x20_7)) (rd x18_7 (rd l1 x20_7))).f0))) (fun _ hk => hk.2) (.int .i64 ((rd_T51 (rd_L2 t708 (rd l1 x20_7)) (rd x18_7 (rd l1 x20_7))).f1))) (fun _ hk => hk.1.2)⟩
                       have n1_ : Aside0 (Kd.R (Kd.int .i64) 3 ((w119.setCell ⟨gb746, 0, none⟩ (.int .i64 ((rd_T51 (rd_L2 t708 (rd l1 x20_7)) (rd x18_7 (rd l1 x20_7))).f0))).setCell ⟨gb746, 1, none⟩ (.int .i64 ((rd_T51 (rd_L2 t708 (rd l1 x20_7)) (rd x18_7 (rd l1 x20_7))).f1))) w.heap.size (fun _ => True) (.slice (some ad740) x18_7.length co116) x18_7) := ⟨by refine kr_ ?_; exact Kd.R_mono (Kd.R_far (p := ⟨gb746, 1, none⟩) (Kd.R_far (p := ⟨gb746, 0, none⟩) (Kd.R_types HO_18.out BK746.out (by decide)) (fun _ hk => hk.2) (.int .i64 ((rd_T51 (rd_L2 t708 (rd l1 x20_7)) (rd x18_7 (rd l1 x20_7))).f0))) (fun _ hk => hk.2) (.int .i64 ((rd_T51 (rd_L2 t708 (rd l1 x20_7)) (rd x18_7 (rd l1 x20_7))).f1))) (fun _ hk => trivial)⟩
                       have n2_ : Aside0 (Kd.R k51 51 ((w119.setCell ⟨gb746, 0, none⟩ (.int .i64 ((rd_T51 (rd_L2 t708 (rd l1 x20_7)) (rd x18_7 (rd l1 x20_7))).f0))).setCell ⟨gb746, 1, none⟩ (.int .i64 ((rd_T51 (rd_L2 t708 (rd l1 x20_7)) (rd x18_7 (rd l1 x20_7))).f1))) w.heap.size (fun k_ => some k_ ≠ (.slice (some ad743) t708.length co118 : Value).ownBlock ∧ k_ ≠ gb746) (.slice (some ad745) (rd_L2 t708 (rd l1 x20_7)).length c743_0) (rd_L2 t708 (rd l1 x20_7))) := ⟨by refine kr_ ?_; exact Kd.R_mono (Kd.R_far (p := ⟨gb746, 1, none⟩) (Kd.R_far (p := ⟨gb746, 0, none⟩) (Kd.R_mono HL743_0.out (fun k_ hk => (⟨hk, hk.2⟩ : _ ∧ k_ ≠ gb746))) (fun _ hk => hk.2) (.int .i64 ((rd_T51 (rd_L2 t708 (rd l1 x20_7)) (rd x18_7 (rd l1 x20_7))).f0))) (fun _ hk => hk.2) (.int .i64 ((rd_T51 (rd_L2 t708 (rd l1 x20_7)) (rd x18_7 (rd l1 x20_7))).f1))) (fun _ hk => ⟨hk.1.1.2, hk.1.2⟩)⟩
                       have n3_ : Aside0 (((w119.setCell ⟨gb746, 0, none⟩ (.int .i64 ((rd_T51 (rd_L2 t708 (rd l1 x20_7)) (rd x18_7 (rd l1 x20_7))).f0))).setCell ⟨gb746, 1, none⟩ (.int .i64 ((rd_T51 (rd_L2 t708 (rd l1 x20_7)) (rd x18_7 (rd l1 x20_7))).f1))).heap[gb701]? = some (.cells #[.int .i64 a2_0, .int .i64 a2_1] 26 (0, 0))) := ⟨by refine bk_ ?_; refine blk_far ?_ NB701_746.out _; refine bk_ ?_; refine blk_far ?_ NB701_746.out _; refine bk_ ?_; exact BK701.out⟩
                       have n4_ : Aside0 (((w119.setCell ⟨gb746, 0, none⟩ (.int .i64 ((rd_T51 (rd_L2 t708 (rd l1 x20_7)) (rd x18_7 (rd l1 x20_7))).f0))).setCell ⟨gb746, 1, none⟩ (.int .i64 ((rd_T51 (rd_L2 t708 (rd l1 x20_7)) (rd x18_7 (rd l1 x20_7))).f1))).heap[gb702]? = some (.cells #[.int .i64 a3_0, .int .i64 a3_1] 26 (0, 0))) := ⟨by refine bk_ ?_; refine blk_far ?_ NB702_746.out _; refine bk_ ?_; refine blk_far ?_ NB702_746.out _; refine bk_ ?_; exact BK702.out⟩
                       have n5_ : Aside0 (((w119.setCell ⟨gb746, 0, none⟩ (.int .i64 ((rd_T51 (rd_L2 t708 (rd l1 x20_7)) (rd x18_7 (rd l1 x20_7))).f0))).setCell ⟨gb746, 1, none⟩ (.int .i64 ((rd_T51 (rd_L2 t708 (rd l1 x20_7)) (rd x18_7 (rd l1 x20_7))).f1))).heap[gb746]? = some (.cells #[.int .i64 ((rd_T51 (rd_L2 t708 (rd l1 x20_7)) (rd x18_7 (rd l1 x20_7))).f0), .int .i64 ((rd_T51 (rd_L2 t708 (rd l1 x20_7)) (rd x18_7 (rd l1 x20_7))).f1)] 51 (0, 0))) := ⟨by refine bk_ ?_; refine blk_put (cs := #[.int .i64 ((rd_T51 (rd_L2 t708 (rd l1 x20_7)) (rd x18_7 (rd l1 x20_7))).f0), .int .i64 0]) ?_ 1 _ rfl; refine bk_ ?_; refine blk_put (cs := #[.int .i64 0, .int .i64 0]) ?_ 0 _ rfl; refine bk_ ?_; exact BK746.out⟩
                       have n6_ : Aside0 (Below w.heap.size w ((w119.setCell ⟨gb746, 0, none⟩ (.int .i64 ((rd_T51 (rd_L2 t708 (rd l1 x20_7)) (rd x18_7 (rd l1 x20_7))).f0))).setCell ⟨gb746, 1, none⟩ (.int .i64 ((rd_T51 (rd_L2 t708 (rd l1 x20_7)) (rd x18_7 (rd l1 x20_7))).f1)))) := ⟨bl_⟩
                       (try clear HO_11)
                       (try clear HO_18)
                       (try clear HL743_0)
                       (try clear BK701)
                       (try clear BK702)
                       (try clear BK746)
                       (try clear HB)
                       generalize ((w119.setCell ⟨gb746, 0, none⟩ (.int .i64 ((rd_T51 (rd_L2 t708 (rd l1 x20_7)) (rd x18_7 (rd l1 x20_7))).f0))).setCell ⟨gb746, 1, none⟩ (.int .i64 ((rd_T51 (rd_L2 t708 (rd l1 x20_7)) (rd x18_7 (rd l1 x20_7))).f1))) = w122 at n0_ n1_ n2_ n3_ n4_ n5_ n6_ ⊢
                       have HO_11 := n0_
                       have HO_18 := n1_
                       have HL743_0 := n2_
                       have BK701 := n3_
                       have BK702 := n4_
                       have BK746 := n5_
                       have HB := n6_
                       clear n0_ n1_ n2_ n3_ n4_ n5_ n6_
                       have hnb123 := NB746_701.out
                       have hnc123 := NB701_746.out
                       have hnb124 := NB746_702.out
                       have hnc124 := NB702_746.out
                       have hcz125_0 := bc_ BK746 0 (.int .i64 ((rd_T51 (rd_L2 t708 (rd l1 x20_7)) (rd x18_7 (rd l1 x20_7))).f0))
                       have hcz125_1 := bc_ BK746 1 (.int .i64 ((rd_T51 (rd_L2 t708 (rd l1 x20_7)) (rd x18_7 (rd l1 x20_7))).f1))
                       have hfz125_0 := bz_ BK746 0
                       have hfz125_1 := bz_ BK746 1
                       obtain ⟨ad747, e747, hx747_0, p747, q747⟩ := ai_ (Kd.R_reads' HO_18.out).2.2 (rd l1 x20_7)
                       obtain rfl : ad740 = ad747 := (by injection e747)
                       have p114 : 0 ≤ ((rd l1 x20_7) : Int) := od_
                       have q114 : ((rd l1 x20_7) : Int) < ((x18_7.length : Int) : Int) := od_
                       obtain ⟨go114, co114, eo114, gb114, gl114, cl114, HG114⟩ := Kd.R_form HO_18.out (by omega)
                       (first | cases eo114 | (injection eo114 with ea_ en_ ec_; (first | subst ea_ | (injection ea_ with ea_; subst ea_)); subst ec_; clear en_))
                       have GB114 := Aside0.mk gb114
                       have GG114 := Aside0.mk HG114
                       clear gb114 gl114 HG114
                       (first | simp only [add_plain] at hx740_0 | skip)
                       (first | simp only [add_plain] at hx744_0 | skip)
                       (first | simp only [add_plain] at hx747_0 | skip)
                       obtain ⟨hx114_0, hf114_0⟩ := Kd.R_celln 0 HO_18.out ((rd l1 x20_7) : Int) p114 q114
                       replace p114 := eq_true p114
                       replace q114 := eq_true q114
                       obtain ⟨hy126_, hz126_⟩ := Kd.R_celln 0 HO_18.out ((rd l1 x20_7) : Int) (od_) (od_)
                       have HP126 := Kd.R_putg HO_18.out ((rd l1 x20_7) : Int) (wrap64 ((rd x18_7 (rd l1 x20_7)) + 1))
                       try go_wp2_with (first | ((with_reducible refine gate_store (t := 3) (p := 247) rfl ?_); refine store_event (t := 3) (p := 247) (v := ?vo_w127) (w1 := (w122.setCell ⟨go114, ((rd l1 x20_7) : Int).toNat, none⟩ (.int .i64 (wrap64 ((rd x18_7 (rd l1 x20_7)) + 1))))) ?hg ?ho ?hn ?hr ?_; (case ho => rfl); (case hg => rfl); (case hn => rfl); (case hr => first | (go_simp; done) | (go_simp; rfl)); intro w127 hw; have hg : w122.grownBy w127 (some go114) := (by rw [hw]; exact HP126.2); have hp_ : Kd.R (Kd.int .i64) 3 w127 w.heap.size (fun _ => True) (.slice (some ⟨go114, 0, none⟩) x18_7.length co116) y748 := (by rw [hw, Ny748.out]; exact HP126.1); clear HP126; replace HO_11 := Aside0.mk (Kd.S_over' (v := (.slice (some ⟨go114, 0, none⟩) x18_7.length co116)) (ks_ HO_11.out) (Kd.R_typed HO_18.out) (by decide) hg); replace BK701 := Aside0.mk (blk_grown (g := gb701) (o := .cells #[.int .i64 a2_0, .int .i64 a2_1] 26 (0, 0)) (bk_ BK701.out) hg (Kd.R_ne HO_18.out BK701.out (by decide))); replace BK702 := Aside0.mk (blk_grown (g := gb702) (o := .cells #[.int .i64 a3_0, .int .i64 a3_1] 26 (0, 0)) (bk_ BK702.out) hg (Kd.R_ne HO_18.out BK702.out (by decide))); replace HL743_0 := Aside0.mk (Kd.R_over' (v := (.slice (some ⟨go114, 0, none⟩) x18_7.length co116)) (kr_ HL743_0.out) (Kd.R_typed HO_18.out) (by decide) hg); replace BK746 := Aside0.mk (blk_grown (g := gb746) (o := .cells #[.int .i64 ((rd_T51 (rd_L2 t708 (rd l1 x20_7)) (rd x18_7 (rd l1 x20_7))).f0), .int .i64 ((rd_T51 (rd_L2 t708 (rd l1 x20_7)) (rd x18_7 (rd l1 x20_7))).f1)] 51 (0, 0)) (bk_ BK746.out) hg (Kd.R_ne HO_18.out BK746.out (by decide))); replace HO_18 := Aside0.mk (hp_); replace HB := Aside0.mk ((by rw [hw]; exact below_set (HB.out) GB114.out : Below w.heap.size w w127)); clear hg hw hp_))
                       go_roundg k7
                       case measure => have := HJ5.out; have := HJ19.out; have := HK3.out; have := HJ35.out; have := HJ52.out; have := HJ87.out; have := HK7.out; omega
                       case rel => exact ⟨(y748), (decide (x20_7 ≤ ((rd_T51 (rd_L2 t708 (rd l1 x20_7)) (rd x18_7 (rd l1 x20_7))).f1))), (wrap64 (x20_7 + 1)), rs_, rs_, H', ⟨by have := HJ5.out; have := HJ19.out; have := HK3.out; have := HJ35.out; have := HJ52.out; have := HJ87.out; have := HK7.out; omega⟩, ⟨by refine ks_ ?_; exact Kd.S_mono HO_11.out (fun _ hk => trivial)⟩, ⟨kr_ HO_18.out⟩, ⟨bk_ BK701.out⟩, ⟨bk_ BK702.out⟩, ⟨bl_⟩⟩
                      ·as_aux_lemma =>
                       rw [if_neg c113] at H
                       have c113b0 : decide (((rd_T51 (rd_L2 t708 (rd l1 x20_7)) (rd x18_7 (rd l1 x20_7))).f0) ≤ x20_7) = false := decide_eq_false c113
                       clear c113
                       obtain ⟨y750, hy750⟩ : ∃ y_ : List Int, y_ = (x18_7.set ((rd l1 x20_7) : Int).toNat (wrap64 ((rd x18_7 (rd l1 x20_7)) + 1))) := ⟨_, rfl⟩
                       replace H : (trishawlaw01_TurnInside.l3 k7 l0 l1 t703 t708 y750 false (wrap64 (x20_7 + 1)) a2_0 a2_1) = some r := by first | (rw [hy750]; with_reducible exact H) | (have H2_ := (Option.bind_some _ _).symm.trans H; rw [hy750]; with_reducible exact H2_) | (have H2_ := (Option.bind_some _ _).symm.trans H; with_reducible exact H2_) | with_reducible exact H | (rw [hy750]; exact H) | exact H
                       have Ny750 := Aside0.mk hy750
                       clear hy750
                       have H' := Aside0.mk H
                       clear H
                       obtain ⟨ad739, e739, hx739_0, p739, q739⟩ := ai_ HR1.out x20_7
                       cases e739
                       replace hx739_0 := hc_ HB hx739_0
                       try go_wp2
                       replace HO_11 := Aside0.mk (Kd.S_drew HO_11.out)
                       replace HO_18 := Aside0.mk (Kd.R_drew HO_18.out)
                       replace BK701 := Aside0.mk (blk_drew BK701.out)
                       replace BK702 := Aside0.mk (blk_drew BK702.out)
                       replace HB := Aside0.mk (below_drew1 HB.out)
                       obtain ⟨Ao130, co130, eo130⟩ := Kd.R_slice HO_18.out
                       (first | subst eo130 | (injection eo130 with f1_ f2_ f3_; have f4_ := f1_.symm; have f5_ := f3_.symm; clear f1_ f2_ f3_; subst f4_; subst f5_))
                       obtain ⟨ad740, e740, hx740_0, p740, q740⟩ := ai_ (Kd.R_reads' HO_18.out).2.2 (rd l1 x20_7)
                       cases e740
                       have p741 : 0 ≤ ((rd l1 x20_7) : Int) := od_
                       have q741 : (rd l1 x20_7) < (l0.length : Int) := od_
                       obtain ⟨ad741, e741, hx741_0⟩ := Kd.at_int HR0.out (rd l1 x20_7) p741 q741
                       have hw741_0 := hx741_0
                       cases e741
                       replace hx741_0 := hc_ HB hx741_0
                       replace p741 := eq_true p741
                       replace q741 := eq_true q741
                       refine start_ (n := 9) (S := fun w' => w'.cell? (ad740.add ((rd l1 x20_7)).toNat) = some (.int .i64 (rd x18_7 (rd l1 x20_7))) ∧ w'.cell? (ad741.add ((rd l1 x20_7)).toNat) = some (.int .i64 (rd l0 (rd l1 x20_7)))) (ds := []) #[false, false, false, false, false, false, false, false, false] (by kernel_rfl) rfl rfl ⟨hx740_0, (hc_ HB hw741_0)⟩ (fun hHeld => ?_); refine with_tabW trishawlaw01_TurnInside.tab30 trishawlaw01_TurnInside.bits30 (fun HT_ HW_ => ?_)
                       generalize wr.drew = w129 at HO_11 HO_18 BK701 BK702 HB hx740_0 hx741_0 hHeld ⊢
                       refine pu_ 0 209 HT_.out (h := ?_)
                       refine pu_ 1 210 HT_.out (h := ?_)
                       refine pu_ 2 211 HT_.out (h := ?_)
                       refine pu_ 4 213 HT_.out (h := ?_)
                       refine pu_ 5 214 HT_.out (h := ?_)
                       refine pu_ 6 215 HT_.out (h := ?_)
                       refine ta_ 3 212 HT_.out HW_.out hHeld (h := ?_)
                       refine ta_ 7 216 HT_.out HW_.out hHeld (h := ?_)
                       refine pu_ 8 217 HT_.out (h := ?_)
                       refine done_ (done_of HT_.out (by kernel_rfl)) ?_
                       try go_wp2
                       replace HO_11 := Aside0.mk (Kd.S_drew HO_11.out)
                       replace HO_18 := Aside0.mk (Kd.R_drew HO_18.out)
                       replace BK701 := Aside0.mk (blk_drew BK701.out)
                       replace BK702 := Aside0.mk (blk_drew BK702.out)
                       replace HB := Aside0.mk (below_drew1 HB.out)
                       obtain ⟨Ao132, co132, eo132⟩ := Kd.S_slice HO_11.out
                       (first | subst eo132 | (injection eo132 with f1_ f2_ f3_; have f4_ := f1_.symm; have f5_ := f3_.symm; clear f1_ f2_ f3_; subst f4_; subst f5_))
                       have p743 : 0 ≤ ((rd l1 x20_7) : Int) := od_
                       have q743 : (rd l1 x20_7) < (t708.length : Int) := od_
                       obtain ⟨ad743, A743_0, c743_0, e743, hx743_0, hl743_0, hi743_0⟩ := at_L2 (Kd.S_reads' HO_11.out).2.2 (rd l1 x20_7) p743 q743
                       cases e743
                       obtain ⟨ce743, hce743, hMe743, hcc743⟩ := Kd.S_get HO_11.out [] (rd l1 x20_7) p743 (by first | exact q743 | exact od_ | (have e_ := (Kd.S_reads' HO_11.out).1; omega))
                       obtain ⟨ve743_0, rfl, ge743_0⟩ := hMe743
                       have hv743_0 := hcc743 0 _ rfl
                       rw [Nat.add_zero, show ((Kd.slice 51 k51)).sz = 1 from rfl, Nat.mul_one] at hv743_0
                       replace hv743_0 := Option.some.inj (hv743_0.symm.trans hx743_0)
                       rw [hv743_0] at ge743_0
                       have HL743_0 := Aside0.mk (show Kd.R k51 51 _ _ _ _ (rd_L2 t708 (rd l1 x20_7)) from ge743_0)
                       clear hv743_0 ge743_0
                       clear hcc743 hce743
                       have HR743_0 := Aside0.mk hi743_0
                       have HC743_0 := Aside0.mk hl743_0
                       clear hi743_0 hl743_0
                       replace p743 := eq_true p743
                       replace q743 := eq_true q743
                       obtain ⟨ad744, e744, hx744_0, p744, q744⟩ := ai_ (Kd.R_reads' HO_18.out).2.2 (rd l1 x20_7)
                       obtain rfl : ad740 = ad744 := (by injection e744)
                       have p745 : 0 ≤ ((rd x18_7 (rd l1 x20_7)) : Int) := od_
                       have q745 : (rd x18_7 (rd l1 x20_7)) < ((rd_L2 t708 (rd l1 x20_7)).length : Int) := od_
                       obtain ⟨ad745, e745, hx745_0, hx745_1⟩ := at_T51 (by repeat (first | (with_reducible exact HR743_0.out) | (with_reducible refine Kd.C_alloc ?_ _) | (with_reducible refine Kd.C_drewN ?_ _) | (with_reducible refine Kd.C_drew ?_) | exact HR743_0.out)) (rd x18_7 (rd l1 x20_7)) p745 q745
                       cases e745
                       replace p745 := eq_true p745
                       replace q745 := eq_true q745
                       refine start_ (n := 12) (S := fun w' => w'.cell? (ad743.add ((rd l1 x20_7)).toNat) = some (.slice (some ad745) (rd_L2 t708 (rd l1 x20_7)).length c743_0) ∧ w'.cell? (ad740.add ((rd l1 x20_7)).toNat) = some (.int .i64 (rd x18_7 (rd l1 x20_7))) ∧ w'.cell? (ad745.add (((rd x18_7 (rd l1 x20_7))).toNat * 2)) = some (.int .i64 ((rd_T51 (rd_L2 t708 (rd l1 x20_7)) (rd x18_7 (rd l1 x20_7))).f0)) ∧ w'.cell? ⟨(ad745.add (((rd x18_7 (rd l1 x20_7))).toNat * 2)).block, (ad745.add (((rd x18_7 (rd l1 x20_7))).toNat * 2)).off + 1, none⟩ = some (.int .i64 ((rd_T51 (rd_L2 t708 (rd l1 x20_7)) (rd x18_7 (rd l1 x20_7))).f1))) (ds := []) #[false, false, false, false, false, false, false, false, false, false, false, false] (by kernel_rfl) rfl rfl ⟨hx743_0, hx744_0, hx745_0, hx745_1⟩ (fun hHeld => ?_); refine with_tabW trishawlaw01_TurnInside.tab32 trishawlaw01_TurnInside.bits32 (fun HT_ HW_ => ?_)
                       generalize w129.drew = w131 at HO_11 HO_18 BK701 BK702 HB HL743_0 HR743_0 hx743_0 hx744_0 hx745_0 hx745_1 hHeld ⊢
                       refine pu_ 0 219 HT_.out (h := ?_)
                       refine pu_ 1 220 HT_.out (h := ?_)
                       refine pu_ 2 221 HT_.out (h := ?_)
                       refine pu_ 4 223 HT_.out (h := ?_)
                       refine pu_ 5 224 HT_.out (h := ?_)
                       refine pu_ 6 225 HT_.out (h := ?_)
                       refine ta_ 3 222 HT_.out HW_.out hHeld (h := ?_)
                       refine ta_ 7 226 HT_.out HW_.out hHeld (h := ?_)
                       refine pu_ 8 227 HT_.out (h := ?_)
                       refine ta_ 9 228 HT_.out HW_.out hHeld (h := ?_)
                       refine one_ (i := 10) (N := some 22) #[true, true, true, true, true, true, true, true, true, true, true, false] rfl rfl (one_of HT_.out (by kernel_rfl)) (by decide) (fun K hK => ?_)
                       refine box_step ?hg (N := 22) ?hd (cs := #[.int .i64 0, .int .i64 0]) (t := 51) ?hr ?_; (case hd => rfl); (case hg => rfl); (case hr => first | (go_simp; done) | (go_simp; rfl))
                       intro gb746 hg w133 hbox hb
                       have HS0_ := (hb.cell (World.block_lt_of_cell? _ _ (hHeld.1))).trans (hHeld.1)
                       have HS1_ := (hb.cell (World.block_lt_of_cell? _ _ (hHeld.2.1))).trans (hHeld.2.1)
                       have HS2_ := (hb.cell (World.block_lt_of_cell? _ _ (hHeld.2.2.1))).trans (hHeld.2.2.1)
                       have HS3_ := (hb.cell (World.block_lt_of_cell? _ _ (hHeld.2.2.2))).trans (hHeld.2.2.2)
                       replace HO_11 := Aside0.mk (Kd.S_below (Kd.S_elderB (ks_ HO_11.out) gb746 (Nat.le_of_eq hg.symm)) hb)
                       replace HO_18 := rb_ HO_18 hb
                       replace HL743_0 := Aside0.mk (Kd.R_below (Kd.R_elderB (kr_ HL743_0.out) gb746 (Nat.le_of_eq hg.symm)) hb)
                       replace HR743_0 := Aside0.mk (Kd.C_below (by repeat (first | (with_reducible exact HR743_0.out) | (with_reducible refine Kd.C_alloc ?_ _) | (with_reducible refine Kd.C_drewN ?_ _) | (with_reducible refine Kd.C_drew ?_) | exact HR743_0.out)) hb)
                       have BK746 := Aside0.mk (hbox)
                       have GW746 := gw_ hg
                       have GE746 := gw_ hg
                       replace HB := hb_ hb
                       have NB701_746 := nl_ hg BK701
                       have NB746_701 := sy_ NB701_746
                       replace BK701 := bb_ BK701 hb
                       have NB702_746 := nl_ hg BK702
                       have NB746_702 := sy_ NB702_746
                       replace BK702 := bb_ BK702 hb
                       clear hb hbox hg
                       refine hK.out _ _ ⟨HS0_, HS1_, HS2_, HS3_⟩ (fun hHeld => ?_)
                       clear hK K
                       refine np_ 22 (h := ?_)
                       refine one_ (i := 11) (N := none) #[true, true, true, true, true, true, true, true, true, true, true, true] rfl rfl (one_of HT_.out (by kernel_rfl)) (by decide) (fun K hK => ?_)
                       have hs134 : w133.cell? ⟨gb746, 0, none⟩ = some (.int .i64 0) := (blk_cell BK746.out 0).trans rfl
                       have hfs134 := bz_ BK746 0
                       have hns134_0 := NB701_746.out
                       have hns134_1 := NB702_746.out
                       have hms134_0 := NB746_701.out
                       have hms134_1 := NB746_702.out
                       have hs135 : w133.cell? ⟨gb746, 1, none⟩ = some (.int .i64 0) := (blk_cell BK746.out 1).trans rfl
                       have hfs135 := bz_ BK746 1
                       have hns135_0 := NB701_746.out
                       have hns135_1 := NB702_746.out
                       have hms135_0 := NB746_701.out
                       have hms135_1 := NB746_702.out
                       refine skip_ (w1 := ?_) (by rfl) rfl ?_ ?_
                       rotate_left
                       ·go_simp
                        rfl
                       refine hK.out _ _ ⟨((cell_far (p := ⟨gb746, _, none⟩) (by first | exact Kd.own_blk (Kd.S_away HO_11.out (fun _ hk => hk.2)) | (rw [add_block]; exact Kd.own_blk (Kd.S_away HO_11.out (fun _ hk => hk.2))) | (show (Addr.add _ _).block ≠ _; rw [add_block]; exact Kd.own_blk (Kd.S_away HO_11.out (fun _ hk => hk.2))) | (dsimp only; exact Kd.own_blk (Kd.S_away HO_11.out (fun _ hk => hk.2)))) _).trans (((cell_far (p := ⟨gb746, _, none⟩) (by first | exact Kd.own_blk (Kd.S_away HO_11.out (fun _ hk => hk.2)) | (rw [add_block]; exact Kd.own_blk (Kd.S_away HO_11.out (fun _ hk => hk.2))) | (show (Addr.add _ _).block ≠ _; rw [add_block]; exact Kd.own_blk (Kd.S_away HO_11.out (fun _ hk => hk.2))) | (dsimp only; exact Kd.own_blk (Kd.S_away HO_11.out (fun _ hk => hk.2)))) _).trans (hHeld.1)))), ((cell_far (p := ⟨gb746, _, none⟩) (by first | exact Kd.own_blk (Kd.R_ne HO_18.out BK746.out (by decide)) | (rw [add_block]; exact Kd.own_blk (Kd.R_ne HO_18.out BK746.out (by decide))) | (show (Addr.add _ _).block ≠ _; rw [add_block]; exact Kd.own_blk (Kd.R_ne HO_18.out BK746.out (by decide))) | (dsimp only; exact Kd.own_blk (Kd.R_ne HO_18.out BK746.out (by decide)))) _).trans (((cell_far (p := ⟨gb746, _, none⟩) (by first | exact Kd.own_blk (Kd.R_ne HO_18.out BK746.out (by decide)) | (rw [add_block]; exact Kd.own_blk (Kd.R_ne HO_18.out BK746.out (by decide))) | (show (Addr.add _ _).block ≠ _; rw [add_block]; exact Kd.own_blk (Kd.R_ne HO_18.out BK746.out (by decide))) | (dsimp only; exact Kd.own_blk (Kd.R_ne HO_18.out BK746.out (by decide)))) _).trans (hHeld.2.1)))), ((cell_far (p := ⟨gb746, _, none⟩) (by first | exact Kd.own_blk (Kd.R_away HL743_0.out (fun _ hk => hk.2)) | (rw [add_block]; exact Kd.own_blk (Kd.R_away HL743_0.out (fun _ hk => hk.2))) | (show (Addr.add _ _).block ≠ _; rw [add_block]; exact Kd.own_blk (Kd.R_away HL743_0.out (fun _ hk => hk.2))) | (dsimp only; exact Kd.own_blk (Kd.R_away HL743_0.out (fun _ hk => hk.2)))) _).trans (((cell_far (p := ⟨gb746, _, none⟩) (by first | exact Kd.own_blk (Kd.R_away HL743_0.out (fun _ hk => hk.2)) | (rw [add_block]; exact Kd.own_blk (Kd.R_away HL743_0.out (fun _ hk => hk.2))) | (show (Addr.add _ _).block ≠ _; rw [add_block]; exact Kd.own_blk (Kd.R_away HL743_0.out (fun _ hk => hk.2))) | (dsimp only; exact Kd.own_blk (Kd.R_away HL743_0.out (fun _ hk => hk.2)))) _).trans (hHeld.2.2.1)))), ((cell_far (p := ⟨gb746, _, none⟩) (by first | exact Kd.own_blk (Kd.R_away HL743_0.out (fun _ hk => hk.2)) | (rw [add_block]; exact Kd.own_blk (Kd.R_away HL743_0.out (fun _ hk => hk.2))) | (show (Addr.add _ _).block ≠ _; rw [add_block]; exact Kd.own_blk (Kd.R_away HL743_0.out (fun _ hk => hk.2))) | (dsimp only; exact Kd.own_blk (Kd.R_away HL743_0.out (fun _ hk => hk.2)))) _).trans (((cell_far (p := ⟨gb746, _, none⟩) (by first | exact Kd.own_blk (Kd.R_away HL743_0.out (fun _ hk => hk.2)) | (rw [add_block]; exact Kd.own_blk (Kd.R_away HL743_0.out (fun _ hk => hk.2))) | (show (Addr.add _ _).block ≠ _; rw [add_block]; exact Kd.own_blk (Kd.R_away HL743_0.out (fun _ hk => hk.2))) | (dsimp only; exact Kd.own_blk (Kd.R_away HL743_0.out (fun _ hk => hk.2)))) _).trans (hHeld.2.2.2))))⟩ (fun hHeld => ?_)
                       clear hK K
                       refine done_ (done_of HT_.out (by kernel_rfl)) ?_
                       have n0_ : Aside0 (Kd.S (Kd.slice 51 k51) 49 ((w133.setCell ⟨gb746, 0, none⟩ (.int .i64 ((rd_T51 (rd_L2 t708 (rd l1 x20_7)) (rd x18_7 (rd l1 x20_7))).f0))).setCell ⟨gb746, 1, none⟩ (.int .i64 ((rd_T51 (rd_L2 t708 (rd l1 x20_7)) (rd x18_7 (rd l1 x20_7))).f1))) w.heap.size (fun k_ => k_ ≠ gb746) (.slice (some ad743) t708.length co132) t708) := ⟨by refine ks_ ?_; exact Kd.S_mono (Kd.S_far (p := ⟨gb746, 1, none⟩) (Kd.S_far (p := ⟨gb746, 0, none⟩) (Kd.S_mono HO_11.out (fun k_ hk => (⟨hk, hk.2⟩ : _ ∧ k_ ≠ gb746))) (fun _ hk => hk.2) (.int .i64 ((rd_T51 (rd_L2 t708 (rd l1 x20_7)) (rd x18_7 (rd l1 x20_7))).f0))) (fun _ hk => hk.2) (.int .i64 ((rd_T51 (rd_L2 t708 (rd l1 x20_7)) (rd x18_7 (rd l1 x20_7))).f1))) (fun _ hk => hk.1.2)⟩
                       have n1_ : Aside0 (Kd.R (Kd.int .i64) 3 ((w133.setCell ⟨gb746, 0, none⟩ (.int .i64 ((rd_T51 (rd_L2 t708 (rd l1 x20_7)) (rd x18_7 (rd l1 x20_7))).f0))).setCell ⟨gb746, 1, none⟩ (.int .i64 ((rd_T51 (rd_L2 t708 (rd l1 x20_7)) (rd x18_7 (rd l1 x20_7))).f1))) w.heap.size (fun _ => True) (.slice (some ad740) x18_7.length co130) x18_7) := ⟨by refine kr_ ?_; exact Kd.R_mono (Kd.R_far (p := ⟨gb746, 1, none⟩) (Kd.R_far (p := ⟨gb746, 0, none⟩) (Kd.R_types HO_18.out BK746.out (by decide)) (fun _ hk => hk.2) (.int .i64 ((rd_T51 (rd_L2 t708 (rd l1 x20_7)) (rd x18_7 (rd l1 x20_7))).f0))) (fun _ hk => hk.2) (.int .i64 ((rd_T51 (rd_L2 t708 (rd l1 x20_7)) (rd x18_7 (rd l1 x20_7))).f1))) (fun _ hk => trivial)⟩
                       have n2_ : Aside0 (Kd.R k51 51 ((w133.setCell ⟨gb746, 0, none⟩ (.int .i64 ((rd_T51 (rd_L2 t708 (rd l1 x20_7)) (rd x18_7 (rd l1 x20_7))).f0))).setCell ⟨gb746, 1, none⟩ (.int .i64 ((rd_T51 (rd_L2 t708 (rd l1 x20_7)) (rd x18_7 (rd l1 x20_7))).f1))) w.heap.size (fun k_ => some k_ ≠ (.slice (some ad743) t708.length co132 : Value).ownBlock ∧ k_ ≠ gb746) (.slice (some ad745) (rd_L2 t708 (rd l1 x20_7)).length c743_0) (rd_L2 t708 (rd l1 x20_7))) := ⟨by refine kr_ ?_; exact Kd.R_mono (Kd.R_far (p := ⟨gb746, 1, none⟩) (Kd.R_far (p := ⟨gb746, 0, none⟩) (Kd.R_mono HL743_0.out (fun k_ hk => (⟨hk, hk.2⟩ : _ ∧ k_ ≠ gb746))) (fun _ hk => hk.2) (.int .i64 ((rd_T51 (rd_L2 t708 (rd l1 x20_7)) (rd x18_7 (rd l1 x20_7))).f0))) (fun _ hk => hk.2) (.int .i64 ((rd_T51 (rd_L2 t708 (rd l1 x20_7)) (rd x18_7 (rd l1 x20_7))).f1))) (fun _ hk => ⟨hk.1.1.2, hk.1.2⟩)⟩
                       have n3_ : Aside0 (((w133.setCell ⟨gb746, 0, none⟩ (.int .i64 ((rd_T51 (rd_L2 t708 (rd l1 x20_7)) (rd x18_7 (rd l1 x20_7))).f0))).setCell ⟨gb746, 1, none⟩ (.int .i64 ((rd_T51 (rd_L2 t708 (rd l1 x20_7)) (rd x18_7 (rd l1 x20_7))).f1))).heap[gb701]? = some (.cells #[.int .i64 a2_0, .int .i64 a2_1] 26 (0, 0))) := ⟨by refine bk_ ?_; refine blk_far ?_ NB701_746.out _; refine bk_ ?_; refine blk_far ?_ NB701_746.out _; refine bk_ ?_; exact BK701.out⟩
                       have n4_ : Aside0 (((w133.setCell ⟨gb746, 0, none⟩ (.int .i64 ((rd_T51 (rd_L2 t708 (rd l1 x20_7)) (rd x18_7 (rd l1 x20_7))).f0))).setCell ⟨gb746, 1, none⟩ (.int .i64 ((rd_T51 (rd_L2 t708 (rd l1 x20_7)) (rd x18_7 (rd l1 x20_7))).f1))).heap[gb702]? = some (.cells #[.int .i64 a3_0, .int .i64 a3_1] 26 (0, 0))) := ⟨by refine bk_ ?_; refine blk_far ?_ NB702_746.out _; refine bk_ ?_; refine blk_far ?_ NB702_746.out _; refine bk_ ?_; exact BK702.out⟩
                       have n5_ : Aside0 (((w133.setCell ⟨gb746, 0, none⟩ (.int .i64 ((rd_T51 (rd_L2 t708 (rd l1 x20_7)) (rd x18_7 (rd l1 x20_7))).f0))).setCell ⟨gb746, 1, none⟩ (.int .i64 ((rd_T51 (rd_L2 t708 (rd l1 x20_7)) (rd x18_7 (rd l1 x20_7))).f1))).heap[gb746]? = some (.cells #[.int .i64 ((rd_T51 (rd_L2 t708 (rd l1 x20_7)) (rd x18_7 (rd l1 x20_7))).f0), .int .i64 ((rd_T51 (rd_L2 t708 (rd l1 x20_7)) (rd x18_7 (rd l1 x20_7))).f1)] 51 (0, 0))) := ⟨by refine bk_ ?_; refine blk_put (cs := #[.int .i64 ((rd_T51 (rd_L2 t708 (rd l1 x20_7)) (rd x18_7 (rd l1 x20_7))).f0), .int .i64 0]) ?_ 1 _ rfl; refine bk_ ?_; refine blk_put (cs := #[.int .i64 0, .int .i64 0]) ?_ 0 _ rfl; refine bk_ ?_; exact BK746.out⟩
                       have n6_ : Aside0 (Below w.heap.size w ((w133.setCell ⟨gb746, 0, none⟩ (.int .i64 ((rd_T51 (rd_L2 t708 (rd l1 x20_7)) (rd x18_7 (rd l1 x20_7))).f0))).setCell ⟨gb746, 1, none⟩ (.int .i64 ((rd_T51 (rd_L2 t708 (rd l1 x20_7)) (rd x18_7 (rd l1 x20_7))).f1)))) := ⟨bl_⟩
                       (try clear HO_11)
                       (try clear HO_18)
                       (try clear HL743_0)
                       (try clear BK701)
                       (try clear BK702)
                       (try clear BK746)
                       (try clear HB)
                       generalize ((w133.setCell ⟨gb746, 0, none⟩ (.int .i64 ((rd_T51 (rd_L2 t708 (rd l1 x20_7)) (rd x18_7 (rd l1 x20_7))).f0))).setCell ⟨gb746, 1, none⟩ (.int .i64 ((rd_T51 (rd_L2 t708 (rd l1 x20_7)) (rd x18_7 (rd l1 x20_7))).f1))) = w136 at n0_ n1_ n2_ n3_ n4_ n5_ n6_ ⊢
                       have HO_11 := n0_
                       have HO_18 := n1_
                       have HL743_0 := n2_
                       have BK701 := n3_
                       have BK702 := n4_
                       have BK746 := n5_
                       have HB := n6_
                       clear n0_ n1_ n2_ n3_ n4_ n5_ n6_
                       have hnb137 := NB746_701.out
                       have hnc137 := NB701_746.out
                       have hnb138 := NB746_702.out
                       have hnc138 := NB702_746.out
                       have hcz139_0 := bc_ BK746 0 (.int .i64 ((rd_T51 (rd_L2 t708 (rd l1 x20_7)) (rd x18_7 (rd l1 x20_7))).f0))
                       have hcz139_1 := bc_ BK746 1 (.int .i64 ((rd_T51 (rd_L2 t708 (rd l1 x20_7)) (rd x18_7 (rd l1 x20_7))).f1))
                       have hfz139_0 := bz_ BK746 0
                       have hfz139_1 := bz_ BK746 1
                       obtain ⟨ad749, e749, hx749_0, p749, q749⟩ := ai_ (Kd.R_reads' HO_18.out).2.2 (rd l1 x20_7)
                       obtain rfl : ad740 = ad749 := (by injection e749)
                       have p128 : 0 ≤ ((rd l1 x20_7) : Int) := od_
                       have q128 : ((rd l1 x20_7) : Int) < ((x18_7.length : Int) : Int) := od_
                       obtain ⟨go128, co128, eo128, gb128, gl128, cl128, HG128⟩ := Kd.R_form HO_18.out (by omega)
                       (first | cases eo128 | (injection eo128 with ea_ en_ ec_; (first | subst ea_ | (injection ea_ with ea_; subst ea_)); subst ec_; clear en_))
                       have GB128 := Aside0.mk gb128
                       have GG128 := Aside0.mk HG128
                       clear gb128 gl128 HG128
                       (first | simp only [add_plain] at hx740_0 | skip)
                       (first | simp only [add_plain] at hx744_0 | skip)
                       (first | simp only [add_plain] at hx749_0 | skip)
                       obtain ⟨hx128_0, hf128_0⟩ := Kd.R_celln 0 HO_18.out ((rd l1 x20_7) : Int) p128 q128
                       replace p128 := eq_true p128
                       replace q128 := eq_true q128
                       obtain ⟨hy140_, hz140_⟩ := Kd.R_celln 0 HO_18.out ((rd l1 x20_7) : Int) (od_) (od_)
                       have HP140 := Kd.R_putg HO_18.out ((rd l1 x20_7) : Int) (wrap64 ((rd x18_7 (rd l1 x20_7)) + 1))
                       try go_wp2_with (first | ((with_reducible refine gate_store (t := 3) (p := 247) rfl ?_); refine store_event (t := 3) (p := 247) (v := ?vo_w141) (w1 := (w136.setCell ⟨go128, ((rd l1 x20_7) : Int).toNat, none⟩ (.int .i64 (wrap64 ((rd x18_7 (rd l1 x20_7)) + 1))))) ?hg ?ho ?hn ?hr ?_; (case ho => rfl); (case hg => rfl); (case hn => rfl); (case hr => first | (go_simp; done) | (go_simp; rfl)); intro w141 hw; have hg : w136.grownBy w141 (some go128) := (by rw [hw]; exact HP140.2); have hp_ : Kd.R (Kd.int .i64) 3 w141 w.heap.size (fun _ => True) (.slice (some ⟨go128, 0, none⟩) x18_7.length co130) y750 := (by rw [hw, Ny750.out]; exact HP140.1); clear HP140; replace HO_11 := Aside0.mk (Kd.S_over' (v := (.slice (some ⟨go128, 0, none⟩) x18_7.length co130)) (ks_ HO_11.out) (Kd.R_typed HO_18.out) (by decide) hg); replace BK701 := Aside0.mk (blk_grown (g := gb701) (o := .cells #[.int .i64 a2_0, .int .i64 a2_1] 26 (0, 0)) (bk_ BK701.out) hg (Kd.R_ne HO_18.out BK701.out (by decide))); replace BK702 := Aside0.mk (blk_grown (g := gb702) (o := .cells #[.int .i64 a3_0, .int .i64 a3_1] 26 (0, 0)) (bk_ BK702.out) hg (Kd.R_ne HO_18.out BK702.out (by decide))); replace HL743_0 := Aside0.mk (Kd.R_over' (v := (.slice (some ⟨go128, 0, none⟩) x18_7.length co130)) (kr_ HL743_0.out) (Kd.R_typed HO_18.out) (by decide) hg); replace BK746 := Aside0.mk (blk_grown (g := gb746) (o := .cells #[.int .i64 ((rd_T51 (rd_L2 t708 (rd l1 x20_7)) (rd x18_7 (rd l1 x20_7))).f0), .int .i64 ((rd_T51 (rd_L2 t708 (rd l1 x20_7)) (rd x18_7 (rd l1 x20_7))).f1)] 51 (0, 0)) (bk_ BK746.out) hg (Kd.R_ne HO_18.out BK746.out (by decide))); replace HO_18 := Aside0.mk (hp_); replace HB := Aside0.mk ((by rw [hw]; exact below_set (HB.out) GB128.out : Below w.heap.size w w141)); clear hg hw hp_))
                       go_roundg k7
                       case measure => have := HJ5.out; have := HJ19.out; have := HK3.out; have := HJ35.out; have := HJ52.out; have := HJ87.out; have := HK7.out; omega
                       case rel => exact ⟨(y750), (false), (wrap64 (x20_7 + 1)), rs_, rs_, H', ⟨by have := HJ5.out; have := HJ19.out; have := HK3.out; have := HJ35.out; have := HJ52.out; have := HJ87.out; have := HK7.out; omega⟩, ⟨by refine ks_ ?_; exact Kd.S_mono HO_11.out (fun _ hk => trivial)⟩, ⟨kr_ HO_18.out⟩, ⟨bk_ BK701.out⟩, ⟨bk_ BK702.out⟩, ⟨bl_⟩⟩
                     ·as_aux_lemma =>
                      replace c112 := Bool.eq_false_iff.mpr c112
                      subst c112
                      have H1 : (trishawlaw01_TurnInside.l3 k7 l0 l1 t703 t708 (x18_7.set ((rd l1 x20_7) : Int).toNat (wrap64 ((rd x18_7 (rd l1 x20_7)) + 1))) false (wrap64 (x20_7 + 1)) a2_0 a2_1) = some r := by rw [if_neg (show ¬ (false = true) by decide)] at H; exact H
                      clear H
                      have H := H1
                      clear H1
                      obtain ⟨y752, hy752⟩ : ∃ y_ : List Int, y_ = (x18_7.set ((rd l1 x20_7) : Int).toNat (wrap64 ((rd x18_7 (rd l1 x20_7)) + 1))) := ⟨_, rfl⟩
                      replace H : (trishawlaw01_TurnInside.l3 k7 l0 l1 t703 t708 y752 false (wrap64 (x20_7 + 1)) a2_0 a2_1) = some r := by first | (rw [hy752]; with_reducible exact H) | (have H2_ := (Option.bind_some _ _).symm.trans H; rw [hy752]; with_reducible exact H2_) | (have H2_ := (Option.bind_some _ _).symm.trans H; with_reducible exact H2_) | with_reducible exact H | (rw [hy752]; exact H) | exact H
                      have Ny752 := Aside0.mk hy752
                      clear hy752
                      have H' := Aside0.mk H
                      clear H
                      obtain ⟨ad739, e739, hx739_0, p739, q739⟩ := ai_ HR1.out x20_7
                      cases e739
                      replace hx739_0 := hc_ HB hx739_0
                      try go_wp2
                      replace HO_11 := Aside0.mk (Kd.S_drew HO_11.out)
                      replace HO_18 := Aside0.mk (Kd.R_drew HO_18.out)
                      replace BK701 := Aside0.mk (blk_drew BK701.out)
                      replace BK702 := Aside0.mk (blk_drew BK702.out)
                      replace HB := Aside0.mk (below_drew1 HB.out)
                      obtain ⟨Ao144, co144, eo144⟩ := Kd.R_slice HO_18.out
                      (first | subst eo144 | (injection eo144 with f1_ f2_ f3_; have f4_ := f1_.symm; have f5_ := f3_.symm; clear f1_ f2_ f3_; subst f4_; subst f5_))
                      obtain ⟨ad740, e740, hx740_0, p740, q740⟩ := ai_ (Kd.R_reads' HO_18.out).2.2 (rd l1 x20_7)
                      cases e740
                      have p741 : 0 ≤ ((rd l1 x20_7) : Int) := od_
                      have q741 : (rd l1 x20_7) < (l0.length : Int) := od_
                      obtain ⟨ad741, e741, hx741_0⟩ := Kd.at_int HR0.out (rd l1 x20_7) p741 q741
                      have hw741_0 := hx741_0
                      cases e741
                      replace hx741_0 := hc_ HB hx741_0
                      replace p741 := eq_true p741
                      replace q741 := eq_true q741
                      refine start_ (n := 9) (S := fun w' => w'.cell? (ad740.add ((rd l1 x20_7)).toNat) = some (.int .i64 (rd x18_7 (rd l1 x20_7))) ∧ w'.cell? (ad741.add ((rd l1 x20_7)).toNat) = some (.int .i64 (rd l0 (rd l1 x20_7)))) (ds := []) #[false, false, false, false, false, false, false, false, false] (by kernel_rfl) rfl rfl ⟨hx740_0, (hc_ HB hw741_0)⟩ (fun hHeld => ?_); refine with_tabW trishawlaw01_TurnInside.tab30 trishawlaw01_TurnInside.bits30 (fun HT_ HW_ => ?_)
                      generalize wr.drew = w143 at HO_11 HO_18 BK701 BK702 HB hx740_0 hx741_0 hHeld ⊢
                      refine pu_ 0 209 HT_.out (h := ?_)
                      refine pu_ 1 210 HT_.out (h := ?_)
                      refine pu_ 2 211 HT_.out (h := ?_)
                      refine pu_ 4 213 HT_.out (h := ?_)
                      refine pu_ 5 214 HT_.out (h := ?_)
                      refine pu_ 6 215 HT_.out (h := ?_)
                      refine ta_ 3 212 HT_.out HW_.out hHeld (h := ?_)
                      refine ta_ 7 216 HT_.out HW_.out hHeld (h := ?_)
                      refine pu_ 8 217 HT_.out (h := ?_)
                      refine done_ (done_of HT_.out (by kernel_rfl)) ?_
                      try go_wp2
                      replace HO_11 := Aside0.mk (Kd.S_drew HO_11.out)
                      replace HO_18 := Aside0.mk (Kd.R_drew HO_18.out)
                      replace BK701 := Aside0.mk (blk_drew BK701.out)
                      replace BK702 := Aside0.mk (blk_drew BK702.out)
                      replace HB := Aside0.mk (below_drew1 HB.out)
                      obtain ⟨Ao146, co146, eo146⟩ := Kd.S_slice HO_11.out
                      (first | subst eo146 | (injection eo146 with f1_ f2_ f3_; have f4_ := f1_.symm; have f5_ := f3_.symm; clear f1_ f2_ f3_; subst f4_; subst f5_))
                      have p743 : 0 ≤ ((rd l1 x20_7) : Int) := od_
                      have q743 : (rd l1 x20_7) < (t708.length : Int) := od_
                      obtain ⟨ad743, A743_0, c743_0, e743, hx743_0, hl743_0, hi743_0⟩ := at_L2 (Kd.S_reads' HO_11.out).2.2 (rd l1 x20_7) p743 q743
                      cases e743
                      obtain ⟨ce743, hce743, hMe743, hcc743⟩ := Kd.S_get HO_11.out [] (rd l1 x20_7) p743 (by first | exact q743 | exact od_ | (have e_ := (Kd.S_reads' HO_11.out).1; omega))
                      obtain ⟨ve743_0, rfl, ge743_0⟩ := hMe743
                      have hv743_0 := hcc743 0 _ rfl
                      rw [Nat.add_zero, show ((Kd.slice 51 k51)).sz = 1 from rfl, Nat.mul_one] at hv743_0
                      replace hv743_0 := Option.some.inj (hv743_0.symm.trans hx743_0)
                      rw [hv743_0] at ge743_0
                      have HL743_0 := Aside0.mk (show Kd.R k51 51 _ _ _ _ (rd_L2 t708 (rd l1 x20_7)) from ge743_0)
                      clear hv743_0 ge743_0
                      clear hcc743 hce743
                      have HR743_0 := Aside0.mk hi743_0
                      have HC743_0 := Aside0.mk hl743_0
                      clear hi743_0 hl743_0
                      replace p743 := eq_true p743
                      replace q743 := eq_true q743
                      obtain ⟨ad744, e744, hx744_0, p744, q744⟩ := ai_ (Kd.R_reads' HO_18.out).2.2 (rd l1 x20_7)
                      obtain rfl : ad740 = ad744 := (by injection e744)
                      have p745 : 0 ≤ ((rd x18_7 (rd l1 x20_7)) : Int) := od_
                      have q745 : (rd x18_7 (rd l1 x20_7)) < ((rd_L2 t708 (rd l1 x20_7)).length : Int) := od_
                      obtain ⟨ad745, e745, hx745_0, hx745_1⟩ := at_T51 (by repeat (first | (with_reducible exact HR743_0.out) | (with_reducible refine Kd.C_alloc ?_ _) | (with_reducible refine Kd.C_drewN ?_ _) | (with_reducible refine Kd.C_drew ?_) | exact HR743_0.out)) (rd x18_7 (rd l1 x20_7)) p745 q745
                      cases e745
                      replace p745 := eq_true p745
                      replace q745 := eq_true q745
                      refine start_ (n := 12) (S := fun w' => w'.cell? (ad743.add ((rd l1 x20_7)).toNat) = some (.slice (some ad745) (rd_L2 t708 (rd l1 x20_7)).length c743_0) ∧ w'.cell? (ad740.add ((rd l1 x20_7)).toNat) = some (.int .i64 (rd x18_7 (rd l1 x20_7))) ∧ w'.cell? (ad745.add (((rd x18_7 (rd l1 x20_7))).toNat * 2)) = some (.int .i64 ((rd_T51 (rd_L2 t708 (rd l1 x20_7)) (rd x18_7 (rd l1 x20_7))).f0)) ∧ w'.cell? ⟨(ad745.add (((rd x18_7 (rd l1 x20_7))).toNat * 2)).block, (ad745.add (((rd x18_7 (rd l1 x20_7))).toNat * 2)).off + 1, none⟩ = some (.int .i64 ((rd_T51 (rd_L2 t708 (rd l1 x20_7)) (rd x18_7 (rd l1 x20_7))).f1))) (ds := []) #[false, false, false, false, false, false, false, false, false, false, false, false] (by kernel_rfl) rfl rfl ⟨hx743_0, hx744_0, hx745_0, hx745_1⟩ (fun hHeld => ?_); refine with_tabW trishawlaw01_TurnInside.tab32 trishawlaw01_TurnInside.bits32 (fun HT_ HW_ => ?_)
                      generalize w143.drew = w145 at HO_11 HO_18 BK701 BK702 HB HL743_0 HR743_0 hx743_0 hx744_0 hx745_0 hx745_1 hHeld ⊢
                      refine pu_ 0 219 HT_.out (h := ?_)
                      refine pu_ 1 220 HT_.out (h := ?_)
                      refine pu_ 2 221 HT_.out (h := ?_)
                      refine pu_ 4 223 HT_.out (h := ?_)
                      refine pu_ 5 224 HT_.out (h := ?_)
                      refine pu_ 6 225 HT_.out (h := ?_)
                      refine ta_ 3 222 HT_.out HW_.out hHeld (h := ?_)
                      refine ta_ 7 226 HT_.out HW_.out hHeld (h := ?_)
                      refine pu_ 8 227 HT_.out (h := ?_)
                      refine ta_ 9 228 HT_.out HW_.out hHeld (h := ?_)
                      refine one_ (i := 10) (N := some 22) #[true, true, true, true, true, true, true, true, true, true, true, false] rfl rfl (one_of HT_.out (by kernel_rfl)) (by decide) (fun K hK => ?_)
                      refine box_step ?hg (N := 22) ?hd (cs := #[.int .i64 0, .int .i64 0]) (t := 51) ?hr ?_; (case hd => rfl); (case hg => rfl); (case hr => first | (go_simp; done) | (go_simp; rfl))
                      intro gb746 hg w147 hbox hb
                      have HS0_ := (hb.cell (World.block_lt_of_cell? _ _ (hHeld.1))).trans (hHeld.1)
                      have HS1_ := (hb.cell (World.block_lt_of_cell? _ _ (hHeld.2.1))).trans (hHeld.2.1)
                      have HS2_ := (hb.cell (World.block_lt_of_cell? _ _ (hHeld.2.2.1))).trans (hHeld.2.2.1)
                      have HS3_ := (hb.cell (World.block_lt_of_cell? _ _ (hHeld.2.2.2))).trans (hHeld.2.2.2)
                      replace HO_11 := Aside0.mk (Kd.S_below (Kd.S_elderB (ks_ HO_11.out) gb746 (Nat.le_of_eq hg.symm)) hb)
                      replace HO_18 := rb_ HO_18 hb
                      replace HL743_0 := Aside0.mk (Kd.R_below (Kd.R_elderB (kr_ HL743_0.out) gb746 (Nat.le_of_eq hg.symm)) hb)
                      replace HR743_0 := Aside0.mk (Kd.C_below (by repeat (first | (with_reducible exact HR743_0.out) | (with_reducible refine Kd.C_alloc ?_ _) | (with_reducible refine Kd.C_drewN ?_ _) | (with_reducible refine Kd.C_drew ?_) | exact HR743_0.out)) hb)
                      have BK746 := Aside0.mk (hbox)
                      have GW746 := gw_ hg
                      have GE746 := gw_ hg
                      replace HB := hb_ hb
                      have NB701_746 := nl_ hg BK701
                      have NB746_701 := sy_ NB701_746
                      replace BK701 := bb_ BK701 hb
                      have NB702_746 := nl_ hg BK702
                      have NB746_702 := sy_ NB702_746
                      replace BK702 := bb_ BK702 hb
                      clear hb hbox hg
                      refine hK.out _ _ ⟨HS0_, HS1_, HS2_, HS3_⟩ (fun hHeld => ?_)
                      clear hK K
                      refine np_ 22 (h := ?_)
                      refine one_ (i := 11) (N := none) #[true, true, true, true, true, true, true, true, true, true, true, true] rfl rfl (one_of HT_.out (by kernel_rfl)) (by decide) (fun K hK => ?_)
                      have hs148 : w147.cell? ⟨gb746, 0, none⟩ = some (.int .i64 0) := (blk_cell BK746.out 0).trans rfl
                      have hfs148 := bz_ BK746 0
                      have hns148_0 := NB701_746.out
                      have hns148_1 := NB702_746.out
                      have hms148_0 := NB746_701.out
                      have hms148_1 := NB746_702.out
                      have hs149 : w147.cell? ⟨gb746, 1, none⟩ = some (.int .i64 0) := (blk_cell BK746.out 1).trans rfl
                      have hfs149 := bz_ BK746 1
                      have hns149_0 := NB701_746.out
                      have hns149_1 := NB702_746.out
                      have hms149_0 := NB746_701.out
                      have hms149_1 := NB746_702.out
                      refine skip_ (w1 := ?_) (by rfl) rfl ?_ ?_
                      rotate_left
                      ·go_simp
                       rfl
                      refine hK.out _ _ ⟨((cell_far (p := ⟨gb746, _, none⟩) (by first | exact Kd.own_blk (Kd.S_away HO_11.out (fun _ hk => hk.2)) | (rw [add_block]; exact Kd.own_blk (Kd.S_away HO_11.out (fun _ hk => hk.2))) | (show (Addr.add _ _).block ≠ _; rw [add_block]; exact Kd.own_blk (Kd.S_away HO_11.out (fun _ hk => hk.2))) | (dsimp only; exact Kd.own_blk (Kd.S_away HO_11.out (fun _ hk => hk.2)))) _).trans (((cell_far (p := ⟨gb746, _, none⟩) (by first | exact Kd.own_blk (Kd.S_away HO_11.out (fun _ hk => hk.2)) | (rw [add_block]; exact Kd.own_blk (Kd.S_away HO_11.out (fun _ hk => hk.2))) | (show (Addr.add _ _).block ≠ _; rw [add_block]; exact Kd.own_blk (Kd.S_away HO_11.out (fun _ hk => hk.2))) | (dsimp only; exact Kd.own_blk (Kd.S_away HO_11.out (fun _ hk => hk.2)))) _).trans (hHeld.1)))), ((cell_far (p := ⟨gb746, _, none⟩) (by first | exact Kd.own_blk (Kd.R_ne HO_18.out BK746.out (by decide)) | (rw [add_block]; exact Kd.own_blk (Kd.R_ne HO_18.out BK746.out (by decide))) | (show (Addr.add _ _).block ≠ _; rw [add_block]; exact Kd.own_blk (Kd.R_ne HO_18.out BK746.out (by decide))) | (dsimp only; exact Kd.own_blk (Kd.R_ne HO_18.out BK746.out (by decide)))) _).trans (((cell_far (p := ⟨gb746, _, none⟩) (by first | exact Kd.own_blk (Kd.R_ne HO_18.out BK746.out (by decide)) | (rw [add_block]; exact Kd.own_blk (Kd.R_ne HO_18.out BK746.out (by decide))) | (show (Addr.add _ _).block ≠ _; rw [add_block]; exact Kd.own_blk (Kd.R_ne HO_18.out BK746.out (by decide))) | (dsimp only; exact Kd.own_blk (Kd.R_ne HO_18.out BK746.out (by decide)))) _).trans (hHeld.2.1)))), ((cell_far (p := ⟨gb746, _, none⟩) (by first | exact Kd.own_blk (Kd.R_away HL743_0.out (fun _ hk => hk.2)) | (rw [add_block]; exact Kd.own_blk (Kd.R_away HL743_0.out (fun _ hk => hk.2))) | (show (Addr.add _ _).block ≠ _; rw [add_block]; exact Kd.own_blk (Kd.R_away HL743_0.out (fun _ hk => hk.2))) | (dsimp only; exact Kd.own_blk (Kd.R_away HL743_0.out (fun _ hk => hk.2)))) _).trans (((cell_far (p := ⟨gb746, _, none⟩) (by first | exact Kd.own_blk (Kd.R_away HL743_0.out (fun _ hk => hk.2)) | (rw [add_block]; exact Kd.own_blk (Kd.R_away HL743_0.out (fun _ hk => hk.2))) | (show (Addr.add _ _).block ≠ _; rw [add_block]; exact Kd.own_blk (Kd.R_away HL743_0.out (fun _ hk => hk.2))) | (dsimp only; exact Kd.own_blk (Kd.R_away HL743_0.out (fun _ hk => hk.2)))) _).trans (hHeld.2.2.1)))), ((cell_far (p := ⟨gb746, _, none⟩) (by first | exact Kd.own_blk (Kd.R_away HL743_0.out (fun _ hk => hk.2)) | (rw [add_block]; exact Kd.own_blk (Kd.R_away HL743_0.out (fun _ hk => hk.2))) | (show (Addr.add _ _).block ≠ _; rw [add_block]; exact Kd.own_blk (Kd.R_away HL743_0.out (fun _ hk => hk.2))) | (dsimp only; exact Kd.own_blk (Kd.R_away HL743_0.out (fun _ hk => hk.2)))) _).trans (((cell_far (p := ⟨gb746, _, none⟩) (by first | exact Kd.own_blk (Kd.R_away HL743_0.out (fun _ hk => hk.2)) | (rw [add_block]; exact Kd.own_blk (Kd.R_away HL743_0.out (fun _ hk => hk.2))) | (show (Addr.add _ _).block ≠ _; rw [add_block]; exact Kd.own_blk (Kd.R_away HL743_0.out (fun _ hk => hk.2))) | (dsimp only; exact Kd.own_blk (Kd.R_away HL743_0.out (fun _ hk => hk.2)))) _).trans (hHeld.2.2.2))))⟩ (fun hHeld => ?_)
                      clear hK K
                      refine done_ (done_of HT_.out (by kernel_rfl)) ?_
                      have n0_ : Aside0 (Kd.S (Kd.slice 51 k51) 49 ((w147.setCell ⟨gb746, 0, none⟩ (.int .i64 ((rd_T51 (rd_L2 t708 (rd l1 x20_7)) (rd x18_7 (rd l1 x20_7))).f0))).setCell ⟨gb746, 1, none⟩ (.int .i64 ((rd_T51 (rd_L2 t708 (rd l1 x20_7)) (rd x18_7 (rd l1 x20_7))).f1))) w.heap.size (fun k_ => k_ ≠ gb746) (.slice (some ad743) t708.length co146) t708) := ⟨by refine ks_ ?_; exact Kd.S_mono (Kd.S_far (p := ⟨gb746, 1, none⟩) (Kd.S_far (p := ⟨gb746, 0, none⟩) (Kd.S_mono HO_11.out (fun k_ hk => (⟨hk, hk.2⟩ : _ ∧ k_ ≠ gb746))) (fun _ hk => hk.2) (.int .i64 ((rd_T51 (rd_L2 t708 (rd l1 x20_7)) (rd x18_7 (rd l1 x20_7))).f0))) (fun _ hk => hk.2) (.int .i64 ((rd_T51 (rd_L2 t708 (rd l1 x20_7)) (rd x18_7 (rd l1 x20_7))).f1))) (fun _ hk => hk.1.2)⟩
                      have n1_ : Aside0 (Kd.R (Kd.int .i64) 3 ((w147.setCell ⟨gb746, 0, none⟩ (.int .i64 ((rd_T51 (rd_L2 t708 (rd l1 x20_7)) (rd x18_7 (rd l1 x20_7))).f0))).setCell ⟨gb746, 1, none⟩ (.int .i64 ((rd_T51 (rd_L2 t708 (rd l1 x20_7)) (rd x18_7 (rd l1 x20_7))).f1))) w.heap.size (fun _ => True) (.slice (some ad740) x18_7.length co144) x18_7) := ⟨by refine kr_ ?_; exact Kd.R_mono (Kd.R_far (p := ⟨gb746, 1, none⟩) (Kd.R_far (p := ⟨gb746, 0, none⟩) (Kd.R_types HO_18.out BK746.out (by decide)) (fun _ hk => hk.2) (.int .i64 ((rd_T51 (rd_L2 t708 (rd l1 x20_7)) (rd x18_7 (rd l1 x20_7))).f0))) (fun _ hk => hk.2) (.int .i64 ((rd_T51 (rd_L2 t708 (rd l1 x20_7)) (rd x18_7 (rd l1 x20_7))).f1))) (fun _ hk => trivial)⟩
                      have n2_ : Aside0 (Kd.R k51 51 ((w147.setCell ⟨gb746, 0, none⟩ (.int .i64 ((rd_T51 (rd_L2 t708 (rd l1 x20_7)) (rd x18_7 (rd l1 x20_7))).f0))).setCell ⟨gb746, 1, none⟩ (.int .i64 ((rd_T51 (rd_L2 t708 (rd l1 x20_7)) (rd x18_7 (rd l1 x20_7))).f1))) w.heap.size (fun k_ => some k_ ≠ (.slice (some ad743) t708.length co146 : Value).ownBlock ∧ k_ ≠ gb746) (.slice (some ad745) (rd_L2 t708 (rd l1 x20_7)).length c743_0) (rd_L2 t708 (rd l1 x20_7))) := ⟨by refine kr_ ?_; exact Kd.R_mono (Kd.R_far (p := ⟨gb746, 1, none⟩) (Kd.R_far (p := ⟨gb746, 0, none⟩) (Kd.R_mono HL743_0.out (fun k_ hk => (⟨hk, hk.2⟩ : _ ∧ k_ ≠ gb746))) (fun _ hk => hk.2) (.int .i64 ((rd_T51 (rd_L2 t708 (rd l1 x20_7)) (rd x18_7 (rd l1 x20_7))).f0))) (fun _ hk => hk.2) (.int .i64 ((rd_T51 (rd_L2 t708 (rd l1 x20_7)) (rd x18_7 (rd l1 x20_7))).f1))) (fun _ hk => ⟨hk.1.1.2, hk.1.2⟩)⟩
                      have n3_ : Aside0 (((w147.setCell ⟨gb746, 0, none⟩ (.int .i64 ((rd_T51 (rd_L2 t708 (rd l1 x20_7)) (rd x18_7 (rd l1 x20_7))).f0))).setCell ⟨gb746, 1, none⟩ (.int .i64 ((rd_T51 (rd_L2 t708 (rd l1 x20_7)) (rd x18_7 (rd l1 x20_7))).f1))).heap[gb701]? = some (.cells #[.int .i64 a2_0, .int .i64 a2_1] 26 (0, 0))) := ⟨by refine bk_ ?_; refine blk_far ?_ NB701_746.out _; refine bk_ ?_; refine blk_far ?_ NB701_746.out _; refine bk_ ?_; exact BK701.out⟩
                      have n4_ : Aside0 (((w147.setCell ⟨gb746, 0, none⟩ (.int .i64 ((rd_T51 (rd_L2 t708 (rd l1 x20_7)) (rd x18_7 (rd l1 x20_7))).f0))).setCell ⟨gb746, 1, none⟩ (.int .i64 ((rd_T51 (rd_L2 t708 (rd l1 x20_7)) (rd x18_7 (rd l1 x20_7))).f1))).heap[gb702]? = some (.cells #[.int .i64 a3_0, .int .i64 a3_1] 26 (0, 0))) := ⟨by refine bk_ ?_; refine blk_far ?_ NB702_746.out _; refine bk_ ?_; refine blk_far ?_ NB702_746.out _; refine bk_ ?_; exact BK702.out⟩
                      have n5_ : Aside0 (((w147.setCell ⟨gb746, 0, none⟩ (.int .i64 ((rd_T51 (rd_L2 t708 (rd l1 x20_7)) (rd x18_7 (rd l1 x20_7))).f0))).setCell ⟨gb746, 1, none⟩ (.int .i64 ((rd_T51 (rd_L2 t708 (rd l1 x20_7)) (rd x18_7 (rd l1 x20_7))).f1))).heap[gb746]? = some (.cells #[.int .i64 ((rd_T51 (rd_L2 t708 (rd l1 x20_7)) (rd x18_7 (rd l1 x20_7))).f0), .int .i64 ((rd_T51 (rd_L2 t708 (rd l1 x20_7)) (rd x18_7 (rd l1 x20_7))).f1)] 51 (0, 0))) := ⟨by refine bk_ ?_; refine blk_put (cs := #[.int .i64 ((rd_T51 (rd_L2 t708 (rd l1 x20_7)) (rd x18_7 (rd l1 x20_7))).f0), .int .i64 0]) ?_ 1 _ rfl; refine bk_ ?_; refine blk_put (cs := #[.int .i64 0, .int .i64 0]) ?_ 0 _ rfl; refine bk_ ?_; exact BK746.out⟩
                      have n6_ : Aside0 (Below w.heap.size w ((w147.setCell ⟨gb746, 0, none⟩ (.int .i64 ((rd_T51 (rd_L2 t708 (rd l1 x20_7)) (rd x18_7 (rd l1 x20_7))).f0))).setCell ⟨gb746, 1, none⟩ (.int .i64 ((rd_T51 (rd_L2 t708 (rd l1 x20_7)) (rd x18_7 (rd l1 x20_7))).f1)))) := ⟨bl_⟩
                      (try clear HO_11)
                      (try clear HO_18)
                      (try clear HL743_0)
                      (try clear BK701)
                      (try clear BK702)
                      (try clear BK746)
                      (try clear HB)
                      generalize ((w147.setCell ⟨gb746, 0, none⟩ (.int .i64 ((rd_T51 (rd_L2 t708 (rd l1 x20_7)) (rd x18_7 (rd l1 x20_7))).f0))).setCell ⟨gb746, 1, none⟩ (.int .i64 ((rd_T51 (rd_L2 t708 (rd l1 x20_7)) (rd x18_7 (rd l1 x20_7))).f1))) = w150 at n0_ n1_ n2_ n3_ n4_ n5_ n6_ ⊢
                      have HO_11 := n0_
                      have HO_18 := n1_
                      have HL743_0 := n2_
                      have BK701 := n3_
                      have BK702 := n4_
                      have BK746 := n5_
                      have HB := n6_
                      clear n0_ n1_ n2_ n3_ n4_ n5_ n6_
                      obtain ⟨ad751, e751, hx751_0, p751, q751⟩ := ai_ (Kd.R_reads' HO_18.out).2.2 (rd l1 x20_7)
                      obtain rfl : ad740 = ad751 := (by injection e751)
                      have p142 : 0 ≤ ((rd l1 x20_7) : Int) := od_
                      have q142 : ((rd l1 x20_7) : Int) < ((x18_7.length : Int) : Int) := od_
                      obtain ⟨go142, co142, eo142, gb142, gl142, cl142, HG142⟩ := Kd.R_form HO_18.out (by omega)
                      (first | cases eo142 | (injection eo142 with ea_ en_ ec_; (first | subst ea_ | (injection ea_ with ea_; subst ea_)); subst ec_; clear en_))
                      have GB142 := Aside0.mk gb142
                      have GG142 := Aside0.mk HG142
                      clear gb142 gl142 HG142
                      (first | simp only [add_plain] at hx740_0 | skip)
                      (first | simp only [add_plain] at hx744_0 | skip)
                      (first | simp only [add_plain] at hx751_0 | skip)
                      obtain ⟨hx142_0, hf142_0⟩ := Kd.R_celln 0 HO_18.out ((rd l1 x20_7) : Int) p142 q142
                      replace p142 := eq_true p142
                      replace q142 := eq_true q142
                      obtain ⟨hy151_, hz151_⟩ := Kd.R_celln 0 HO_18.out ((rd l1 x20_7) : Int) (od_) (od_)
                      have HP151 := Kd.R_putg HO_18.out ((rd l1 x20_7) : Int) (wrap64 ((rd x18_7 (rd l1 x20_7)) + 1))
                      try go_wp2_with (first | ((with_reducible refine gate_store (t := 3) (p := 247) rfl ?_); refine store_event (t := 3) (p := 247) (v := ?vo_w152) (w1 := (w150.setCell ⟨go142, ((rd l1 x20_7) : Int).toNat, none⟩ (.int .i64 (wrap64 ((rd x18_7 (rd l1 x20_7)) + 1))))) ?hg ?ho ?hn ?hr ?_; (case ho => rfl); (case hg => rfl); (case hn => rfl); (case hr => first | (go_simp; done) | (go_simp; rfl)); intro w152 hw; have hg : w150.grownBy w152 (some go142) := (by rw [hw]; exact HP151.2); have hp_ : Kd.R (Kd.int .i64) 3 w152 w.heap.size (fun _ => True) (.slice (some ⟨go142, 0, none⟩) x18_7.length co144) y752 := (by rw [hw, Ny752.out]; exact HP151.1); clear HP151; replace HO_11 := Aside0.mk (Kd.S_over' (v := (.slice (some ⟨go142, 0, none⟩) x18_7.length co144)) (ks_ HO_11.out) (Kd.R_typed HO_18.out) (by decide) hg); replace BK701 := Aside0.mk (blk_grown (g := gb701) (o := .cells #[.int .i64 a2_0, .int .i64 a2_1] 26 (0, 0)) (bk_ BK701.out) hg (Kd.R_ne HO_18.out BK701.out (by decide))); replace BK702 := Aside0.mk (blk_grown (g := gb702) (o := .cells #[.int .i64 a3_0, .int .i64 a3_1] 26 (0, 0)) (bk_ BK702.out) hg (Kd.R_ne HO_18.out BK702.out (by decide))); replace HL743_0 := Aside0.mk (Kd.R_over' (v := (.slice (some ⟨go142, 0, none⟩) x18_7.length co144)) (kr_ HL743_0.out) (Kd.R_typed HO_18.out) (by decide) hg); replace BK746 := Aside0.mk (blk_grown (g := gb746) (o := .cells #[.int .i64 ((rd_T51 (rd_L2 t708 (rd l1 x20_7)) (rd x18_7 (rd l1 x20_7))).f0), .int .i64 ((rd_T51 (rd_L2 t708 (rd l1 x20_7)) (rd x18_7 (rd l1 x20_7))).f1)] 51 (0, 0)) (bk_ BK746.out) hg (Kd.R_ne HO_18.out BK746.out (by decide))); replace HO_18 := Aside0.mk (hp_); replace HB := Aside0.mk ((by rw [hw]; exact below_set (HB.out) GB142.out : Below w.heap.size w w152)); clear hg hw hp_))
                      go_roundg k7
                      case measure => have := HJ5.out; have := HJ19.out; have := HK3.out; have := HJ35.out; have := HJ52.out; have := HJ87.out; have := HK7.out; omega
                      case rel => exact ⟨(y752), (false), (wrap64 (x20_7 + 1)), rs_, rs_, H', ⟨by have := HJ5.out; have := HJ19.out; have := HK3.out; have := HJ35.out; have := HJ52.out; have := HJ87.out; have := HK7.out; omega⟩, ⟨by refine ks_ ?_; exact Kd.S_mono HO_11.out (fun _ hk => trivial)⟩, ⟨kr_ HO_18.out⟩, ⟨bk_ BK701.out⟩, ⟨bk_ BK702.out⟩, ⟨bl_⟩⟩
                   ·as_aux_lemma =>
                    rw [if_neg c98] at H
                    have c98b0 : decide (x20_7 < t703) = false := decide_eq_false c98
                    clear c98
                    obtain ⟨⟨t753, t754, t755⟩, A153, H⟩ := bi_ H
                    replace H : (if t755 = 0 then ((trishawlaw01_small.f t753 t754).bind fun t757 => (if t757 = true then (if a2_1 ≥ 1073741824 then ((trishawlaw01_alive.f k7).bind fun t758 => (some t758)) else ((trishawlaw01_atMost.f t753 t754 a2_0 a2_1).bind fun t759 => (if (x19_7 == t759) = true then ((trishawlaw01_alive.f k7).bind fun t760 => (some t760)) else (some false)))) else (some false))) else (some false)) = some r := H
                    by_cases c154 : t755 = 0
                    ·rw [if_pos c154] at H
                     have c154b0 : (t755 == 0) = true := beq_iff_eq.mpr c154
                     have c154b1 : (t755 != 0) = false := bne_eq_false_iff_eq.mpr c154
                     clear c154
                     obtain ⟨t757, A155, H⟩ := bi_ H
                     replace H : (if t757 = true then (if a2_1 ≥ 1073741824 then ((trishawlaw01_alive.f k7).bind fun t758 => (some t758)) else ((trishawlaw01_atMost.f t753 t754 a2_0 a2_1).bind fun t759 => (if (x19_7 == t759) = true then ((trishawlaw01_alive.f k7).bind fun t760 => (some t760)) else (some false)))) else (some false)) = some r := H
                     by_cases c156 : t757 = true
                     ·subst c156
                      have H1 : (if a2_1 ≥ 1073741824 then ((trishawlaw01_alive.f k7).bind fun t758 => (some t758)) else ((trishawlaw01_atMost.f t753 t754 a2_0 a2_1).bind fun t759 => (if (x19_7 == t759) = true then ((trishawlaw01_alive.f k7).bind fun t760 => (some t760)) else (some false)))) = some r := by rw [if_pos rfl] at H; exact H
                      clear H
                      have H := H1
                      clear H1
                      by_cases c157 : a2_1 ≥ 1073741824
                      ·rw [if_pos c157] at H
                       have c157b0 : decide (1073741824 ≤ a2_1) = true := decide_eq_true c157
                       clear c157
                       obtain ⟨t758, A158, H⟩ := bi_ H
                       replace H : (some t758) = some r := H
                       obtain rfl := Option.some.inj H
                       go_wp2_with (first | ((with_reducible refine gate_callee (f := 25) rfl ?_); refine goesL_ (some 251) rfl rfl Tryd.func25 (by kernel_rfl) rfl #[.slice A0 l0.length c0, .slice A1 l1.length c1] rfl (as_) ?_; (with_reducible refine (turn_Deviation.calls k7 _ _ l0 _ _ l1 t753 t754 t755 _ ?side1 ?side2 ?side3 ?side4 A153.out).mono ?_); (case side1 => exact cb_ HR0.out); (case side2 => exact HC0.out); (case side3 => exact cb_ HR1.out); (case side4 => exact HC1.out); rintro e w159 ⟨rfl, hb⟩; refine ⟨_, rfl, ?_⟩; replace HO_11 := Aside0.mk (Kd.S_below (ks_ HO_11.out) hb); replace HO_18 := rb_ HO_18 hb; replace BK701 := bb_ BK701 hb; replace BK702 := bb_ BK702 hb; replace HB := hb_ hb; clear hb) | ((with_reducible refine gate_dst (N := 23) rfl ?_); (try (refine gate_guard (by rfl) ?_; dsimp only)); refine be_ #[.int .i64 0, .int .i64 0] 26 ?_; intro gb756 hg w160 hbox hb; replace HO_11 := Aside0.mk (Kd.S_below (ks_ HO_11.out) hb); replace HO_18 := rb_ HO_18 hb; have BK756 := Aside0.mk (hbox); have GW756 := gw_ hg; have GE756 := gw_ hg; replace HB := hb_ hb; have NB701_756 := nl_ hg BK701; have NB756_701 := sy_ NB701_756; replace BK701 := bb_ BK701 hb; have NB702_756 := nl_ hg BK702; have NB756_702 := sy_ NB702_756; replace BK702 := bb_ BK702 hb; clear hb hbox hg; have hnb161 := NB756_701.out; have hnc161 := NB701_756.out; have hnb162 := NB756_702.out; have hnc162 := NB702_756.out; have hcz163_0 := bc_ BK756 0 (.int .i64 0); have hcz163_1 := bc_ BK756 1 (.int .i64 0); have hfz163_0 := bz_ BK756 0; have hfz163_1 := bz_ BK756 1) | (go_at_call 26; (with_reducible refine (trishawlaw01_small.calls t753 t754 true _ A155.out).mono ?_); rintro e w164 ⟨rfl, hb⟩; replace HO_11 := Aside0.mk (Kd.S_below (by refine ks_ ?_; exact (Kd.S_mono (Kd.S_far (p := ⟨gb756, 1, none⟩) (Kd.S_far (p := ⟨gb756, 0, none⟩) (Kd.S_types HO_11.out BK756.out (by decide)) (fun _ hk => hk.2) (.int .i64 t753)) (fun _ hk => hk.2) (.int .i64 t754)) (fun _ h_ => h_.1))) hb); replace HO_18 := Aside0.mk (Kd.R_below (by refine kr_ ?_; exact (Kd.R_mono (Kd.R_far (p := ⟨gb756, 1, none⟩) (Kd.R_far (p := ⟨gb756, 0, none⟩) (Kd.R_types HO_18.out BK756.out (by decide)) (fun _ hk => hk.2) (.int .i64 t753)) (fun _ hk => hk.2) (.int .i64 t754)) (fun _ h_ => h_.1))) hb); replace BK701 := Aside0.mk (blk_below (g := gb701) (o := .cells #[.int .i64 a2_0, .int .i64 a2_1] 26 (0, 0)) (by refine bk_ ?_; refine blk_far ?_ NB701_756.out _; refine bk_ ?_; refine blk_far ?_ NB701_756.out _; refine bk_ ?_; exact BK701.out) hb); replace BK702 := Aside0.mk (blk_below (g := gb702) (o := .cells #[.int .i64 a3_0, .int .i64 a3_1] 26 (0, 0)) (by refine bk_ ?_; refine blk_far ?_ NB702_756.out _; refine bk_ ?_; refine blk_far ?_ NB702_756.out _; refine bk_ ?_; exact BK702.out) hb); replace BK756 := Aside0.mk (blk_below (g := gb756) (o := .cells #[.int .i64 t753, .int .i64 t754] 26 (0, 0)) (by refine bk_ ?_; refine blk_put (cs := #[.int .i64 t753, .int .i64 0]) ?_ 1 _ rfl; refine bk_ ?_; refine blk_put (cs := #[.int .i64 0, .int .i64 0]) ?_ 0 _ rfl; refine bk_ ?_; exact BK756.out) hb); replace HB := hb_ hb; clear hb; have hnb165 := NB701_702.out; have hnc165 := NB702_701.out; have hcz166_0 := bc_ BK701 0 (.int .i64 a2_0); have hcz166_1 := bc_ BK701 1 (.int .i64 a2_1); have hfz166_0 := bz_ BK701 0; have hfz166_1 := bz_ BK701 1) | (go_at_call 17; (with_reducible refine (trishawlaw01_alive.calls k7  t758 _ A158.out (HN.out.of (bl_))).mono ?_); rintro e w167 ⟨rfl, hb⟩; replace HO_11 := Aside0.mk (Kd.S_below (ks_ HO_11.out) hb); replace HO_18 := rb_ HO_18 hb; replace BK701 := bb_ BK701 hb; replace BK702 := bb_ BK702 hb; replace BK756 := bb_ BK756 hb; replace HB := hb_ hb; clear hb))
                       go_ret
                       exact ⟨er_, bl_⟩
                      ·rw [if_neg c157] at H
                       have c157b0 : decide (1073741824 ≤ a2_1) = false := decide_eq_false c157
                       clear c157
                       obtain ⟨t759, A168, H⟩ := bi_ H
                       replace H : (if (x19_7 == t759) = true then ((trishawlaw01_alive.f k7).bind fun t760 => (some t760)) else (some false)) = some r := H
                       by_cases c169 : (x19_7 == t759) = true
                       ·rw [if_pos c169] at H
                        have c169b0 : (x19_7 == t759) = true := c169
                        (try (have c169b1 : decide (x19_7 = t759) = true := by simpa using c169))
                        (try (have c169b2 : (x19_7 == t759) = true := by simpa using c169))
                        clear c169
                        obtain ⟨t760, A170, H⟩ := bi_ H
                        replace H : (some t760) = some r := H
                        obtain rfl := Option.some.inj H
                        go_wp2_with (first | ((with_reducible refine gate_callee (f := 25) rfl ?_); refine goesL_ (some 251) rfl rfl Tryd.func25 (by kernel_rfl) rfl #[.slice A0 l0.length c0, .slice A1 l1.length c1] rfl (as_) ?_; (with_reducible refine (turn_Deviation.calls k7 _ _ l0 _ _ l1 t753 t754 t755 _ ?side1 ?side2 ?side3 ?side4 A153.out).mono ?_); (case side1 => exact cb_ HR0.out); (case side2 => exact HC0.out); (case side3 => exact cb_ HR1.out); (case side4 => exact HC1.out); rintro e w171 ⟨rfl, hb⟩; refine ⟨_, rfl, ?_⟩; replace HO_11 := Aside0.mk (Kd.S_below (ks_ HO_11.out) hb); replace HO_18 := rb_ HO_18 hb; replace BK701 := bb_ BK701 hb; replace BK702 := bb_ BK702 hb; replace HB := hb_ hb; clear hb) | ((with_reducible refine gate_dst (N := 23) rfl ?_); (try (refine gate_guard (by rfl) ?_; dsimp only)); refine be_ #[.int .i64 0, .int .i64 0] 26 ?_; intro gb756 hg w172 hbox hb; replace HO_11 := Aside0.mk (Kd.S_below (ks_ HO_11.out) hb); replace HO_18 := rb_ HO_18 hb; have BK756 := Aside0.mk (hbox); have GW756 := gw_ hg; have GE756 := gw_ hg; replace HB := hb_ hb; have NB701_756 := nl_ hg BK701; have NB756_701 := sy_ NB701_756; replace BK701 := bb_ BK701 hb; have NB702_756 := nl_ hg BK702; have NB756_702 := sy_ NB702_756; replace BK702 := bb_ BK702 hb; clear hb hbox hg; have hnb173 := NB756_701.out; have hnc173 := NB701_756.out; have hnb174 := NB756_702.out; have hnc174 := NB702_756.out; have hcz175_0 := bc_ BK756 0 (.int .i64 0); have hcz175_1 := bc_ BK756 1 (.int .i64 0); have hfz175_0 := bz_ BK756 0; have hfz175_1 := bz_ BK756 1) | (go_at_call 26; (with_reducible refine (trishawlaw01_small.calls t753 t754 true _ A155.out).mono ?_); rintro e w176 ⟨rfl, hb⟩; replace HO_11 := Aside0.mk (Kd.S_below (by refine ks_ ?_; exact (Kd.S_mono (Kd.S_far (p := ⟨gb756, 1, none⟩) (Kd.S_far (p := ⟨gb756, 0, none⟩) (Kd.S_types HO_11.out BK756.out (by decide)) (fun _ hk => hk.2) (.int .i64 t753)) (fun _ hk => hk.2) (.int .i64 t754)) (fun _ h_ => h_.1))) hb); replace HO_18 := Aside0.mk (Kd.R_below (by refine kr_ ?_; exact (Kd.R_mono (Kd.R_far (p := ⟨gb756, 1, none⟩) (Kd.R_far (p := ⟨gb756, 0, none⟩) (Kd.R_types HO_18.out BK756.out (by decide)) (fun _ hk => hk.2) (.int .i64 t753)) (fun _ hk => hk.2) (.int .i64 t754)) (fun _ h_ => h_.1))) hb); replace BK701 := Aside0.mk (blk_below (g := gb701) (o := .cells #[.int .i64 a2_0, .int .i64 a2_1] 26 (0, 0)) (by refine bk_ ?_; refine blk_far ?_ NB701_756.out _; refine bk_ ?_; refine blk_far ?_ NB701_756.out _; refine bk_ ?_; exact BK701.out) hb); replace BK702 := Aside0.mk (blk_below (g := gb702) (o := .cells #[.int .i64 a3_0, .int .i64 a3_1] 26 (0, 0)) (by refine bk_ ?_; refine blk_far ?_ NB702_756.out _; refine bk_ ?_; refine blk_far ?_ NB702_756.out _; refine bk_ ?_; exact BK702.out) hb); replace BK756 := Aside0.mk (blk_below (g := gb756) (o := .cells #[.int .i64 t753, .int .i64 t754] 26 (0, 0)) (by refine bk_ ?_; refine blk_put (cs := #[.int .i64 t753, .int .i64 0]) ?_ 1 _ rfl; refine bk_ ?_; refine blk_put (cs := #[.int .i64 0, .int .i64 0]) ?_ 0 _ rfl; refine bk_ ?_; exact BK756.out) hb); replace HB := hb_ hb; clear hb; have hnb177 := NB701_702.out; have hnc177 := NB702_701.out; have hcz178_0 := bc_ BK701 0 (.int .i64 a2_0); have hcz178_1 := bc_ BK701 1 (.int .i64 a2_1); have hfz178_0 := bz_ BK701 0; have hfz178_1 := bz_ BK701 1; have hcz179_0 := bc_ BK756 0 (.int .i64 t753); have hcz179_1 := bc_ BK756 1 (.int .i64 t754); have hfz179_0 := bz_ BK756 0; have hfz179_1 := bz_ BK756 1) | (go_at_call 27; (with_reducible refine (trishawlaw01_atMost.calls t753 t754 a2_0 a2_1 t759 _ A168.out).mono ?_); rintro e w180 ⟨rfl, hb⟩; replace HO_11 := Aside0.mk (Kd.S_below (ks_ HO_11.out) hb); replace HO_18 := rb_ HO_18 hb; replace BK701 := bb_ BK701 hb; replace BK702 := bb_ BK702 hb; replace BK756 := bb_ BK756 hb; replace HB := hb_ hb; clear hb) | (go_at_call 17; (with_reducible refine (trishawlaw01_alive.calls k7  t760 _ A170.out (HN.out.of (bl_))).mono ?_); rintro e w181 ⟨rfl, hb⟩; replace HO_11 := Aside0.mk (Kd.S_below (ks_ HO_11.out) hb); replace HO_18 := rb_ HO_18 hb; replace BK701 := bb_ BK701 hb; replace BK702 := bb_ BK702 hb; replace BK756 := bb_ BK756 hb; replace HB := hb_ hb; clear hb))
                        go_ret
                        exact ⟨er_, bl_⟩
                       ·rw [if_neg c169] at H
                        have c169b0 : (x19_7 == t759) = false := by simpa using c169
                        (try (have c169b1 : decide (x19_7 = t759) = false := by simpa using c169))
                        (try (have c169b2 : (x19_7 == t759) = false := by simpa using c169))
                        (try (have c169b3 : ¬ (x19_7 = t759) := by simpa using c169))
                        clear c169
                        exact absurd (Option.some.inj (H.trans (congrArg some hr.out))) (by decide)
                     ·replace c156 := Bool.eq_false_iff.mpr c156
                      subst c156
                      have H1 : (some false) = some r := by rw [if_neg (show ¬ (false = true) by decide)] at H; exact H
                      clear H
                      have H := H1
                      clear H1
                      exact absurd (Option.some.inj (H.trans (congrArg some hr.out))) (by decide)
                    ·rw [if_neg c154] at H
                     have c154b0 : (t755 == 0) = false := beq_eq_false_iff_ne.mpr c154
                     have c154b1 : (t755 != 0) = true := bne_iff_ne.mpr c154
                     exact absurd (Option.some.inj (H.trans (congrArg some hr.out))) (by decide)

end Go.Proofs.YtgobffgogmnmpaaDoor.P
