/- What Deviation and Quota answer, in the program and in the document. Conditions: none but sizes. -/
import Derived.Test.YtgobffgogmnmpaaDoorPx9
import Derived.Test.YtgobffgogmnmpaaDoorCnt
import Derived.Test.YtgobffgogmnmpaaDoorGcd
namespace Go.Proofs.YtgobffgogmnmpaaDoor.Pure
open Go.RowKit Go.Proofs.YtgobffgogmnmpaaDoor.P Go.Proofs.YtgobffgogmnmpaaDoorW.PrintWords Go.Proofs.YtgobffgogmnmpaaDoorW.PrintLast Go.Proofs.YtgobffgogmnmpaaDoorW.PrintMore

/-- The deviation of days, times the total. -/
def dev (l days : List Int) : Int := wst (sh l) (tot l) l.length (ee days) days.length
theorem dev_nonneg (l days : List Int) : 0 ≤ dev l days := wst_nonneg _ _ _ _ _
theorem dev_small {l days : List Int} (g : Good l) (hd : days.length ≤ 400) : dev l days ≤ 200000 := by
  refine (wst_le (by omega)).2 fun τ hτ j hj => ?_
  exact lag_bd g (by omega) hj
/-- The error of shares and days. -/
def sdE (l days : List Int) : Int := if shE l = 0 then daE days l.length else shE l
theorem sd_ok {l days : List Int} : sdE l days = 0 ↔ Good l ∧ days.length ≤ 400 ∧ Days l.length days := by
  unfold sdE
  constructor
  · intro h
    by_cases hs : shE l = 0
    · rw [if_pos hs] at h; exact ⟨sh_good.1 hs, da_ok.1 h⟩
    · rw [if_neg hs] at h; exact absurd h hs
  · intro ⟨h1, h2⟩
    rw [if_pos (sh_good.2 h1)]; exact da_ok.2 h2
theorem Deviation_f (l days : List Int) : Ev (fun k => turn_Deviation.f k l days) (if sdE l days = 0 then ((red (dev l days) (tot l)).1, (red (dev l days) (tot l)).2, 0) else (0, 0, sdE l days)) := by
  unfold turn_Deviation.f
  by_cases hs : shE l = 0
  · have g := sh_good.1 hs
    have e : sdE l days = daE days l.length := if_pos hs
    rw [e]
    refine Ev.bind (worked_good g) ?_
    by_cases hd : daE days l.length = 0
    · obtain ⟨h1, h2⟩ := da_ok.1 hd
      rw [if_pos hd]
      have := g.tot_pos; have := g.tot_le; have := g.pos
      have hs2 := dev_small (days := days) g h1
      exact ev_pos hd (Ev.bind (deviation_f g h1 h2) (Ev.bind (Of_f (b := tot l) (dev_nonneg l days) (by show dev l days ≤ _; omega) (by omega) (by omega)) (Ev.now _)))
    · rw [if_neg hd]
      exact ev_neg hd (Ev.now _)
  · have e : sdE l days = shE l := if_neg hs
    rw [e, if_neg hs]
    exact Ev.bind (worked_bad hs) (ev_neg hs (Ev.now _))
end Go.Proofs.YtgobffgogmnmpaaDoor.Pure
