/- What Feasible answers. Conditions: whole numbers of the machine. -/
import Derived.Test.YtgobffgogmnmpaaDoorPx30
import Derived.Test.YtgobffgogmnmpaaDoorBou
namespace Go.Proofs.YtgobffgogmnmpaaDoor.Pure
open Go.RowKit Go.Proofs.YtgobffgogmnmpaaDoor.P Go.Proofs.YtgobffgogmnmpaaDoorW.PrintWords Go.Proofs.YtgobffgogmnmpaaDoorW.PrintLast Go.Proofs.YtgobffgogmnmpaaDoorW.PrintMore
theorem Feasible_good {l : List Int} (g : Good l) {p q : Int} (b : IsB p q) : ∃ z, Ev (fun k => turn_Feasible.f k l p q) (z, 0) ∧ (z = true ↔ Feas l p q) := by
  obtain ⟨z, e, hz⟩ := feasible_f g b.1
  have q1 := b.1.q1
  have q2 := b.1.q2
  have p0 := b.1.p0
  have p1 := b.1.p1
  have eb := bounded_f l (p := p) (q := q) (by omega) (by omega)
  rw [if_pos (sh_good.2 g), bn_ok.2 ⟨g, b⟩] at eb
  refine ⟨z, ?_, hz⟩
  unfold turn_Feasible.f
  exact Ev.bind eb (ev_pos rfl (Ev.bind e (Ev.now _)))
theorem Feasible_bad {l : List Int} {p q : Int} (hp : -9223372036854775808 ≤ p ∧ p ≤ 9223372036854775807) (hq : -9223372036854775808 ≤ q ∧ q ≤ 9223372036854775807) (hb : bnE l p q ≠ 0) : Ev (fun k => turn_Feasible.f k l p q) (false, bnE l p q) := by
  have eb := bounded_f l hp hq
  unfold turn_Feasible.f
  by_cases hs : shE l = 0
  · rw [if_pos hs] at eb
    exact Ev.bind eb (ev_neg hb (Ev.now _))
  · rw [if_neg hs] at eb
    exact Ev.bind eb (ev_neg hb (Ev.now _))
end Go.Proofs.YtgobffgogmnmpaaDoor.Pure
