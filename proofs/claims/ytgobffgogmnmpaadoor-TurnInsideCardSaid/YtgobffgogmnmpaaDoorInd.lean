/- What Windows takes has a small divisor. Conditions: numbers of 64 bits. -/
import Derived.Test.YtgobffgogmnmpaaDoorPx28
import Derived.Test.YtgobffgogmnmpaaDoorBou
namespace Go.Proofs.YtgobffgogmnmpaaDoor.Pure
open Go.RowKit Go.Proofs.YtgobffgogmnmpaaDoor.P Go.Proofs.YtgobffgogmnmpaaDoorW.PrintWords Go.Proofs.YtgobffgogmnmpaaDoorW.PrintLast Go.Proofs.YtgobffgogmnmpaaDoorW.PrintMore
theorem ev_same {α : Type} {g : Nat → Option α} {a b : α} (h : Ev g a) (h' : Ev g b) : a = b := by
  obtain ⟨n, hn⟩ := h
  obtain ⟨m, hm⟩ := h'
  have h1 := hn (n + m) (by omega)
  have h2 := hm (n + m) (by omega)
  exact Option.some.inj (h1.symm.trans h2)
theorem windows_den {l : List Int} {p q : Int} (hp : -9223372036854775808 ≤ p ∧ p ≤ 9223372036854775807) (hq : -9223372036854775808 ≤ q ∧ q ≤ 9223372036854775807) (k : Nat) (ws : List (List S51)) (h : turn_Windows.f k l p q = some (ws, 0)) : q < 1073741824 := by
  by_cases hb : bnE l p q = 0
  · have := (bn_ok.1 hb).2.1.q2; omega
  · have e := ev_same (Ev.of (g := fun k => turn_Windows.f k l p q) (fun k => turn_Windows.mono _ _ _ k) h) (Windows_bad hp hq hb)
    exact absurd (congrArg Prod.snd e).symm hb
end Go.Proofs.YtgobffgogmnmpaaDoor.Pure
