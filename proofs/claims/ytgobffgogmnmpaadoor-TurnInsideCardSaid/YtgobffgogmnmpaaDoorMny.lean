/- A number of days out of two bytes. Conditions: none. -/
import Derived.Test.YtgobffgogmnmpaaDoorBase
namespace Go.Proofs.YtgobffgogmnmpaaDoor.Pure
open Go.RowKit Go.Proofs.YtgobffgogmnmpaaDoor.P Go.Proofs.YtgobffgogmnmpaaDoorW.PrintWords Go.Proofs.YtgobffgogmnmpaaDoorW.PrintLast Go.Proofs.YtgobffgogmnmpaaDoorW.PrintMore
theorem neq_self {a : Int} : (a != a) = false := by simp
theorem u16_bd' {a : Int} (h : (Lit.int .u16 a).wf = true) : 0 ≤ a ∧ a < 65536 := by
  have h1 : IntKind.u16.min ≤ a ∧ a ≤ IntKind.u16.max := by simpa [Lit.wf] using h
  have e0 : IntKind.u16.min = 0 := rfl
  have e1 : IntKind.u16.max = 65535 := rfl
  omega
theorem u8_bd {a : Int} (h : (Lit.int .u8 a).wf = true) : 0 ≤ a ∧ a < 256 := by
  have h1 : IntKind.u8.min ≤ a ∧ a ≤ IntKind.u8.max := by simpa [Lit.wf] using h
  have e0 : IntKind.u8.min = 0 := rfl
  have e1 : IntKind.u8.max = 255 := rfl
  omega
theorem many_of {a : Int} (h : (Lit.int .u16 a).wf = true) : ∃ n : Nat, Int.tmod (wrap64 a) 401 = (n : Int) ∧ n ≤ 400 := by
  have hb := u16_bd' h
  rw [wrap_id (by omega), Int.tmod_eq_emod_of_nonneg hb.1]
  exact ⟨(a % 401).toNat, by omega, by omega⟩
end Go.Proofs.YtgobffgogmnmpaaDoor.Pure
