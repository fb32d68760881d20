/- Windows of greater bounds contain those of lesser ones, and a round keeps a bound exactly if its days lie in their windows. Conditions: as each says. -/
import Derived.Test.YtgobffgogmnmpaaDoorAto
import Derived.Test.YtgobffgogmnmpaaDoorRnd
namespace Go.Proofs.YtgobffgogmnmpaaDoor.Pure
open Go.RowKit Go.Proofs.YtgobffgogmnmpaaDoor.P Go.Proofs.YtgobffgogmnmpaaDoorW.PrintWords Go.Proofs.YtgobffgogmnmpaaDoorW.PrintLast Go.Proofs.YtgobffgogmnmpaaDoorW.PrintMore

theorem PW.form {s T k d p q : Int} : PW (s * q) (T * q) (p * T) k d ↔ (k * T - s * (d + 1)) * q ≤ p * T ∧ (s * d - (k - 1) * T) * q ≤ p * T := by
  unfold PW
  have e1 : k * (T * q) = k * T * q := (Int.mul_assoc k T q).symm
  have e2 : (k - 1) * (T * q) = (k - 1) * T * q := (Int.mul_assoc (k - 1) T q).symm
  have e3 : s * q * (d + 1) = s * (d + 1) * q := Int.mul_right_comm s q (d + 1)
  have e4 : s * q * d = s * d * q := Int.mul_right_comm s q d
  have f1 : (k * T - s * (d + 1)) * q = k * T * q - s * (d + 1) * q := Int.sub_mul ..
  have f2 : (s * d - (k - 1) * T) * q = s * d * q - (k - 1) * T * q := Int.sub_mul ..
  rw [e1, e2, e3, e4, f1, f2]
  constructor
  · rintro ⟨a, b⟩; omega
  · rintro ⟨a, b⟩; omega
end Go.Proofs.YtgobffgogmnmpaaDoor.Pure
