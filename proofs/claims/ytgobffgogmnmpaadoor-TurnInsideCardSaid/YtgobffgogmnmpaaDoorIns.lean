/- Windows of greater bounds contain those of lesser ones, and a round keeps a bound exactly if its days lie in their windows. Conditions: as each says. -/
import Derived.Test.YtgobffgogmnmpaaDoorAto
import Derived.Test.YtgobffgogmnmpaaDoorRnd
namespace Go.Proofs.YtgobffgogmnmpaaDoor.Pure
open Go.RowKit Go.Proofs.YtgobffgogmnmpaaDoor.P Go.Proofs.YtgobffgogmnmpaaDoorW.PrintWords Go.Proofs.YtgobffgogmnmpaaDoorW.PrintLast Go.Proofs.YtgobffgogmnmpaaDoorW.PrintMore

theorem cross_le {X T p q p' q' : Int} (hq : 0 < q) (hq' : 0 < q') (hT : 0 ≤ T) (h : X * q ≤ p * T) (hb : p * q' ≤ p' * q) : X * q' ≤ p' * T := by
  have h1 : X * q * q' ≤ p * T * q' := Int.mul_le_mul_of_nonneg_right h (Int.le_of_lt hq')
  have h2 : p * q' * T ≤ p' * q * T := Int.mul_le_mul_of_nonneg_right hb hT
  have e1 : X * q * q' = X * q' * q := Int.mul_right_comm X q q'
  have e2 : p * T * q' = p * q' * T := Int.mul_right_comm p T q'
  have e3 : p' * q * T = p' * T * q := Int.mul_right_comm p' q T
  exact Int.le_of_mul_le_mul_right (by rw [← e1, ← e3]; rw [e2] at h1; exact Int.le_trans h1 h2) hq
theorem PW.form {s T k d p q : Int} : PW (s * q) (T * q) (p * T) k d ↔ (k * T - s * (d + 1)) * q ≤ p * T ∧ (s * d - (k - 1) * T) * q ≤ p * T := by
  unfold PW
  have e1 : k * (T * q) = k * T * q := (Int.mul_assoc k T q).symm
  have e2 : (k - 1) * (T * q) = (k - 1) * T * q := (Int.mul_assoc (k - 1) T q).symm
  have e3 : s * q * (d + 1) = s * (d + 1) * q := Int.mul_right_comm s q (d + 1)
  have e4 : s * q * d = s * d * q := Int.mul_right_comm s q d
  have f1 : (k * T - s * (d + 1)) * q = k * T * q - s * (d + 1) * q := Int.sub_mul ..
  have f2 : (s * d - (k - 1) * T) * q = s * d * q - (k - 1) * T * q := Int.sub_mul ..
  rw [e1, e2, e3, e4, f1, f2]
  constructor
  · rintro ⟨a, b⟩; omega
  · rintro ⟨a, b⟩; omega
theorem PW.grow {s T k d p q p' q' : Int} (hq : 0 < q) (hq' : 0 < q') (hT : 0 ≤ T) (hb : p * q' ≤ p' * q) (h : PW (s * q) (T * q) (p * T) k d) : PW (s * q') (T * q') (p' * T) k d :=
  PW.form.2 ⟨cross_le hq hq' hT (PW.form.1 h).1 hb, cross_le hq hq' hT (PW.form.1 h).2 hb⟩
theorem IsWin.grow {P P' : Int → Prop} {T : Int} {w w' : Int × Int} (hP : ∀ d, P d → P' d) (h : IsWin P T w) (h' : IsWin P' T w') (hw : w.1 ≤ w.2) : w'.1 ≤ w.1 ∧ w.2 ≤ w'.2 := by
  rcases h with ⟨rfl, _⟩ | ⟨a1, a2, a3, a4, a5, a6⟩
  · exact absurd (show (0 : Int) ≤ -1 from hw) (by omega)
  · rcases h' with ⟨_, b⟩ | ⟨b1, b2, b3, b4, b5, b6⟩
    · exact absurd (hP _ a4) (b _ a1 (by omega))
    · exact ⟨(b6 _ a1 (by omega) (hP _ a4)).1, (b6 _ (by omega) a3 (hP _ a5)).2⟩
/-- The deviation held against a bound. -/
theorem dev_keeps {l days : List Int} {p q : Int} (hq : 0 < q) (hp : 0 ≤ p) (hT : 0 ≤ tot l) (hl : (days.length : Int) = tot l) :
    (∀ t : Nat, (t : Int) ≤ tot l → ∀ i, i < l.length → -(p * tot l) ≤ lag (sh l) (tot l) (ee days) t i * q ∧ lag (sh l) (tot l) (ee days) t i * q ≤ p * tot l) ↔ dev l days * q ≤ p * tot l := by
  have hD : 0 ≤ p * tot l / q := Int.ediv_nonneg (Int.mul_nonneg hp hT) (Int.le_of_lt hq)
  rw [← Int.le_ediv_iff_mul_le hq, dev_le hD]
  have key : ∀ x : Int, (-(p * tot l) ≤ x * q ∧ x * q ≤ p * tot l) ↔ (-(p * tot l / q) ≤ x ∧ x ≤ p * tot l / q) := fun x => by
    have a := Int.le_ediv_iff_mul_le (a := x) (b := p * tot l) hq
    have b := Int.le_ediv_iff_mul_le (a := -x) (b := p * tot l) hq
    rw [Int.neg_mul] at b
    constructor
    · rintro ⟨h1, h2⟩
      have := b.2 (by omega)
      exact ⟨by omega, a.2 h2⟩
    · rintro ⟨h1, h2⟩
      have := b.1 (by omega)
      exact ⟨by omega, a.1 h2⟩
  exact ⟨fun h t ht j hj => (key _).1 (h t (by omega) j hj), fun h t ht j hj => (key _).2 (h t (by omega) j hj)⟩
/-- Days as whole numbers. -/
def nl (days : List Int) : List Nat := days.map Int.toNat
theorem nl_len (days : List Int) : (nl days).length = days.length := by unfold nl; rw [List.length_map]
theorem nl_el (days : List Int) (t : Nat) : el (nl days) t = ee days t := by
  unfold el ee nl
  rw [List.getD_eq_getElem?_getD, List.getElem?_map, List.getD_eq_getElem?_getD]
  cases days[t]? <;> rfl
theorem nl_drop {days : List Int} {t : Nat} (h : t < days.length) : (nl days).drop t = ee days t :: (nl days).drop (t + 1) := by
  have h' : t < (nl days).length := by rw [nl_len]; exact h
  rw [List.drop_eq_getElem_cons h']
  congr 1
  rw [← nl_el days t]
  unfold el
  rw [List.getD_eq_getElem?_getD, List.getElem?_eq_getElem h']
  rfl
theorem comp_dev {l days : List Int} {p q : Int} {ws : List (List S51)} {g : Good l} {b : Bnd p q} {h : WsIs l p q ws} (hl : (days.length : Int) = tot l) (r : IsRound l (ee days)) :
    Comp (cl l p q ws g b h) (fun _ => 0) 0 (nl days) ↔ dev l days * q ≤ p * tot l := by
  have hT := g.tot_pos
  have e : ∀ t, t < (tot l).toNat → el (nl days) t = ee days t := fun t _ => nl_el days t
  rw [← dev_keeps (days := days) (by have := b.q1; omega) b.p0 (by omega) hl]
  constructor
  · intro hC t ht i hi
    rw [← lag_congr (e := el (nl days)) (fun τ hτ => e τ (by omega)) i]
    exact (comp_round hC).2.2 t ht i hi
  · intro hk
    refine round_comp (by rw [nl_len]; exact hl) (round_congr (fun t ht => (e t ht).symm) r) fun t ht i hi => ?_
    rw [lag_congr (e := el (nl days)) (fun τ hτ => e τ (by omega)) i]
    exact hk t ht i hi
end Go.Proofs.YtgobffgogmnmpaaDoor.Pure
