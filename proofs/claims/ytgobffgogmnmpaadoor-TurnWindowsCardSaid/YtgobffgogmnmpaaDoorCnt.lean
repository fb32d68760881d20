/- Counts of days, and what each is owed: how the walked functions reckon a deviation. Conditions: shares of the document, at most 400 days, each of a driver. -/
import Derived.Test.YtgobffgogmnmpaaDoorPx8
import Derived.Test.YtgobffgogmnmpaaDoorBase
namespace Go.Proofs.YtgobffgogmnmpaaDoor.Pure
open Go.RowKit Go.Proofs.YtgobffgogmnmpaaDoor.P Go.Proofs.YtgobffgogmnmpaaDoorW.PrintWords Go.Proofs.YtgobffgogmnmpaaDoorW.PrintLast Go.Proofs.YtgobffgogmnmpaaDoorW.PrintMore

/-- How often each was called in the first days. -/
def cnt (e : Nat → Nat) : Nat → Nat → Nat
  | 0 => fun _ => 0
  | t + 1 => bump (cnt e t) (e t)
theorem cnt_succ (e : Nat → Nat) (t : Nat) : cnt e (t + 1) = bump (cnt e t) (e t) := rfl
theorem cnt_congr {e e' : Nat → Nat} : ∀ t, (∀ τ, τ < t → e τ = e' τ) → cnt e t = cnt e' t := by
  intro t
  induction t with
  | zero => intro _; rfl
  | succ t ih => intro h; rw [cnt_succ, cnt_succ, ih (fun τ hτ => h τ (by omega)), h t (by omega)]
theorem lag_cnt (s : Nat → Int) (T : Int) (e : Nat → Nat) (i : Nat) : ∀ t, lag s T e t i = s i * (t : Int) - (cnt e t i : Int) * T := by
  intro t
  induction t with
  | zero => show (0 : Int) = s i * 0 - (0 : Int) * T; omega
  | succ t ih =>
    rw [lag_succ, ih, cnt_succ, show ((t + 1 : Nat) : Int) = (t : Int) + 1 by omega, Int.mul_add]
    by_cases h : e t = i
    · rw [if_pos h, show bump (cnt e t) (e t) i = cnt e t i + 1 by rw [h]; exact bump_self _ _, show ((cnt e t i + 1 : Nat) : Int) = (cnt e t i : Int) + 1 by omega, Int.add_mul]
      omega
    · rw [if_neg h, bump_ne _ (fun x => h x.symm)]
      omega
theorem lag_congr {s : Nat → Int} {T : Int} {e e' : Nat → Nat} {t : Nat} (h : ∀ τ, τ < t → e τ = e' τ) (i : Nat) : lag s T e t i = lag s T e' t i := by
  rw [lag_cnt, lag_cnt, cnt_congr t h]
/-- A list of counts. -/
structure Cs (cl : List Int) (n : Nat) (c : Nat → Nat) : Prop where
  len : cl.length = n
  at_ : ∀ i, i < n → cl.getD i 0 = (c i : Int)
theorem Cs.zero (n : Nat) : Cs (List.replicate n 0) n (fun _ => 0) := ⟨by simp, fun i _ => getD_replicate⟩
theorem Cs.bump {cl : List Int} {n : Nat} {c : Nat → Nat} (h : Cs cl n c) {j : Nat} (hj : j < n) {v : Int} (hv : v = cl.getD j 0 + 1) : Cs (cl.set j v) n (bump c j) := by
  refine ⟨by rw [List.length_set]; exact h.len, fun i hi => ?_⟩
  rw [getD_set (by rw [h.len]; exact hj)]
  unfold Pure.bump
  by_cases e : i = j
  · rw [if_pos e, if_pos e, hv, h.at_ j hj, e]; omega
  · rw [if_neg e, if_neg e]; exact h.at_ i hi

end Go.Proofs.YtgobffgogmnmpaaDoor.Pure
