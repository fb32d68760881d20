/- Days that a rule gives out. Conditions: none but sizes. -/
import Derived.Test.YtgobffgogmnmpaaDoorPx8
import Derived.Test.YtgobffgogmnmpaaDoorCnt
namespace Go.Proofs.YtgobffgogmnmpaaDoor.Pure
open Go.RowKit Go.Proofs.YtgobffgogmnmpaaDoor.P Go.Proofs.YtgobffgogmnmpaaDoorW.PrintWords Go.Proofs.YtgobffgogmnmpaaDoorW.PrintLast Go.Proofs.YtgobffgogmnmpaaDoorW.PrintMore

/-- The counts, when each day goes to whom a rule picks. -/
def run (pick : (Nat → Nat) → Nat → Nat) : Nat → Nat → Nat
  | 0 => fun _ => 0
  | t + 1 => bump (run pick t) (pick (run pick t) t)
def called (pick : (Nat → Nat) → Nat → Nat) (t : Nat) : Nat := pick (run pick t) t
theorem cnt_called (pick : (Nat → Nat) → Nat → Nat) : ∀ t, cnt (called pick) t = run pick t := by
  intro t
  induction t with
  | zero => rfl
  | succ t ih => rw [cnt_succ, ih]; rfl
/-- The first days as a list. -/
def lst (e : Nat → Nat) (n : Nat) : List Int := (List.range n).map fun t => (e t : Int)
theorem lst_len (e : Nat → Nat) (n : Nat) : (lst e n).length = n := by unfold lst; simp
theorem lst_succ (e : Nat → Nat) (n : Nat) : lst e (n + 1) = lst e n ++ [(e n : Int)] := by unfold lst; rw [List.range_succ, List.map_append]; rfl
theorem lst_getD (e : Nat → Nat) {n t : Nat} (h : t < n) : (lst e n).getD t 0 = (e t : Int) := by
  unfold lst
  rw [List.getD_eq_getElem?_getD, List.getElem?_map, List.getElem?_range h]; rfl
theorem lst_ee (e : Nat → Nat) {n t : Nat} (h : t < n) : ee (lst e n) t = e t := by unfold ee; rw [lst_getD e h]; exact Int.toNat_natCast _
theorem lst_take (e : Nat → Nat) {n m : Nat} (h : n ≤ m) : (lst e m).take n = lst e n := by
  refine ext_getD (by rw [List.length_take, lst_len, lst_len]; omega) fun i hi => ?_
  rw [List.length_take, lst_len] at hi
  rw [List.getD_eq_getElem?_getD, List.getElem?_take_of_lt (by omega), ← List.getD_eq_getElem?_getD, lst_getD e (by omega), lst_getD e (by omega)]
theorem lst_days {e : Nat → Nat} {n m : Nat} (h : ∀ t, t < n → e t < m) : Days m (lst e n) := by
  intro t ht
  rw [lst_len] at ht
  rw [lst_getD e ht]
  have := h t ht
  omega
/-- What a driver is owed on a day, before the call. -/
def due (l : List Int) (c : Nat → Nat) (t : Nat) (i : Nat) : Int := sh l i * ((t + 1 : Nat) : Int) - (c i : Int) * tot l

theorem due_bd {l : List Int} (g : Good l) {c : Nat → Nat} {t i : Nat} (ht : t ≤ 500) (hi : i < l.length) (hc : c i ≤ t) : 0 ≤ sh l i * ((t + 1 : Nat) : Int) ∧ sh l i * ((t + 1 : Nat) : Int) ≤ 20000 ∧ 0 ≤ (c i : Int) * tot l ∧ (c i : Int) * tot l ≤ 160000 := by
  have h1 := mul_bd (a := sh l i) (b := ((t + 1 : Nat) : Int)) (A := 20) (B := 1000) (by have := g.low i hi; omega) (g.high i hi) (by omega) (by omega)
  have h2 := mul_bd (a := (c i : Int)) (b := tot l) (A := 1000) (B := 160) (by omega) (by omega) (by have := g.tot_pos; omega) g.tot_le
  omega
theorem owed_due {l : List Int} (g : Good l) {c : Nat → Nat} {t i : Nat} (ht : t ≤ 500) (hi : i < l.length) (hc : c i ≤ t) {x : Int} (hx : x = (c i : Int)) : turn_table_owed.f l (tot l) i ((t + 1 : Nat) : Int) x = some (due l c t i) := by
  obtain ⟨h1, h2, h3, h4⟩ := due_bd g ht hi hc
  subst hx
  unfold turn_table_owed.f
  rw [if_pos (by omega), if_pos (by omega), rd_nat, show l.getD i 0 = sh l i from rfl, wrap_id (n := sh l i * _) (by omega), wrap_id (n := (c i : Int) * tot l) (by omega), wrap_id (by omega)]
  rfl

theorem run_le (pick : (Nat → Nat) → Nat → Nat) (t i : Nat) : run pick t i ≤ t := by rw [← cnt_called]; exact cnt_le _ _ _
/-- The error of shares and a number of days. -/
def maE (l : List Int) (many : Int) : Int := if shE l = 0 then (if many < 0 ∨ many > 400 then 2 else 0) else shE l
theorem ma_ok {l : List Int} {many : Int} : maE l many = 0 ↔ Good l ∧ 0 ≤ many ∧ many ≤ 400 := by
  unfold maE
  constructor
  · intro h
    by_cases hs : shE l = 0
    · rw [if_pos hs] at h
      split at h
      · cases h
      · exact ⟨sh_good.1 hs, by omega, by omega⟩
    · rw [if_neg hs] at h; exact absurd h hs
  · intro ⟨h1, h2⟩
    rw [if_pos (sh_good.2 h1), if_neg (by omega)]
end Go.Proofs.YtgobffgogmnmpaaDoor.Pure
