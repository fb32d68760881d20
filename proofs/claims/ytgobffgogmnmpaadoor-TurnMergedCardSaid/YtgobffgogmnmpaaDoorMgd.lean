/- One driver less: the shares of two drivers on one of them, and what the merged list is owed. Conditions: as each says. -/
import Derived.Test.YtgobffgogmnmpaaDoorMrg
import Derived.Test.YtgobffgogmnmpaaDoorFdv
namespace Go.Proofs.YtgobffgogmnmpaaDoor.Pure
open Go.RowKit Go.Proofs.YtgobffgogmnmpaaDoor.P Go.Proofs.YtgobffgogmnmpaaDoorW.PrintWords Go.Proofs.YtgobffgogmnmpaaDoorW.PrintLast Go.Proofs.YtgobffgogmnmpaaDoorW.PrintMore

/-- The place in the longer list. -/
def up (b j : Nat) : Nat := if j < b then j else j + 1
theorem sm_up (f : Nat → Int) (b : Nat) : ∀ m, (m < b → sm (fun j => f (up b j)) m = sm f m) ∧ (b ≤ m → sm (fun j => f (up b j)) m = sm f (m + 1) - f b) := by
  intro m
  induction m with
  | zero =>
    refine ⟨fun _ => rfl, fun h => ?_⟩
    obtain rfl : b = 0 := by omega
    show (0 : Int) = 0 + f 0 - f 0
    omega
  | succ m ih =>
    have e : sm (fun j => f (up b j)) (m + 1) = sm (fun j => f (up b j)) m + f (up b m) := rfl
    have e2 : sm f (m + 1) = sm f m + f m := rfl
    have e3 : sm f (m + 1 + 1) = sm f (m + 1) + f (m + 1) := rfl
    refine ⟨fun h => ?_, fun h => ?_⟩
    · rw [e, ih.1 (by omega), show up b m = m from if_pos (by omega)]; rfl
    · by_cases c : b = m + 1
      · subst c
        rw [e, ih.1 (by omega), show up (m + 1) m = m from if_pos (by omega), e3]
        omega
      · rw [e, ih.2 (by omega), show up b m = m + 1 from if_neg (by omega), e3]
        omega
/-- A list of shares with b's share on a. -/
structure Mgd (l t : List Int) (a b : Nat) : Prop where
  ab : a < b
  bl : b < l.length
  len : t.length + 1 = l.length
  at_ : ∀ j, j < t.length → sh t j = sh l (up b j) + if j = a then sh l b else 0
theorem Mgd.tot {l t : List Int} {a b : Nat} (M : Mgd l t a b) : tot t = tot l := by
  have h1 := M.ab
  have h2 := M.bl
  have h3 := M.len
  unfold Pure.tot
  rw [sm_eq M.at_, sm_add (fun j => sh l (up b j)) (fun j => if j = a then sh l b else 0), (sm_up (sh l) b t.length).2 (by omega), sm_one, if_pos (by omega), h3]
  omega
theorem Mgd.good {l t : List Int} {a b : Nat} (M : Mgd l t a b) (g : Good l) (h : sh l a + sh l b ≤ 20) : Good t := by
  have h1 := M.ab
  have h2 := M.bl
  have h3 := M.len
  have h4 := g.len
  refine ⟨by omega, by omega, fun i hi => ?_, fun i hi => ?_⟩
  · rw [M.at_ i hi]
    have := g.low (up b i) (by unfold up; split <;> omega)
    have := g.low b h2
    split <;> omega
  · rw [M.at_ i hi]
    have := g.high (up b i) (by unfold up; split <;> omega)
    by_cases c : i = a
    · subst c
      rw [if_pos rfl, show up b i = i from if_pos h1]; omega
    · rw [if_neg c]; omega
theorem mday_lt {n a b : Nat} (hab : a < b) (hb : b < n) {d : Nat} (hd : d < n) : 0 ≤ mday a b d ∧ mday a b d < ((n - 1 : Nat) : Int) := by
  unfold mday
  split
  · omega
  · split <;> omega
theorem mday_is {a b : Nat} (hab : a < b) (d j : Nat) : (mday a b d).toNat = j ↔ d = up b j ∨ (j = a ∧ d = b) := by
  unfold mday up
  split
  · split <;> omega
  · split <;> split <;> omega
theorem mdays_at {days : List Int} (a b : Int) {t : Nat} (h : t < days.length) : (mdays days a b).getD t 0 = mday a b (days.getD t 0) := by
  unfold mdays
  rw [List.getD_eq_getElem?_getD, List.getD_eq_getElem?_getD, List.getElem?_map, List.getElem?_eq_getElem h]
  rfl
theorem mdays_len (days : List Int) (a b : Int) : (mdays days a b).length = days.length := by unfold mdays; rw [List.length_map]
theorem Mgd.days {l t days : List Int} {a b : Nat} (M : Mgd l t a b) (hD : Days l.length days) : Days t.length (mdays days a b) := by
  intro τ hτ
  rw [mdays_len] at hτ
  rw [mdays_at _ _ hτ, hD.val hτ]
  have := mday_lt M.ab M.bl (hD.lt hτ)
  have := M.len
  rwa [show t.length = l.length - 1 by omega]
theorem Mgd.lag {l t days : List Int} {a b : Nat} (M : Mgd l t a b) (hD : Days l.length days) {j : Nat} (hj : j < t.length) : ∀ τ, τ ≤ days.length →
    lag (sh t) (Pure.tot t) (ee (mdays days a b)) τ j = lag (sh l) (Pure.tot l) (ee days) τ (up b j) + if j = a then lag (sh l) (Pure.tot l) (ee days) τ b else 0 := by
  intro τ
  induction τ with
  | zero => intro _; show (0 : Int) = 0 + _; split <;> rfl
  | succ τ ih =>
    intro h
    have hab := M.ab
    have e1 : ee (mdays days a b) τ = (mday a b (ee days τ)).toNat := by
      show ((mdays days a b).getD τ 0).toNat = _
      rw [mdays_at _ _ (by omega), hD.val (by omega)]
    have e2 := mday_is hab (ee days τ) j
    rw [lag_succ, lag_succ, lag_succ, ih (by omega), M.at_ j hj, e1, M.tot]
    by_cases c : j = a
    · have hu : up b j = j := if_pos (by omega)
      simp only [c, if_true] at e2 ⊢
      rw [show up b a = a from if_pos hab] at e2 ⊢
      by_cases c1 : ee days τ = a
      · rw [if_pos (e2.2 (.inl c1)), if_pos c1, if_neg (by omega)]; omega
      · by_cases c2 : ee days τ = b
        · rw [if_pos (e2.2 (.inr ⟨trivial, c2⟩)), if_neg c1, if_pos c2]; omega
        · rw [if_neg (fun x => by rcases e2.1 x with y | y <;> omega), if_neg c1, if_neg c2]; omega
    · rw [if_neg c, if_neg c, if_neg c]
      by_cases c1 : ee days τ = up b j
      · rw [if_pos (e2.2 (.inl c1)), if_pos c1]; omega
      · rw [if_neg (fun x => by rcases e2.1 x with y | y <;> omega), if_neg c1]; omega
theorem Mgd.dev {l t days : List Int} {a b : Nat} (M : Mgd l t a b) (hD : Days l.length days) : dev t (mdays days a b) ≤ 2 * dev l days := by
  have h0 := dev_nonneg l days
  have hl := (dev_le h0).1 (Int.le_refl (Pure.dev l days))
  have h3 := M.len
  refine (dev_le (by omega)).2 fun τ hτ j hj => ?_
  rw [mdays_len] at hτ
  rw [M.lag hD hj τ hτ]
  have h1 := hl τ hτ (up b j) (by unfold up; split <;> omega)
  have h2 := hl τ hτ b M.bl
  split <;> omega
end Go.Proofs.YtgobffgogmnmpaaDoor.Pure
