/- Rounds as lists of days: their deviation, and that it is the least one for Round. Conditions: shares of the document. -/
import Derived.Test.YtgobffgogmnmpaaDoorRou
import Derived.Test.YtgobffgogmnmpaaDoorFdv
namespace Go.Proofs.YtgobffgogmnmpaaDoor.Pure
open Go.RowKit Go.Proofs.YtgobffgogmnmpaaDoor.P Go.Proofs.YtgobffgogmnmpaaDoorW.PrintWords Go.Proofs.YtgobffgogmnmpaaDoorW.PrintLast Go.Proofs.YtgobffgogmnmpaaDoorW.PrintMore

theorem il_getD (σ : List Nat) (t : Nat) : (il σ).getD t 0 = (σ.getD t 0 : Int) := by
  unfold il
  rw [List.getD_eq_getElem?_getD, List.getElem?_map, List.getD_eq_getElem?_getD]
  cases σ[t]? <;> rfl
theorem il_ee (σ : List Nat) (t : Nat) : ee (il σ) t = el σ t := by unfold ee; rw [il_getD]; exact Int.toNat_natCast _
theorem keeps_dev {l days : List Int} {m : Int} (h0 : 0 ≤ m) (hl : (days.length : Int) = tot l) : Keeps l (ee days) m ↔ dev l days ≤ m := by
  rw [dev_le h0]
  exact ⟨fun h t ht j hj => h t (by omega) j hj, fun h t ht j hj => h t (by omega) j hj⟩
theorem keeps_congr {l : List Int} {e e' : Nat → Nat} {m : Int} (h : ∀ t, t < (tot l).toNat → e t = e' t) (k : Keeps l e m) : Keeps l e' m := fun t ht i hi => by
  rw [← lag_congr (e := e) (fun τ hτ => h τ (by omega)) i]; exact k t ht i hi
theorem IsLe.dev {l days : List Int} {m : Int} (a : IsLe l m) (hl : (days.length : Int) = tot l) (r : IsRound l (ee days)) : m ≤ dev l days :=
  Int.not_lt.1 fun h => a.low _ h ⟨ee days, r, (keeps_dev (dev_nonneg _ _) hl).2 (Int.le_refl _)⟩
/-- The deviation of the round that Round makes is the least one. -/
theorem IsRou.dev {l : List Int} (g : Good l) {m : Int} (a : IsLe l m) {σ : List Nat} (s : IsRou l m σ) : dev l (il σ) = m := by
  have e : ∀ t, t < (tot l).toNat → el σ t = ee (il σ) t := fun t _ => (il_ee σ t).symm
  have h1 := a.dev (days := il σ) (by rw [il_len]; exact s.len) (round_congr e s.round)
  have h2 := (keeps_dev (a.nonneg g) (by rw [il_len]; exact s.len)).1 (keeps_congr e s.keeps)
  omega
theorem IsRou.days {l : List Int} {m : Int} {σ : List Nat} (s : IsRou l m σ) : Days l.length (il σ) := fun t ht => by
  rw [il_len] at ht
  rw [il_getD]
  have h1 := s.len
  have h2 := s.round.lt t (by omega)
  have h3 : σ.getD t 0 = el σ t := rfl
  omega
theorem IsRou.sd {l : List Int} (g : Good l) {m : Int} {σ : List Nat} (s : IsRou l m σ) : sdE l (il σ) = 0 :=
  sd_ok.2 ⟨g, by rw [il_len]; have := s.len; have := g.tot_le; omega, s.days⟩
end Go.Proofs.YtgobffgogmnmpaaDoor.Pure
