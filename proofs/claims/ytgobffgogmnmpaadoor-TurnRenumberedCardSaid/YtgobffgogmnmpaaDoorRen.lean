/- Other numbers for the drivers: sums, what is owed, what may be kept and the least bound stay. Conditions: as each says. -/
import Derived.Test.YtgobffgogmnmpaaDoorLea
import Derived.Test.YtgobffgogmnmpaaDoorFdv
namespace Go.Proofs.YtgobffgogmnmpaaDoor.Pure
open Go.RowKit Go.Proofs.YtgobffgogmnmpaaDoor.P Go.Proofs.YtgobffgogmnmpaaDoorW.PrintWords Go.Proofs.YtgobffgogmnmpaaDoorW.PrintLast Go.Proofs.YtgobffgogmnmpaaDoorW.PrintMore

theorem sm_swap (F : Nat → Nat → Int) (n : Nat) : ∀ m, sm (fun j => sm (fun i => F i j) n) m = sm (fun i => sm (fun j => F i j) m) n := by
  intro m
  induction m with
  | zero => show (0 : Int) = sm (fun _ => (0 : Int)) n; rw [sm_zero]
  | succ m ih =>
    show sm (fun j => sm (fun i => F i j) n) m + sm (fun i => F i m) n = sm (fun i => sm (fun j => F i j) m + F i m) n
    rw [ih, sm_add]
/-- One list of shares is the other one under new numbers. -/
structure Ren (l l' : List Int) (ρ π : Nat → Nat) : Prop where
  len : l'.length = l.length
  rl : ∀ i, i < l.length → ρ i < l.length
  pl : ∀ i, i < l.length → π i < l.length
  pr : ∀ i, i < l.length → π (ρ i) = i
  rp : ∀ i, i < l.length → ρ (π i) = i
  at_ : ∀ i, i < l.length → sh l' (ρ i) = sh l i
theorem Ren.symm {l l' : List Int} {ρ π : Nat → Nat} (R : Ren l l' ρ π) : Ren l' l π ρ := by
  have h := R.len
  refine ⟨h.symm, fun i hi => ?_, fun i hi => ?_, fun i hi => ?_, fun i hi => ?_, fun i hi => ?_⟩
  · rw [h] at hi ⊢; exact R.pl i hi
  · rw [h] at hi ⊢; exact R.rl i hi
  · rw [h] at hi; exact R.rp i hi
  · rw [h] at hi; exact R.pr i hi
  · rw [h] at hi
    have := R.at_ (π i) (R.pl i hi)
    rw [R.rp i hi] at this
    exact this.symm
theorem Ren.tot {l l' : List Int} {ρ π : Nat → Nat} (R : Ren l l' ρ π) : tot l' = tot l := by
  have h := R.len
  have e1 : sm (sh l') l.length = sm (fun j => sm (fun i => if j = ρ i then sh l i else 0) l.length) l.length := sm_eq fun j hj => by
    have e : sm (fun i => if j = ρ i then sh l i else 0) l.length = sm (fun i => if i = π j then sh l' j else 0) l.length := sm_eq fun i hi => by
      by_cases c : j = ρ i
      · rw [if_pos c, if_pos (by rw [c, R.pr i hi]), c, R.at_ i hi]
      · rw [if_neg c, if_neg (fun x => c (by rw [x, R.rp j hj]))]
    rw [e, sm_one, if_pos (R.pl j hj)]
  have e2 : sm (fun i => sm (fun j => if j = ρ i then sh l i else 0) l.length) l.length = sm (sh l) l.length := sm_eq fun i hi => by
    rw [sm_one, if_pos (R.rl i hi)]
  unfold Pure.tot
  rw [h, e1, sm_swap (fun i j => if j = ρ i then sh l i else 0), e2]
theorem Ren.good {l l' : List Int} {ρ π : Nat → Nat} (R : Ren l l' ρ π) (g : Good l) : Good l' := by
  have h := R.len
  have S := R.symm
  refine ⟨by rw [h]; exact g.len, by rw [h]; exact g.pos, fun i hi => ?_, fun i hi => ?_⟩
  · rw [← S.at_ i hi]; exact g.low _ (R.pl i (by omega))
  · rw [← S.at_ i hi]; exact g.high _ (R.pl i (by omega))
theorem Ren.lag {l l' : List Int} {ρ π : Nat → Nat} (R : Ren l l' ρ π) {e e' : Nat → Nat} {n : Nat} (he : ∀ t, t < n → e t < l.length) (hr : ∀ t, t < n → e' t = ρ (e t)) {i : Nat} (hi : i < l.length) : ∀ t, t ≤ n →
    lag (sh l') (Pure.tot l') e' t (ρ i) = lag (sh l) (Pure.tot l) e t i := by
  intro t
  induction t with
  | zero => intro _; rfl
  | succ t ih =>
    intro h
    rw [lag_succ, lag_succ, ih (by omega), R.at_ i hi, R.tot, hr t (by omega)]
    by_cases c : e t = i
    · rw [if_pos c, if_pos (by rw [c])]
    · rw [if_neg c, if_neg (fun x => c (by have := congrArg π x; rwa [R.pr _ (he t (by omega)), R.pr i hi] at this))]
theorem Ren.cnt {l l' : List Int} {ρ π : Nat → Nat} (R : Ren l l' ρ π) {e : Nat → Nat} {n : Nat} (he : ∀ t, t < n → e t < l.length) {i : Nat} (hi : i < l.length) : ∀ t, t ≤ n →
    cnt (fun t => ρ (e t)) t (ρ i) = cnt e t i := by
  intro t
  induction t with
  | zero => intro _; rfl
  | succ t ih =>
    intro h
    rw [cnt_succ, cnt_succ]
    unfold bump
    rw [ih (by omega)]
    by_cases c : i = e t
    · rw [if_pos c, if_pos (by rw [c])]
    · rw [if_neg c, if_neg (fun x => c (by have := congrArg π x; rwa [R.pr _ (he t (by omega)), R.pr i hi] at this))]
theorem Ren.fe {l l' : List Int} {ρ π : Nat → Nat} (R : Ren l l' ρ π) {m : Int} : Fe l m → Fe l' m := fun ⟨e, r, k⟩ => by
  have h := R.len
  have hT := R.tot
  refine ⟨fun t => ρ (e t), ⟨fun t ht => ?_, fun j hj => ?_⟩, fun t ht j hj => ?_⟩
  · rw [h]; rw [hT] at ht; exact R.rl _ (r.lt t ht)
  · rw [h] at hj
    have e1 := R.cnt r.lt (R.pl j hj) (Pure.tot l).toNat (Nat.le_refl _)
    have e2 := R.symm.at_ j (by omega)
    rw [R.rp j hj] at e1
    rw [hT, e1, ← e2]
    exact r.full _ (R.pl j hj)
  · rw [h] at hj; rw [hT] at ht
    have e1 := R.lag (e' := fun t => ρ (e t)) r.lt (fun _ _ => rfl) (R.pl j hj) t (by omega)
    rw [R.rp j hj] at e1
    rw [e1]
    exact k t ht _ (R.pl j hj)
theorem Ren.le {l l' : List Int} {ρ π : Nat → Nat} (R : Ren l l' ρ π) {m : Int} (a : IsLe l m) : IsLe l' m := ⟨R.fe a.fe, fun m' h x => a.low m' h (R.symm.fe x)⟩
theorem Ren.dev_le {l l' days days' : List Int} {ρ π : Nat → Nat} (R : Ren l l' ρ π) (hD : Days l.length days) (hl : days'.length = days.length) (hr : ∀ t, t < days.length → ee days' t = ρ (ee days t)) {D : Int} (h0 : 0 ≤ D) (h : dev l days ≤ D) : dev l' days' ≤ D := by
  have k := (Pure.dev_le h0).1 h
  refine (Pure.dev_le h0).2 fun t ht j hj => ?_
  rw [R.len] at hj; rw [hl] at ht
  have e1 := R.lag (fun t ht => hD.lt ht) hr (R.pl j hj) t ht
  rw [R.rp j hj] at e1
  rw [e1]
  exact k t ht _ (R.pl j hj)
theorem Ren.days {l l' days days' : List Int} {ρ π : Nat → Nat} (R : Ren l l' ρ π) (hD : Days l.length days) (hl : days'.length = days.length) (hr : ∀ t, t < days.length → days'.getD t 0 = (ρ (ee days t) : Int)) : Days l'.length days' := fun t ht => by
  rw [hr t (by omega), R.len]
  have := R.rl _ (hD.lt (show t < days.length by omega))
  omega
theorem Ren.dev {l l' days days' : List Int} {ρ π : Nat → Nat} (R : Ren l l' ρ π) (hD : Days l.length days) (hl : days'.length = days.length) (hr : ∀ t, t < days.length → days'.getD t 0 = (ρ (ee days t) : Int)) : dev l' days' = dev l days := by
  have hr' : ∀ t, t < days.length → ee days' t = ρ (ee days t) := fun t ht => by unfold ee; rw [hr t ht]; exact Int.toNat_natCast _
  have a := R.dev_le hD hl hr' (dev_nonneg l days) (Int.le_refl _)
  have b := R.symm.dev_le (R.days hD hl hr) hl.symm (fun t ht => by rw [hl] at ht; rw [hr' t ht, R.pr _ (hD.lt ht)]) (dev_nonneg l' days') (Int.le_refl _)
  omega
/-- Around by some places. -/
def rot (n c i : Nat) : Nat := if i + c < n then i + c else i + c - n
def tor (n c i : Nat) : Nat := if c ≤ i then i - c else i + n - c
theorem rot_mod {n b i : Nat} (hn : 0 < n) (hi : i < n) : (i + b) % n = rot n (b % n) i := by
  have h := Nat.mod_lt b hn
  rw [Nat.add_mod, Nat.mod_eq_of_lt hi]
  unfold rot
  split
  · exact Nat.mod_eq_of_lt (by omega)
  · rw [Nat.mod_eq_sub_mod (by omega)]
    exact Nat.mod_eq_of_lt (by omega)
theorem rot_ren {l l' : List Int} {c : Nat} (hc : c < l.length) (h : l'.length = l.length) (ha : ∀ i, i < l.length → sh l' (rot l.length c i) = sh l i) : Ren l l' (rot l.length c) (tor l.length c) :=
  ⟨h, fun i hi => by unfold rot; split <;> omega, fun i hi => by unfold tor; split <;> omega, fun i hi => by unfold rot tor; split <;> split <;> omega, fun i hi => by unfold rot tor; split <;> split <;> omega, ha⟩
theorem rot_inj {n c i j : Nat} (hi : i < n) (hj : j < n) (h : rot n c i = rot n c j) : i = j := by
  unfold rot at h; split at h <;> split at h <;> omega
theorem rot_int {n b i : Nat} (hn : 0 < n) (hi : i < n) : Int.tmod ((i : Int) + (b : Int)) (n : Int) = (rot n (b % n) i : Int) := by
  rw [← rot_mod hn hi, ← Int.natCast_add, Int.tmod_eq_emod_of_nonneg (by omega)]
  rfl
end Go.Proofs.YtgobffgogmnmpaaDoor.Pure
