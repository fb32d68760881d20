/- Turning the needs, and reading them backwards, changes no plan's size. Conditions: one to twelve hours. -/
import Derived.Test.YtfopdfolbdmnjaaPx22
import Derived.Test.YtfopdfolbdmnjaaShare
namespace Go.Proofs.Ytfopdfolbdmnjaa.Pure
open Go.RowKit Go.Proofs.Ytfopdfolbdmnjaa.P Go.Proofs.YtfopdfolbdmnjaaW.PrintWords Go.Proofs.YtfopdfolbdmnjaaW.PrintLast Go.Proofs.YtfopdfolbdmnjaaW.PrintMore

/-- Where the turned needs begin. -/
theorem start_eq (n a : Int) (h0 : 0 < n) (h1 : n ≤ 12) : Int.tmod (wrap64 ((Int.tmod a n) + n)) n = a % n ∧ (Int.tmod a n < 0 → wrap64 ((Int.tmod a n) + n) = a % n) ∧ (¬ Int.tmod a n < 0 → Int.tmod a n = a % n) := by
  have e : Int.tmod a n = a % n ∨ Int.tmod a n = a % n - n := by
    rw [Int.tmod_eq_emod]
    split
    · left; omega
    · right; omega
  have p := Int.emod_nonneg a (show n ≠ 0 by omega)
  have q := Int.emod_lt_of_pos a h0
  rcases e with e | e
  · rw [e, wrap_id (by omega)]
    refine ⟨?_, fun h => by omega, fun _ => rfl⟩
    rw [Int.tmod_eq_emod_of_nonneg (by omega), Int.add_emod_right, Int.emod_emod]
  · rw [e, wrap_id (by omega)]
    refine ⟨?_, fun h => by omega, fun h => by omega⟩
    rw [show a % n - n + n = a % n by omega, Int.tmod_eq_emod_of_nonneg (by omega), Int.emod_emod]
def turned (l : List Int) (a : Int) : List Int := l.drop (a % (l.length : Int)).toNat ++ l.take (a % (l.length : Int)).toNat
theorem read_one (l : List Int) : needsE l = 0 → dayE l 1 = 0 := fun h => by
  obtain ⟨h1, h2, h3, h4⟩ := needs_zero.1 h
  exact day_good.2 ⟨h1, h2, h3, h4, by omega, by omega⟩
theorem shift_turned (l : List Int) (a : Int) : Ev (fun k => shift_Turned.f k l a) (if needsE l = 0 then (turned l a, 0) else ([], needsE l)) := by
  unfold shift_Turned.f
  by_cases h : needsE l = 0
  · obtain ⟨h1, h2, h3, h4⟩ := needs_zero.1 h
    obtain ⟨s1, s2, s3⟩ := start_eq l.length a (by omega) (by omega)
    have p := Int.emod_nonneg a (show (l.length : Int) ≠ 0 by omega)
    have q := Int.emod_lt_of_pos a (show 0 < (l.length : Int) by omega)
    rw [if_pos h]
    refine Ev.bind (read_good (day_good.1 (read_one l h))) (ev_pos rfl (ev_neg (by omega) ?_))
    rw [s1]
    refine ev_pos p (ev_pos (by omega) (Ev.bind (clone_f _ (by simp only [List.length_drop]; omega)) (ev_pos (by simp only [List.length_drop, List.length_take]; omega) (Ev.now _))))
  · rw [if_neg h]
    have e : dayE l 1 = needsE l := if_neg h
    refine Ev.bind (read_bad (by rw [e]; exact h)) (ev_neg ?_ ?_)
    · exact fun h' => h (e ▸ h')
    · rw [← e]; exact Ev.now _
theorem turned_len (l : List Int) (a : Int) : (turned l a).length = l.length := by
  simp only [turned, List.length_append, List.length_drop, List.length_take]; omega

/-- The plan's partial sums, over all days. -/
structure CZ (l : List Int) (t : Nat) (T S : Int) (Y : Int → Int) : Prop where
  per : ∀ v, Y (v + l.length) = Y v + S
  up : ∀ v, Y v ≤ Y (v + 1)
  cov : ∀ h : Nat, h < l.length → Y ((h : Int) + 1 - t) + l.getD h 0 * T ≤ Y ((h : Int) + 1)
theorem cz_can {l : List Int} {t : Nat} {T S : Int} {Y : Int → Int} (c : CZ l t T S Y) (tn : t ≤ l.length) : Can l t T S [] := by
  refine ⟨fun v => Y v, ⟨?_, ?_, ?_, ?_⟩, fun j hj => absurd hj (Nat.not_lt_zero _)⟩
  · have := c.per 0
    rwa [Int.zero_add] at this
  · intro h hl; have := c.up h; rwa [← Int.natCast_one, ← Int.natCast_add] at this
  · intro h hl ht
    have := c.cov h hl
    rw [show (h : Int) + 1 - t = ((h + 1 - t : Nat) : Int) by omega, show (h : Int) + 1 = ((h + 1 : Nat) : Int) by omega] at this
    exact this
  · intro h hl ht
    have h1 := c.cov h hl
    have h2 := c.per ((h : Int) + 1 - t)
    rw [show (h : Int) + 1 - t + l.length = ((l.length + (h + 1) - t : Nat) : Int) by omega] at h2
    rw [show (h : Int) + 1 = ((h + 1 : Nat) : Int) by omega] at h1 h2
    show Y ((l.length + (h + 1) - t : Nat) : Int) + l.getD h 0 * T - S ≤ Y ((h + 1 : Nat) : Int)
    omega
theorem can_cz {l : List Int} {t : Nat} {T S : Int} (hp : 0 < l.length) (t1 : 1 ≤ t) (tn : t ≤ l.length) : Can l t T S [] → ∃ Y, CZ l t T S Y := by
  intro ⟨y, c, _⟩
  have hn : (0 : Int) < l.length := by omega
  have per : ∀ v : Int, (fun v : Int => y (v % l.length).toNat + S * (v / l.length)) (v + l.length) = (fun v : Int => y (v % l.length).toNat + S * (v / l.length)) v + S := by
    intro v
    show y ((v + l.length) % l.length).toNat + S * ((v + l.length) / l.length) = y (v % l.length).toNat + S * (v / l.length) + S
    rw [Int.add_emod_right, Int.add_ediv_of_dvd_right (Int.dvd_refl _), Int.ediv_self (by omega), Int.mul_add]
    omega
  have at_ : ∀ h : Nat, h ≤ l.length → (fun v : Int => y (v % l.length).toNat + S * (v / l.length)) h = y h := by
    intro h hh
    show y ((h : Int) % l.length).toNat + S * ((h : Int) / l.length) = y h
    by_cases e : h = l.length
    · rw [e, Int.emod_self, Int.ediv_self (by omega)]
      have := c.size
      show y 0 + S * 1 = _
      omega
    · rw [Int.emod_eq_of_lt (by omega) (by omega), Int.ediv_eq_zero_of_lt (by omega) (by omega)]
      rw [Int.toNat_natCast]; omega
  have up : ∀ v : Int, y (v % l.length).toNat + S * (v / l.length) ≤ y ((v + 1) % l.length).toNat + S * ((v + 1) / l.length) := by
    intro v
    have e := Int.emod_add_mul_ediv v l.length
    have p := Int.emod_nonneg v (show (l.length : Int) ≠ 0 by omega)
    have q := Int.emod_lt_of_pos v hn
    have h1 : (v + 1) % l.length = (v % l.length + 1) % l.length := by
      rw [Int.add_emod v 1, Int.add_emod (v % l.length) 1, Int.emod_emod]
    have h2 : (v + 1) / l.length = (v % l.length + 1) / l.length + v / l.length := by
      have : v + 1 = (v % l.length + 1) + l.length * (v / l.length) := by omega
      rw [this, Int.add_mul_ediv_left _ _ (by omega)]
    have h3 := at_ ((v % l.length).toNat + 1) (by omega)
    have h4 : (fun v : Int => y (v % l.length).toNat + S * (v / l.length)) (((v % l.length).toNat + 1 : Nat) : Int) = y ((v % l.length + 1) % l.length).toNat + S * ((v % l.length + 1) / l.length) := by
      show y ((((v % l.length).toNat + 1 : Nat) : Int) % l.length).toNat + S * ((((v % l.length).toNat + 1 : Nat) : Int) / l.length) = _
      rw [show (((v % l.length).toNat + 1 : Nat) : Int) = v % l.length + 1 by omega]
    rw [h4] at h3
    rw [h1, h2, Int.mul_add]
    have h5 := c.up (v % l.length).toNat (by omega)
    omega
  obtain ⟨Y, per, at_, up⟩ : ∃ Y : Int → Int, (∀ v, Y (v + l.length) = Y v + S) ∧ (∀ h : Nat, h ≤ l.length → Y h = y h) ∧ ∀ v, Y v ≤ Y (v + 1) := ⟨_, per, at_, up⟩
  refine ⟨Y, per, up, ?_⟩
  · intro h hl
    have a1 := at_ (h + 1) (by omega)
    rw [show (h : Int) + 1 = ((h + 1 : Nat) : Int) by omega, a1]
    by_cases ht : t ≤ h + 1
    · rw [show ((h + 1 : Nat) : Int) - t = ((h + 1 - t : Nat) : Int) by omega, at_ _ (by omega)]
      exact c.low h hl ht
    · have h2 := per (((h + 1 : Nat) : Int) - t)
      rw [show ((h + 1 : Nat) : Int) - t + l.length = ((l.length + (h + 1) - t : Nat) : Int) by omega, at_ _ (by omega)] at h2
      have h3 := c.wrap h hl (by omega)
      omega
def rot (r : Nat) (l : List Int) : List Int := l.drop r ++ l.take r
theorem rot_len (r : Nat) (l : List Int) : (rot r l).length = l.length := by
  simp only [rot, List.length_append, List.length_drop, List.length_take]; omega
theorem rot_get {r : Nat} {l : List Int} (hr : r ≤ l.length) {h : Nat} (hh : h < l.length) : (rot r l).getD h 0 = if h + r < l.length then l.getD (h + r) 0 else l.getD (h + r - l.length) 0 := by
  unfold rot
  rw [List.getD_eq_getElem?_getD]
  by_cases c : h + r < l.length
  · rw [if_pos c, List.getElem?_append_left (by rw [List.length_drop]; omega), List.getElem?_drop, List.getD_eq_getElem?_getD, Nat.add_comm]
  · rw [if_neg c, List.getElem?_append_right (by rw [List.length_drop]; omega), List.length_drop, List.getElem?_take_of_lt (by omega), List.getD_eq_getElem?_getD]
    congr 2; omega
theorem can_rot {l : List Int} {t : Nat} {T S : Int} (hp : 0 < l.length) (t1 : 1 ≤ t) (tn : t ≤ l.length) {r : Nat} (hr : r ≤ l.length) (h : Can l t T S []) : Can (rot r l) t T S [] := by
  obtain ⟨Y, c⟩ := can_cz hp t1 tn h
  refine cz_can (Y := fun v => Y (v + r)) ⟨?_, ?_, ?_⟩ (by rw [rot_len]; exact tn)
  · intro v
    show Y (v + (rot r l).length + r) = Y (v + r) + S
    rw [rot_len, ← c.per]; congr 1; omega
  · intro v
    show Y (v + r) ≤ Y (v + 1 + r)
    have := c.up (v + r)
    rwa [show v + (r : Int) + 1 = v + 1 + r by omega] at this
  · intro h hh
    rw [rot_len] at hh
    show Y ((h : Int) + 1 - t + r) + (rot r l).getD h 0 * T ≤ Y ((h : Int) + 1 + r)
    rw [rot_get hr hh]
    by_cases cc : h + r < l.length
    · rw [if_pos cc]
      have := c.cov (h + r) cc
      rwa [show ((h + r : Nat) : Int) + 1 - t = (h : Int) + 1 - t + r by omega, show ((h + r : Nat) : Int) + 1 = (h : Int) + 1 + r by omega] at this
    · rw [if_neg cc]
      have h1 := c.cov (h + r - l.length) (by omega)
      have h2 := c.per (((h + r - l.length : Nat) : Int) + 1 - t)
      have h3 := c.per (((h + r - l.length : Nat) : Int) + 1)
      rw [show ((h + r - l.length : Nat) : Int) + 1 - t + l.length = (h : Int) + 1 - t + r by omega] at h2
      rw [show ((h + r - l.length : Nat) : Int) + 1 + l.length = (h : Int) + 1 + r by omega] at h3
      omega
theorem rot_back {l : List Int} {r : Nat} : rot (l.length - r) (rot r l) = l := by
  have h1 : (l.drop r).length = l.length - r := List.length_drop ..
  unfold rot
  rw [← h1, List.drop_left, List.take_left, List.take_append_drop]
theorem can_rot_iff {l : List Int} {t : Nat} {T S : Int} (hp : 0 < l.length) (t1 : 1 ≤ t) (tn : t ≤ l.length) {r : Nat} (hr : r ≤ l.length) : Can (rot r l) t T S [] ↔ Can l t T S [] := by
  constructor
  · intro h
    have := can_rot (by rw [rot_len]; exact hp) t1 (by rw [rot_len]; exact tn) (r := l.length - r) (by rw [rot_len]; omega) h
    rwa [rot_back] at this
  · exact can_rot hp t1 tn hr
theorem rev_get {l : List Int} {h : Nat} (hh : h < l.length) : l.reverse.getD h 0 = l.getD (l.length - 1 - h) 0 := by
  rw [List.getD_eq_getElem?_getD, List.getElem?_reverse hh, List.getD_eq_getElem?_getD]
theorem can_rev {l : List Int} {t : Nat} {T S : Int} (hp : 0 < l.length) (t1 : 1 ≤ t) (tn : t ≤ l.length) (h : Can l t T S []) : Can l.reverse t T S [] := by
  obtain ⟨Y, c⟩ := can_cz hp t1 tn h
  refine cz_can (Y := fun v => - Y ((l.length : Int) + 1 - t - v)) ⟨?_, ?_, ?_⟩ (by rw [List.length_reverse]; exact tn)
  · intro v
    show - Y ((l.length : Int) + 1 - t - (v + l.reverse.length)) = - Y ((l.length : Int) + 1 - t - v) + S
    have := c.per ((l.length : Int) + 1 - t - (v + l.length))
    rw [show (l.length : Int) + 1 - t - (v + l.length) + l.length = (l.length : Int) + 1 - t - v by omega] at this
    rw [List.length_reverse]; omega
  · intro v
    show - Y ((l.length : Int) + 1 - t - v) ≤ - Y ((l.length : Int) + 1 - t - (v + 1))
    have := c.up ((l.length : Int) + 1 - t - (v + 1))
    rw [show (l.length : Int) + 1 - t - (v + 1) + 1 = (l.length : Int) + 1 - t - v by omega] at this
    omega
  · intro h hh
    rw [List.length_reverse] at hh
    show - Y ((l.length : Int) + 1 - t - ((h : Int) + 1 - t)) + l.reverse.getD h 0 * T ≤ - Y ((l.length : Int) + 1 - t - ((h : Int) + 1))
    rw [rev_get hh]
    have := c.cov (l.length - 1 - h) (by omega)
    rw [show ((l.length - 1 - h : Nat) : Int) + 1 - t = (l.length : Int) + 1 - t - ((h : Int) + 1) by omega, show ((l.length - 1 - h : Nat) : Int) + 1 = (l.length : Int) + 1 - t - ((h : Int) + 1 - t) by omega] at this
    omega
theorem can_rev_iff {l : List Int} {t : Nat} {T S : Int} (hp : 0 < l.length) (t1 : 1 ≤ t) (tn : t ≤ l.length) : Can l.reverse t T S [] ↔ Can l t T S [] := by
  constructor
  · intro h
    have := can_rev (by rw [List.length_reverse]; exact hp) t1 (by rw [List.length_reverse]; exact tn) h
    rwa [List.reverse_reverse] at this
  · exact can_rev hp t1 tn
theorem isL_congr {l l' : List Int} {t : Nat} (h : ∀ T S : Int, Can l' t T S [] ↔ Can l t T S []) (T L : Int) : IsL l t T L ↔ IsL l' t T L := by
  constructor
  · intro ⟨a, b⟩; exact ⟨(h T L).2 a, fun S hS hc => b S hS ((h T S).1 hc)⟩
  · intro ⟨a, b⟩; exact ⟨(h T L).1 a, fun S hS hc => b S hS ((h T S).2 hc)⟩
end Go.Proofs.Ytfopdfolbdmnjaa.Pure
