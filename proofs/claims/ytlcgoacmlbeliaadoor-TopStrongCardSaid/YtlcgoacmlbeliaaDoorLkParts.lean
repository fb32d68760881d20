/- What fetch.Strong computes: whether every corner is reached from every one. Conditions: two to seven corners, at most 14 arcs, each arc joins two corners. -/
import Derived.Test.YtlcgoacmlbeliaaDoorLkRead
namespace Go.Proofs.YtlcgoacmlbeliaaDoor.Str
set_option linter.unusedVariables false
set_option linter.unusedSimpArgs false
open Go.RowKit Go.Proofs.YtlcgoacmlbeliaaDoorW.PrintWords Go.Proofs.YtlcgoacmlbeliaaDoorW.PrintLast Go.Proofs.YtlcgoacmlbeliaaDoorW.PrintMore P
/-- The set of what passes. -/
def mask (p : Nat → Bool) : Nat → Nat
  | 0 => 0
  | n + 1 => mask p n ||| (if p n = true then 2 ^ n else 0)
theorem mask_bit (p : Nat → Bool) : ∀ n c, (mask p n).testBit c = true ↔ c < n ∧ p c = true
  | 0, c => by simp [mask]
  | n + 1, c => by
    unfold mask
    rw [Nat.testBit_or, Bool.or_eq_true, mask_bit p n c]
    by_cases h : p n = true
    · rw [if_pos h, two_bit]
      constructor
      · rintro (h1 | rfl)
        · exact ⟨by omega, h1.2⟩
        · exact ⟨by omega, h⟩
      · rintro ⟨h1, h2⟩
        by_cases e : c = n
        · exact .inr e
        · exact .inl ⟨by omega, h2⟩
    · rw [if_neg h, Nat.zero_testBit]
      constructor
      · rintro (h1 | h1)
        · exact ⟨by omega, h1.2⟩
        · exact absurd h1 (by decide)
      · rintro ⟨h1, h2⟩
        by_cases e : c = n
        · subst e; exact absurd h2 h
        · exact .inl ⟨by omega, h2⟩
theorem mask_lt (p : Nat → Bool) : ∀ n, mask p n < 2 ^ n
  | 0 => by simp [mask]
  | n + 1 => by
    unfold mask
    have h1 := mask_lt p n
    have h2 : 2 ^ n < 2 ^ (n + 1) := Nat.pow_lt_pow_right (by decide) (by omega)
    refine Nat.or_lt_two_pow (by omega) ?_
    split
    · exact h2
    · exact Nat.two_pow_pos _
theorem mask_le (p : Nat → Bool) {d n : Nat} (h : d ≤ n) : mask p d < 2 ^ n := Nat.lt_of_lt_of_le (mask_lt p d) (Nat.pow_le_pow_right (by decide) h)
/-- What reaches c and is reached from it. -/
def eac (ws : List (Nat × Nat)) (n c : Nat) (d : Nat) : Bool := (rs ws n c).testBit d && (rs ws n d).testBit c
theorem eac_iff {n : Nat} {ws : List (Nat × Nat)} (hw : Good ws n) {c d : Nat} (hc : c < n) (hd : d < n) : eac ws n c d = true ↔ Rc ws c d ∧ Rc ws d c := by
  unfold eac
  rw [Bool.and_eq_true, rs_iff hw hc, rs_iff hw hd]
theorem part_step {n : Nat} (h7 : n ≤ 7) {ws : List (Nat × Nat)} (hv : Fair n ws) (hl : ws.length ≤ 14) {c : Nat} (hc : c < n) {done : Nat} (hdone : done < 2 ^ n) {acc : List (List Int)} (hacc : acc.length ≤ 100) {r : List (List Int)}
    (h : Ev (fun k => fetch_quarter_parts.l0 k (acc ++ [lst (mask (eac ws n c) n) n]) ((done ||| mask (eac ws n c) n : Nat) : Int) (n : Int) ((c + 1 : Nat) : Int) (n : Int) (ws.map s39)) r) :
    Ev (fun k => fetch_quarter_parts.l1 k acc (done : Int) (c : Int) 0 (n : Int) (c : Int) (n : Int) 0 (n : Int) (ws.map s39)) r := by
  have hlt62 : ∀ {x : Nat}, x < 2 ^ n → x < 2 ^ 62 := fun h => lt62 h (by omega)
  have go : ∀ (e d : Nat), d + e = n → Ev (fun k => fetch_quarter_parts.l1 k acc (done : Int) (c : Int) ((mask (eac ws n c) d : Nat) : Int) (n : Int) (c : Int) (n : Int) (d : Int) (n : Int) (ws.map s39)) r := by
    intro e
    induction e with
    | zero =>
      intro d hd
      obtain rfl : d = n := by omega
      have hm := mask_lt (eac ws d c) d
      refine ((list_is (n := d) (by omega) hm).bind (f := fun k t280 => (if acc.length < 5864062014805 then (fetch_quarter_parts.l0 k (acc ++ [t280]) (Go.bits .or .i64 (done : Int) ((mask (eac ws d c) d : Nat) : Int)) (d : Int) (wrap64 ((c : Int) + 1)) (d : Int) (ws.map s39)) else (none))) (h.eq (fun k => ?_))).succ (fun k => ?_)
      · rw [if_pos (by omega), or_is (hlt62 hdone) (hlt62 hm), succ_is (by omega)]
      · simp only [fetch_quarter_parts.l1]
        rw [if_neg (by omega)]
    | succ e ih =>
      intro d hd
      have hdn : d < n := by omega
      have h1 := reach_is h7 hv hl hc
      have h2 := reach_is h7 hv hl hdn
      have l1 := rs_lt hv.good hc
      have l2 := rs_lt hv.good hdn
      have ih := ih (d + 1) (by omega)
      have hm : mask (eac ws n c) d < 2 ^ n := mask_le _ (by omega)
      have ms : mask (eac ws n c) (d + 1) = mask (eac ws n c) d ||| (if eac ws n c d = true then 2 ^ d else 0) := rfl
      rw [ms] at ih
      by_cases c1 : (rs ws n c).testBit d = true
      · have step2 : Ev (fun k => ((fetch_quarter_reach.f k (n : Int) (ws.map s39) (d : Int)).bind fun t287 => (if 0 ≤ (c : Int) then (if (Go.bits .and .i64 (shr .i64 t287 (c : Int)) 1) = 1 then (fetch_quarter_parts.l1 k acc (done : Int) (c : Int) (Go.bits .or .i64 ((mask (eac ws n c) d : Nat) : Int) (shl .i64 1 (d : Int))) (n : Int) (c : Int) (n : Int) (wrap64 ((d : Int) + 1)) (n : Int) (ws.map s39)) else (fetch_quarter_parts.l1 k acc (done : Int) (c : Int) ((mask (eac ws n c) d : Nat) : Int) (n : Int) (c : Int) (n : Int) (wrap64 ((d : Int) + 1)) (n : Int) (ws.map s39))) else (none)))) r := by
          refine h2.bind (f := fun k t287 => (if 0 ≤ (c : Int) then (if (Go.bits .and .i64 (shr .i64 t287 (c : Int)) 1) = 1 then (fetch_quarter_parts.l1 k acc (done : Int) (c : Int) (Go.bits .or .i64 ((mask (eac ws n c) d : Nat) : Int) (shl .i64 1 (d : Int))) (n : Int) (c : Int) (n : Int) (wrap64 ((d : Int) + 1)) (n : Int) (ws.map s39)) else (fetch_quarter_parts.l1 k acc (done : Int) (c : Int) ((mask (eac ws n c) d : Nat) : Int) (n : Int) (c : Int) (n : Int) (wrap64 ((d : Int) + 1)) (n : Int) (ws.map s39))) else (none))) (ih.eq (fun k => ?_))
          rw [if_pos (by omega), succ_is (by omega)]
          by_cases c2 : (rs ws n d).testBit c = true
          · rw [if_pos ((bit1 (hlt62 l2)).2 c2), shl_is (by omega), or_is (hlt62 hm) (Nat.pow_lt_pow_right (by decide) (by omega)), if_pos (by unfold eac; rw [c1, c2]; rfl)]
          · rw [if_neg (fun h => c2 ((bit1 (hlt62 l2)).1 h)), if_neg (by unfold eac; rw [Bool.and_eq_true]; exact fun h => c2 h.2), Nat.or_zero]
        refine (h1.bind (f := fun k t286 => (if 0 ≤ (d : Int) then (if (Go.bits .and .i64 (shr .i64 t286 (d : Int)) 1) = 1 then ((fetch_quarter_reach.f k (n : Int) (ws.map s39) (d : Int)).bind fun t287 => (if 0 ≤ (c : Int) then (if (Go.bits .and .i64 (shr .i64 t287 (c : Int)) 1) = 1 then (fetch_quarter_parts.l1 k acc (done : Int) (c : Int) (Go.bits .or .i64 ((mask (eac ws n c) d : Nat) : Int) (shl .i64 1 (d : Int))) (n : Int) (c : Int) (n : Int) (wrap64 ((d : Int) + 1)) (n : Int) (ws.map s39)) else (fetch_quarter_parts.l1 k acc (done : Int) (c : Int) ((mask (eac ws n c) d : Nat) : Int) (n : Int) (c : Int) (n : Int) (wrap64 ((d : Int) + 1)) (n : Int) (ws.map s39))) else (none))) else (fetch_quarter_parts.l1 k acc (done : Int) (c : Int) ((mask (eac ws n c) d : Nat) : Int) (n : Int) (c : Int) (n : Int) (wrap64 ((d : Int) + 1)) (n : Int) (ws.map s39))) else (none))) (step2.eq (fun k => ?_))).succ (fun k => ?_)
        · rw [if_pos (by omega), if_pos ((bit1 (hlt62 l1)).2 c1)]
        · simp only [fetch_quarter_parts.l1]
          rw [if_pos (by omega)]
      · refine (h1.bind (f := fun k t286 => (if 0 ≤ (d : Int) then (if (Go.bits .and .i64 (shr .i64 t286 (d : Int)) 1) = 1 then ((fetch_quarter_reach.f k (n : Int) (ws.map s39) (d : Int)).bind fun t287 => (if 0 ≤ (c : Int) then (if (Go.bits .and .i64 (shr .i64 t287 (c : Int)) 1) = 1 then (fetch_quarter_parts.l1 k acc (done : Int) (c : Int) (Go.bits .or .i64 ((mask (eac ws n c) d : Nat) : Int) (shl .i64 1 (d : Int))) (n : Int) (c : Int) (n : Int) (wrap64 ((d : Int) + 1)) (n : Int) (ws.map s39)) else (fetch_quarter_parts.l1 k acc (done : Int) (c : Int) ((mask (eac ws n c) d : Nat) : Int) (n : Int) (c : Int) (n : Int) (wrap64 ((d : Int) + 1)) (n : Int) (ws.map s39))) else (none))) else (fetch_quarter_parts.l1 k acc (done : Int) (c : Int) ((mask (eac ws n c) d : Nat) : Int) (n : Int) (c : Int) (n : Int) (wrap64 ((d : Int) + 1)) (n : Int) (ws.map s39))) else (none))) (ih.eq (fun k => ?_))).succ (fun k => ?_)
        · rw [if_pos (by omega), if_neg (fun h => c1 ((bit1 (hlt62 l1)).1 h)), succ_is (by omega), if_neg (by unfold eac; rw [Bool.and_eq_true]; exact fun h => c1 h.1), Nat.or_zero]
        · simp only [fetch_quarter_parts.l1]
          rw [if_pos (by omega)]
  exact (go n 0 (by omega)).eq (fun k => rfl)
theorem parts_from {n : Nat} (h7 : n ≤ 7) {ws : List (Nat × Nat)} (hv : Fair n ws) (hl : ws.length ≤ 14) : ∀ (e c done : Nat) (acc : List (List Int)), c + e = n → acc.length ≤ c → done < 2 ^ n →
    ∃ r : List (List Int), Ev (fun k => fetch_quarter_parts.l0 k acc (done : Int) (n : Int) (c : Int) (n : Int) (ws.map s39)) r ∧ acc.length ≤ r.length ∧ ((∀ c', c ≤ c' → c' < n → done.testBit c' = true) → r.length = acc.length) ∧ ((∃ c', c ≤ c' ∧ c' < n ∧ done.testBit c' = false) → acc.length + 1 ≤ r.length)
  | 0, c, done, acc, hc, _, _ => by
    refine ⟨acc, (Ev.const _).succ (fun k => ?_), Nat.le_refl _, fun _ => rfl, fun ⟨c', h1, h2, _⟩ => by omega⟩
    simp only [fetch_quarter_parts.l0]
    rw [if_neg (by omega)]
  | e + 1, c, done, acc, hc, ha, hd => by
    have h62 : done < 2 ^ 62 := lt62 hd (by omega)
    by_cases c1 : done.testBit c = true
    · obtain ⟨r, h1, h2, h3, h4⟩ := parts_from h7 hv hl e (c + 1) done acc (by omega) (by omega) hd
      refine ⟨r, h1.succ (fun k => ?_), h2, fun h => h3 (fun c' a b => h c' (by omega) b), fun ⟨c', a, b, hb⟩ => h4 ⟨c', ?_, b, hb⟩⟩
      · simp only [fetch_quarter_parts.l0]
        rw [if_pos (by omega), if_pos (by omega), if_pos ((bit1 h62).2 c1), succ_is (by omega)]
      · rcases Nat.lt_or_ge c c' with h | h
        · omega
        · obtain rfl : c' = c := by omega
          rw [c1] at hb; exact absurd hb (by decide)
    · obtain ⟨r, h1, h2, h3, h4⟩ := parts_from h7 hv hl e (c + 1) (done ||| mask (eac ws n c) n) (acc ++ [lst (mask (eac ws n c) n) n]) (by omega) (by simp; omega) (Nat.or_lt_two_pow hd (mask_lt _ _))
      rw [List.length_append, List.length_singleton] at h2
      refine ⟨r, (part_step h7 hv hl (by omega) hd (by omega) h1).succ (fun k => ?_), by omega, fun h => absurd (h c (Nat.le_refl _) (by omega)) c1, fun _ => by omega⟩
      simp only [fetch_quarter_parts.l0]
      rw [if_pos (by omega), if_pos (by omega), if_neg (fun h => c1 ((bit1 h62).1 h))]
theorem parts_is {n : Nat} (h2 : 2 ≤ n) (h7 : n ≤ 7) {ws : List (Nat × Nat)} (hv : Fair n ws) (hl : ws.length ≤ 14) :
    ∃ r : List (List Int), Ev (fun k => fetch_quarter_parts.f k (n : Int) (ws.map s39)) r ∧ (r.length = 1 ↔ All ws n) := by
  obtain ⟨r, h1, h3, h4, h5⟩ := parts_from h7 hv hl (n - 1) 1 (0 ||| mask (eac ws n 0) n) ([] ++ [lst (mask (eac ws n 0) n) n]) (by omega) (by simp) (Nat.or_lt_two_pow (Nat.two_pow_pos _) (mask_lt _ _))
  rw [Nat.zero_or] at h4 h5
  refine ⟨r, ((part_step h7 hv hl (c := 0) (done := 0) (acc := []) (by omega) (Nat.two_pow_pos _) (by simp) h1).succ (g := fun k => fetch_quarter_parts.l0 k ([] : List (List Int)) 0 (n : Int) 0 (n : Int) (ws.map s39)) (fun k => ?_)).eq (fun k => rfl), ?_⟩
  · simp only [fetch_quarter_parts.l0]
    rw [if_pos (by omega), if_pos (by omega), if_neg (by have := bit0 (x := 0) (c := 0) (by decide); have := this.2 (by decide); intro h; have e0 : ((0 : Nat) : Int) = 0 := rfl; rw [e0] at this; rw [this] at h; exact absurd h (by decide))]; rfl
  · constructor
    · intro h
      have all0 : ∀ c, c < n → Rc ws 0 c ∧ Rc ws c 0 := by
        intro c hc
        rcases Nat.eq_zero_or_pos c with rfl | hp
        · exact ⟨.refl, .refl⟩
        · refine Classical.byContradiction (fun hno => ?_)
          have hb : (mask (eac ws n 0) n).testBit c = false := by
            cases e : (mask (eac ws n 0) n).testBit c with
            | false => rfl
            | true => exact absurd ((eac_iff hv.good (by omega) hc).1 ((mask_bit _ n c).1 e).2) hno
          have := h5 ⟨c, hp, hc, hb⟩
          simp at this
          omega
      exact fun u v hu hv' => (all0 u hu).2.trans (all0 v hv').1
    · intro h
      have := h4 (fun c' _ hc => (mask_bit _ n c').2 ⟨hc, (eac_iff hv.good (by omega) hc).2 ⟨h 0 c' (by omega) hc, h c' 0 hc (by omega)⟩⟩)
      simpa using this
/-- fetch.Strong, where the streets hang together and where they don't. -/
theorem fstrong_is {n : Nat} (h2 : 2 ≤ n) (h7 : n ≤ 7) {ws : List (Nat × Nat)} (hv : Fair n ws) (hl : ws.length ≤ 14) :
    ∃ x : Bool, (x = true ↔ All ws n) ∧ Ev (fun k => fetch_Strong.f k (n : Int) (ws.map s39)) (if con ws n = 2 ^ n - 1 then (x, 0) else (false, 9)) := by
  obtain ⟨r, h1, h3⟩ := parts_is h2 h7 hv hl
  have hr := fread_is h2 h7 hv hl
  refine ⟨((r.length : Int) == 1), ?_, ?_⟩
  · rw [beq_iff_eq, ← h3]; omega
  · by_cases c : con ws n = 2 ^ n - 1
    · rw [if_pos c] at hr ⊢
      refine (hr.bind (f := fun k bt288 => (if bt288.2.2 = 0 then ((fetch_quarter_parts.f k bt288.1 bt288.2.1).bind fun t294 => (some (((t294.length : Int) == 1), 0))) else (some (false, bt288.2.2)))) (((h1.bind (f := fun _ t294 => some (((t294.length : Int) == 1), (0 : Int))) (Ev.const _))).eq (fun k => ?_))).eq (fun k => rfl)
      simp only
      rw [if_pos trivial]
    · rw [if_neg c] at hr ⊢
      refine (hr.bind (f := fun k bt288 => (if bt288.2.2 = 0 then ((fetch_quarter_parts.f k bt288.1 bt288.2.1).bind fun t294 => (some (((t294.length : Int) == 1), 0))) else (some (false, bt288.2.2)))) ((Ev.const _).eq (fun k => ?_))).eq (fun k => rfl)
      simp only
      rw [if_neg (by decide)]
end Go.Proofs.YtlcgoacmlbeliaaDoor.Str
