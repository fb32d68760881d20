/- What solve answers: whether the bounds can be kept. Conditions: the bounds' ends are nodes below 13, their weights are small. -/
import Derived.Test.YtfopdfolbdmnjaaPx4
import Derived.Test.YtfopdfolbdmnjaaBase
import Derived.Test.YtfopdfolbdmnjaaFord
namespace Go.Proofs.Ytfopdfolbdmnjaa.Pure
open Go.RowKit Go.Proofs.Ytfopdfolbdmnjaa.P Go.Proofs.YtfopdfolbdmnjaaW.PrintWords Go.Proofs.YtfopdfolbdmnjaaW.PrintLast Go.Proofs.YtfopdfolbdmnjaaW.PrintMore

def fn (l : List Int) : Nat → Int := fun v => l.getD v 0
theorem fn_set (l : List Int) (b : Nat) (z : Int) (h : b < l.length) : fn (l.set b z) = fun v => if v = b then z else fn l v := by
  funext v
  unfold fn
  rw [List.getD_eq_getElem?_getD, List.getD_eq_getElem?_getD, List.getElem?_set]
  by_cases e : b = v
  · subst e
    simp only [if_true, h, Option.getD_some]
  · rw [if_neg e, if_neg (fun h => e h.symm)]
theorem rd_fn (l : List Int) {i : Int} (_ : 0 ≤ i) : rd l i = fn l i.toNat := rfl
theorem fn_rep (n : Nat) : fn (List.replicate n 0) = zero := by
  funext v
  unfold fn zero
  rw [List.getD_eq_getElem?_getD, List.getElem?_replicate]
  split <;> rfl

def arcP (b : S72) : Arc := (b.f0.toNat, b.f1.toNat, b.f2)
/-- A bound between nodes below N, of a weight of at most a million. -/
structure OkP (N : Int) (b : S72) : Prop where
  a0 : 0 ≤ b.f0
  a1 : b.f0 < N
  b0 : 0 ≤ b.f1
  b1 : b.f1 < N
  w0 : -1000000 ≤ b.f2
  w1 : b.f2 ≤ 1000000

theorem relaxL_spec : ∀ (l : List S72) (j : Int) (now by_ : List Int) (ch C : Int), (∀ b, b ∈ l → OkP 13 b) → now.length = 13 → (∀ v, 0 ≤ fn now v ∧ fn now v ≤ C) → C + 1000000 * (l.length + 1 : Int) < 4611686018427387904 → 0 ≤ j →
    ∃ now' by' ch', relaxL l j now by_ ch = some (now', by', ch') ∧ now'.length = 13 ∧ fn now' = round (l.map arcP) (fn now) ∧ (∀ v, 0 ≤ fn now' v ∧ fn now' v ≤ C + 1000000 * (l.length : Int)) ∧
      ((Sat (l.map arcP) (fn now) ∧ now' = now ∧ by' = by_ ∧ ch' = ch) ∨ (¬ Sat (l.map arcP) (fn now) ∧ 0 ≤ ch')) ∧ (0 ≤ ch → 0 ≤ ch') ∧
      by'.length = by_.length ∧ (∀ x, x ∈ by' → x ∈ by_ ∨ (j ≤ x ∧ x < j + (l.length : Int))) := by
  intro l
  induction l with
  | nil =>
    intro j now by_ ch C _ hn hb _ _
    refine ⟨now, by_, ch, rfl, hn, rfl, ?_, .inl ⟨(fun a ha => by cases ha), rfl, rfl, rfl⟩, id, rfl, fun x hx => .inl hx⟩
    intro v; have := hb v; simp only [List.length_nil]; omega
  | cons b t ih =>
    intro j now by_ ch C hok hn hb hC hj
    have ob := hok b (List.mem_cons_self ..)
    have hok' : ∀ b, b ∈ t → OkP 13 b := fun b' hb' => hok b' (List.mem_cons_of_mem _ hb')
    simp only [List.length_cons] at hC ⊢
    obtain ⟨a0, a1, b0, b1, w0, w1⟩ := ob
    have hA := hb b.f0.toNat
    have hB := hb b.f1.toNat
    have hw : wrap64 (rd now b.f0 + b.f2) = fn now b.f0.toNat + b.f2 := by rw [rd_fn _ a0]; exact wrap_id (by omega)
    unfold relaxL
    rw [if_pos ⟨a0, a1, b0, b1⟩, hw, rd_fn _ b0]
    by_cases hlt : fn now b.f1.toNat < fn now b.f0.toNat + b.f2
    · rw [if_pos hlt]
      have hset := fn_set now b.f1.toNat (fn now b.f0.toNat + b.f2) (by omega)
      have hrx : fn (now.set b.f1.toNat (fn now b.f0.toNat + b.f2)) = rx (fn now) (arcP b) := by rw [hset]; exact (if_pos hlt).symm
      obtain ⟨now', by', ch', e, h1, h2, h3, h4, h5, h6, h7⟩ := ih (j + 1) (now.set b.f1.toNat (fn now b.f0.toNat + b.f2)) (by_.set b.f1.toNat j) b.f1 (C + 1000000) hok' (by rw [List.length_set]; exact hn) (by
        intro v
        have := hb v
        rw [hset]; dsimp only; split <;> omega) (by omega) (by omega)
      refine ⟨now', by', ch', e, h1, ?_, ?_, .inr ⟨?_, h5 b0⟩, fun _ => h5 b0, by rw [h6, List.length_set], ?_⟩
      · rw [h2, hrx]; rfl
      · intro v; have := h3 v; omega
      · intro hs
        have := hs (arcP b) (List.mem_map.2 ⟨b, List.mem_cons_self .., rfl⟩)
        simp only [arcP] at this
        omega
      · intro x hx
        rcases h7 x hx with h | h
        · rcases List.mem_or_eq_of_mem_set h with h | h
          · exact .inl h
          · right; omega
        · right; omega
    · rw [if_neg hlt]
      have hrx : rx (fn now) (arcP b) = fn now := if_neg hlt
      obtain ⟨now', by', ch', e, h1, h2, h3, h4, h5, h6, h7⟩ := ih (j + 1) now by_ ch C hok' hn hb (by omega) (by omega)
      refine ⟨now', by', ch', e, h1, ?_, ?_, ?_, h5, h6, ?_⟩
      · rw [h2]
        show round (t.map arcP) (fn now) = round (t.map arcP) (rx (fn now) (arcP b))
        rw [hrx]
      · intro v; have := h3 v; omega
      · rcases h4 with ⟨hs, h⟩ | ⟨hs, h⟩
        · left
          refine ⟨fun a ha => ?_, h⟩
          rw [List.map_cons] at ha
          rcases List.mem_cons.1 ha with rfl | ha
          · simp only [arcP]; omega
          · exact hs a ha
        · right
          exact ⟨fun hs' => hs fun a ha => hs' a (List.mem_cons_of_mem _ ha), h⟩
      · intro x hx
        rcases h7 x hx with h | h
        · exact .inl h
        · right; omega

theorem roundsL_spec (l : List S72) (hok : ∀ b, b ∈ l → OkP 13 b) (hl : l.length ≤ 1000) : ∀ (m : Nat) (now by_ : List Int) (C : Int), now.length = 13 → (∀ v, 0 ≤ fn now v ∧ fn now v ≤ C) → C + 2000000000 * (m + 1 : Int) < 4611686018427387904 → (∀ x, x ∈ by_ → -1 ≤ x ∧ x < (l.length : Int)) →
    ∃ now' by' ok, roundsL l m now by_ = some (now', by', ok) ∧ (ok = true ↔ ∃ r, r < m ∧ Sat (l.map arcP) (iter (l.map arcP) r (fn now))) ∧ by'.length = by_.length ∧ (∀ x, x ∈ by' → -1 ≤ x ∧ x < (l.length : Int)) := by
  intro m
  induction m with
  | zero =>
    intro now by_ C hn hb hC hy
    exact ⟨now, by_, false, rfl, ⟨(fun h => by cases h), fun ⟨r, hr, _⟩ => absurd hr (Nat.not_lt_zero _)⟩, rfl, hy⟩
  | succ m ih =>
    intro now by_ C hn hb hC hy
    obtain ⟨now', by', ch', e, h1, h2, h3, h4, h5, h6, h7⟩ := relaxL_spec l 0 now by_ (-1) C hok hn hb (by omega) (Int.le_refl _)
    unfold roundsL
    rw [e, Option.bind_some]
    dsimp only
    have hy' : ∀ x, x ∈ by' → -1 ≤ x ∧ x < (l.length : Int) := by
      intro x hx
      rcases h7 x hx with h | h
      · exact hy x h
      · omega
    rcases h4 with ⟨hs, rfl, rfl, rfl⟩ | ⟨hs, hc⟩
    · rw [if_pos (by omega)]
      exact ⟨_, _, _, rfl, ⟨fun _ => ⟨0, by omega, hs⟩, fun _ => rfl⟩, rfl, hy⟩
    · rw [if_neg (by omega)]
      obtain ⟨now2, by2, ok, e2, k1, k2, k3⟩ := ih now' by' (C + 1000000 * (l.length : Int)) h1 h3 (by omega) hy'
      refine ⟨now2, by2, ok, e2, ?_, by rw [k2, h6], k3⟩
      rw [k1, h2]
      constructor
      · intro ⟨r, hr, h⟩; exact ⟨r + 1, by omega, h⟩
      · intro ⟨r, hr, h⟩
        cases r with
        | zero => exact absurd h hs
        | succ r => exact ⟨r, by omega, h⟩
end Go.Proofs.Ytfopdfolbdmnjaa.Pure
