/- The plan that is built number by number is enough, of the least size, and first. Conditions: one to twelve hours, needs of 0 to 50. -/
import Derived.Test.YtfopdfolbdmnjaaPln
import Derived.Test.YtfopdfolbdmnjaaCov
namespace Go.Proofs.Ytfopdfolbdmnjaa.Pure
open Go.RowKit Go.Proofs.Ytfopdfolbdmnjaa.P Go.Proofs.YtfopdfolbdmnjaaW.PrintWords Go.Proofs.YtfopdfolbdmnjaaW.PrintLast Go.Proofs.YtfopdfolbdmnjaaW.PrintMore

theorem can_free {l : List Int} {t : Nat} {T S : Int} {f : List Int} (h : Can l t T S f) : Can l t T S [] := by
  obtain ⟨y, c, _⟩ := h
  exact ⟨y, c, fun j hj => absurd hj (Nat.not_lt_zero _)⟩
theorem can_prefix {l : List Int} {t : Nat} {T S : Int} {f r : List Int} (h : Can l t T S (f ++ r)) : Can l t T S f := by
  obtain ⟨y, c, hf⟩ := h
  refine ⟨y, c, fun j hj => ?_⟩
  have := hf j (by rw [List.length_append]; omega)
  rwa [List.getD_eq_getElem?_getD, List.getElem?_append_left hj, ← List.getD_eq_getElem?_getD] at this
theorem planIs_le {l : List Int} {t : Nat} {S : Int} : ∀ (d : Nat) (f p : List Int), PlanIs l t S f d p → (∀ x, x ∈ f → 0 ≤ x ∧ x ≤ S) → ∀ x, x ∈ p → 0 ≤ x ∧ x ≤ S := by
  intro d
  induction d with
  | zero => intro f p h hf; rw [show p = f from h]; exact hf
  | succ d ih =>
    intro f p ⟨v, h1, h2⟩ hf
    refine ih (f ++ [v]) p h2 fun x hx => ?_
    rcases List.mem_append.1 hx with hx | hx
    · exact hf x hx
    · obtain rfl : x = v := by simpa using hx
      exact ⟨h1.nonneg, h1.le⟩
theorem planIs_prefix {l : List Int} {t : Nat} {S : Int} : ∀ (d : Nat) (f p : List Int), PlanIs l t S f d p → ∃ r, p = f ++ r := by
  intro d
  induction d with
  | zero => intro f p h; exact ⟨[], by rw [List.append_nil]; exact h⟩
  | succ d ih =>
    intro f p ⟨v, h1, h2⟩
    obtain ⟨r, hr⟩ := ih _ _ h2
    exact ⟨v :: r, by rw [hr, List.append_assoc]; rfl⟩
theorem getD_mid (f r : List Int) (v : Int) : ((f ++ [v]) ++ r).getD f.length 0 = v := by
  rw [List.getD_eq_getElem?_getD, List.append_assoc, List.getElem?_append_right (Nat.le_refl _), Nat.sub_self]; rfl
/-- No plan of that size comes before it. -/
theorem planIs_lex {l : List Int} {t : Nat} {S : Int} : ∀ (d : Nat) (f q r : List Int), PlanIs l t S f d q → Can l t 1 S (f ++ r) → r.length = d → (∀ x, x ∈ r → 0 ≤ x) → ∀ i, f.length ≤ i → i < f.length + d → (∀ j, j < i → q.getD j 0 = (f ++ r).getD j 0) → q.getD i 0 ≤ (f ++ r).getD i 0 := by
  intro d
  induction d with
  | zero => intro f q r _ _ _ _ i h1 h2; omega
  | succ d ih =>
    intro f q r ⟨v, h1, h2⟩ hc hr hpos i hi hi2 hj
    cases r with
    | nil => cases hr
    | cons w r =>
      obtain ⟨rest, hrest⟩ := planIs_prefix _ _ _ h2
      have hv : q.getD f.length 0 = v := by rw [hrest]; exact getD_mid f rest v
      have hw : (f ++ w :: r).getD f.length 0 = w := by
        rw [show f ++ w :: r = (f ++ [w]) ++ r by rw [List.append_assoc]; rfl]; exact getD_mid f r w
      have hc2 : Can l t 1 S ((f ++ [w]) ++ r) := by rw [List.append_assoc]; exact hc
      have hle : v ≤ w := by
        by_cases c : w < v
        · exact absurd (can_prefix hc2) (h1.low w (hpos w (List.mem_cons_self ..)) c)
        · omega
      by_cases c : i = f.length
      · rw [c, hv, hw]; exact hle
      · have e : v = w := by
          have := hj f.length (by omega)
          rw [hv, hw] at this; exact this
        subst e
        have := ih (f ++ [v]) q r h2 hc2 (by simpa using hr) (fun x hx => hpos x (List.mem_cons_of_mem _ hx)) i (by rw [List.length_append, List.length_cons, List.length_nil]; omega) (by rw [List.length_append, List.length_cons, List.length_nil]; omega) (by
          rw [List.append_assoc]; exact hj)
        rwa [List.append_assoc] at this
theorem least_le {l : List Int} {t : Nat} (g : Good l t) {L : Int} (h : IsL l t 1 L) : L ≤ 600 := by
  have hl := g.len
  have hs : ∀ n, n ≤ l.length → needSum l 1 n ≤ 50 * (n : Int) := by
    intro n
    induction n with
    | zero => intro _; exact Int.le_refl _
    | succ n ih =>
      intro hn
      have h1 := ih (by omega)
      have h2 := g.high _ (getD_mem (show n < l.length by omega))
      rw [needSum_succ]; omega
  have h1 := h.le (can_top (T := 1) (fun i hi => by rw [Int.mul_one]; exact g.low _ (getD_mem hi)) (by have := g.one; omega) (by have := g.top; omega))
  have h2 := hs l.length (Nat.le_refl _)
  omega
/-- The size that the sums tell is the plan's. -/
theorem can_size {l : List Int} {t : Nat} {S : Int} {p : List Int} (hp : p.length = l.length) (h : Can l t 1 S p) : sizeP p p.length = S := by
  obtain ⟨y, c, f⟩ := h
  have hy : ∀ i, i ≤ p.length → y i = y 0 + sizeP p i := by
    intro i
    induction i with
    | zero => intro _; show _ = y 0 + 0; omega
    | succ i ih => intro hi; rw [f i (by omega), ih (by omega)]; show _ = y 0 + (sizeP p i + p.getD i 0); omega
  have h1 := hy p.length (Nat.le_refl _)
  have h2 := c.size
  rw [← hp] at h2
  omega
/-- What Enough says of a plan that is one in partial sums. -/
theorem Enough_can {l p : List Int} {t : Nat} (g : Good l t) {S : Int} (hp : p.length = l.length) (h0 : ∀ x, x ∈ p → 0 ≤ x ∧ x ≤ 600) (h : Can l t 1 S p) : Ev (fun k => shift_Enough.f k l t p) (S, true, 0) := by
  have hs := can_size hp h
  obtain ⟨b, e, hb⟩ := Enough_good g ⟨hp, h0⟩
  rw [hs] at e
  have : b = true := hb.2 ((covers_can (by have := g.one; omega) (by have := g.top; omega) hp (fun x hx => (h0 x hx).1)).2 (by rw [hs]; exact h))
  rwa [this] at e
end Go.Proofs.Ytfopdfolbdmnjaa.Pure
