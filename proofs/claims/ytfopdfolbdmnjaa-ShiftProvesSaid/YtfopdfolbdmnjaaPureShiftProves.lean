/- The statement ShiftProves, of what the walked functions compute: no proof is worth more than a plan that is enough, and Proof is worth Least. Conditions: none but the bounds of the law. -/
import Derived.Test.YtfopdfolbdmnjaaPx29
import Derived.Test.YtfopdfolbdmnjaaWth
import Derived.Test.YtfopdfolbdmnjaaCov
namespace Go.Proofs.Ytfopdfolbdmnjaa.Pure
open Go.RowKit Go.Proofs.Ytfopdfolbdmnjaa.P Go.Proofs.YtfopdfolbdmnjaaW.PrintWords Go.Proofs.YtfopdfolbdmnjaaW.PrintLast Go.Proofs.YtfopdfolbdmnjaaW.PrintMore

theorem can_free {l : List Int} {t : Nat} {T S : Int} {f : List Int} (h : Can l t T S f) : Can l t T S [] := by
  obtain ⟨y, c, _⟩ := h
  exact ⟨y, c, fun j hj => absurd hj (Nat.not_lt_zero _)⟩
theorem wv_le {l : List Int} {t : Nat} (g : Good l t) {L : Int} (h : Can l t 1 L []) {hs : List Int} (hne : hs ≠ []) (hh : ∀ x, x ∈ hs → 0 ≤ x ∧ x < (l.length : Int)) : wv l t hs ≤ L := by
  have ht1 : 1 ≤ t := by have := g.one; omega
  obtain ⟨s0, h2, h3⟩ := csum_pos ht1 hne hh
  have h4 := maxc_ge l.length t hs l.length s0 h2
  have h8 := dual ht1 (by have := g.top; omega) h (maxc_ge l.length t hs l.length) hh
  unfold wv
  exact ceil_le (by omega) (by omega)
theorem proves_j1 {l : List Int} {t : Nat} (g : Good l t) {L : Int} (h : IsL l t 1 L) {p : List Int} {e : Int} (hp : (e = 0 ∧ L ≠ 0 ∧ p ≠ [] ∧ p.length ≤ 13 ∧ (∀ x, x ∈ p → 0 ≤ x ∧ x < (l.length : Int)) ∧ wv l t p = L) ∨ (e = 10 ∧ L = 0 ∧ p = [])) : Ev (fun k => trishawlaw07_ShiftProves.j1 k l t L p e false) true := by
  have h0 := h.nonneg
  refine Ev.step (fun k => by rw [trishawlaw07_ShiftProves.j1]) ?_
  refine ev_neg Bool.false_ne_true ?_
  rcases hp with ⟨rfl, h1, h2, h3, h4, h5⟩ | ⟨rfl, rfl, rfl⟩
  · exact ev_pos rfl (Ev.bind (Worth_good g (by omega) h2 h4) (ev_pos rfl (ev_pos h5 (ev_pos (by omega) alive_ev'))))
  · exact ev_neg (by decide) (ev_pos rfl (ev_pos rfl (ev_pos rfl alive_ev')))
theorem ShiftProves : trishawlaw07_ShiftProves.Pure := by
  intro l a p hs hl _ _ _ _ _ _ _ _ _
  refine Ev.rounds (g := fun k => trishawlaw07_ShiftProves.f k l a p hs) ?_
  unfold trishawlaw07_ShiftProves.f
  rw [few_f]
  have out : Ev (fun k => trishawlaw07_ShiftProves.j0 k l a p hs true) true := by
    refine Ev.step (fun k => by rw [trishawlaw07_ShiftProves.j0]) ?_
    exact ev_pos rfl alive_ev'
  by_cases hf : decide (l.length ≤ 40 ∧ p.length ≤ 100) = true
  · refine ev_pos hf ?_
    by_cases hlen : (hs.length : Int) > 100
    · exact ev_pos hlen out
    refine ev_neg hlen (Ev.bind (day_f l a) ?_)
    by_cases hg : dayE l a = 0
    · have g := day_good.1 hg
      obtain ⟨t, rfl⟩ := g.nat
      have ht1 : 1 ≤ t := by have := g.one; omega
      have htn : t ≤ l.length := by have := g.top; omega
      obtain ⟨L, e1, h1, h1'⟩ := Least_good g
      obtain ⟨q, e, e2, hq⟩ : ∃ q e, Ev (fun k => shift_Proof.f k l t) (q, e) ∧ ((e = 0 ∧ L ≠ 0 ∧ q ≠ [] ∧ q.length ≤ 13 ∧ (∀ x, x ∈ q → 0 ≤ x ∧ x < (l.length : Int)) ∧ wv l t q = L) ∨ (e = 10 ∧ L = 0 ∧ q = [])) := by
        by_cases h0 : L = 0
        · subst h0; exact ⟨_, _, Proof_zero g h1, .inr ⟨rfl, rfl, rfl⟩⟩
        · obtain ⟨q, e2, h2, h3, h4, h5⟩ := Proof_good g h1 h1' h0
          exact ⟨_, _, e2, .inl ⟨rfl, h0, h2, h3, h4, h5⟩⟩
      have j := proves_j1 g h1 hq
      -- the worth of the given list
      obtain ⟨w, v, e3, hw⟩ : ∃ w v, Ev (fun k => shift_Worth.f k l t hs) (w, v) ∧ (v = 0 → w ≤ L) := by
        by_cases hb : hs.length = 0 ∨ hs.length > 60 ∨ badHour l hs
        · exact ⟨_, _, Worth_no g hb, fun h => absurd h (by decide)⟩
        · have hne : hs ≠ [] := by rintro rfl; exact hb (.inl rfl)
          have hh : ∀ x, x ∈ hs → 0 ≤ x ∧ x < (l.length : Int) := fun x hx => by
            by_cases c : x < 0 ∨ x ≥ (l.length : Int)
            · exact absurd (.inr (.inr ⟨x, hx, c⟩)) hb
            · omega
          exact ⟨_, _, Worth_good g (by omega) hne hh, fun _ => wv_le g h1.can hne hh⟩
      -- the size of the given plan
      obtain ⟨z, b, e4, hz⟩ : ∃ z b, Ev (fun k => shift_Enough.f k l t p) (z, b, 0) ∧ (b = true → L ≤ z) := by
        by_cases ip : IsPl l p
        · obtain ⟨b, e4, hb⟩ := Enough_good g ip
          exact ⟨_, _, e4, fun h => h1.le (can_free ((covers_can ht1 htn ip.1 (fun x hx => (ip.2 x hx).1)).1 (hb.1 h)))⟩
        · exact ⟨_, _, Enough_no g ip, fun h => by cases h⟩
      rw [hg]
      have fin : Ev (fun k => if b = true then trishawlaw07_ShiftProves.j1 k l t L q e (decide (z < L)) else trishawlaw07_ShiftProves.j1 k l t L q e false) true := by
        by_cases c : b = true
        · refine ev_pos c ?_
          rw [decide_eq_false (show ¬ z < L by have := hz c; omega)]
          exact j
        · exact ev_neg c j
      refine Ev.step (fun k => by rw [trishawlaw07_ShiftProves.j0]) ?_
      refine ev_neg (fun h => by cases h) (Ev.bind e1 (Ev.bind e2 (Ev.bind e3 (Ev.bind e4 (ev_pos rfl (ev_pos rfl ?_))))))
      by_cases c : v = 0
      · refine ev_pos c (ev_neg ?_ fin)
        have := hw c
        dsimp only; omega
      · exact ev_neg c fin
    · have : (dayE l a != 0) = true := bne_iff_ne.2 hg
      rw [this]; exact out
  · exact ev_neg hf out
end Go.Proofs.Ytfopdfolbdmnjaa.Pure
