/- The statement ShiftBounds, of what the walked functions compute: Least lies over the greatest need and over the mean of the needs, and is the one or the sum for the longest and the shortest shifts. Conditions: none but the bounds of the law. -/
import Derived.Test.YtfopdfolbdmnjaaPx15
import Derived.Test.YtfopdfolbdmnjaaBnd
namespace Go.Proofs.Ytfopdfolbdmnjaa.Pure
open Go.RowKit Go.Proofs.Ytfopdfolbdmnjaa.P Go.Proofs.YtfopdfolbdmnjaaW.PrintWords Go.Proofs.YtfopdfolbdmnjaaW.PrintLast Go.Proofs.YtfopdfolbdmnjaaW.PrintMore

theorem bnd_l0 {l : List Int} {t : Nat} (g : Good l t) {L Ln L1 : Int} (h : IsL l t 1 L) (hn : IsL l l.length 1 Ln) (h1 : IsL l 1 1 L1) : ∀ (d i : Nat) (m : Int), i + d = l.length → (m = 0 ∨ m ∈ l) → 0 ≤ m → m ≤ 50 → (∀ j, j < i → l.getD j 0 ≤ m) →
    Ev (fun k => trishawlaw07_ShiftBounds.l0 k l t L 0 Ln 0 L1 0 m (needSum l 1 i) i) true := by
  intro d
  have hl := g.len
  have ht1 : 1 ≤ t := by have := g.one; omega
  have htn : t ≤ l.length := by have := g.top; omega
  have hp := g.pos
  have h0 : ∀ h, h < l.length → 0 ≤ l.getD h 0 * 1 := fun h hh => by rw [Int.mul_one]; exact g.low _ (getD_mem hh)
  induction d with
  | zero =>
    intro i m hi hm m0 m50 hj
    obtain rfl : i = l.length := by omega
    have hs := needSum_small g (T := 1) (by omega) (by omega) l.length (Nat.le_refl _)
    have c1 : m ≤ L := by
      rcases hm with rfl | hm
      · exact h.nonneg
      · obtain ⟨j, hjl, rfl⟩ := mem_getD hm
        have := can_need htn h.can j hjl; rwa [Int.mul_one] at this
    have c2 : (needSum l 1 l.length + t - 1) / t ≤ L := ceil_le (by omega) (can_sum ht1 htn h.can)
    have c3 : Ln = m := by
      apply Int.le_antisymm
      · exact hn.le (can_whole hp hj m0)
      · rcases hm with rfl | hm
        · exact hn.nonneg
        · obtain ⟨j, hjl, rfl⟩ := mem_getD hm
          have := can_need (Nat.le_refl _) hn.can j hjl; rwa [Int.mul_one] at this
    have c4 : L1 = needSum l 1 l.length := by
      apply Int.le_antisymm
      · exact h1.le (can_top h0 (Nat.le_refl _) hp)
      · have := can_sum (Nat.le_refl _) hp h1.can; rwa [Int.natCast_one, Int.mul_one] at this
    refine Ev.step (fun k => by rw [trishawlaw07_ShiftBounds.l0]) (ev_neg (by omega) (ev_pos rfl (ev_pos rfl (ev_pos rfl (ev_pos c1 (ev_neg (by omega) (ev_pos ?_ (ev_pos c3 (ev_pos c4 alive_ev')))))))))
    have c5 : 0 ≤ (needSum l 1 l.length + t - 1) / t := Int.ediv_nonneg (by omega) (by omega)
    have c6 := h.nonneg
    have c7 : (needSum l 1 l.length + t - 1) / t ≤ 100000 := ceil_le (by omega) (by
      have : (100000 : Int) * 1 ≤ 100000 * t := Int.mul_le_mul_of_nonneg_left (by omega) (by omega)
      omega)
    rw [wrap_id (n := needSum l 1 l.length + t) (by omega), wrap_id (n := needSum l 1 l.length + t - 1) (by omega), Int.tdiv_eq_ediv_of_nonneg (by omega), wrap_id (by omega)]
    exact c2
  | succ d ih =>
    intro i m hi hm m0 m50 hj
    have hlt : i < l.length := by omega
    have hs := needSum_small g (T := 1) (by omega) (by omega) i (by omega)
    have hx0 := g.low _ (getD_mem hlt)
    have hx1 := g.high _ (getD_mem hlt)
    have e := ih (i + 1) (mx m (l.getD i 0)) (by omega) (by
      unfold mx; split
      · exact .inr (getD_mem hlt)
      · exact hm) (by unfold mx; split <;> omega) (by unfold mx; split <;> omega) (by
      intro j hj'
      unfold mx
      by_cases hji : j = i
      · subst hji; split <;> omega
      · have := hj j (by omega); split <;> omega)
    refine Ev.step (fun k => by rw [trishawlaw07_ShiftBounds.l0]) (ev_pos (by omega) (ev_pos (by omega) ?_))
    rw [needSum_succ, Int.mul_one] at e
    rw [rd_nat, wrap_id (n := needSum l 1 i + l.getD i 0) (by omega), wrap_id (n := (i : Int) + 1) (by omega)]
    exact e
theorem ShiftBounds : trishawlaw07_ShiftBounds.Pure := by
  intro l a hl _ _ _
  refine Ev.rounds (g := fun k => trishawlaw07_ShiftBounds.f k l a) ?_
  unfold trishawlaw07_ShiftBounds.f
  rw [few_f]
  have out : Ev (fun k => trishawlaw07_ShiftBounds.j0 k l a true) true := Ev.step (fun k => by rw [trishawlaw07_ShiftBounds.j0]) (ev_pos rfl alive_ev')
  by_cases hf : decide (l.length ≤ 40 ∧ ([] : List Int).length ≤ 100) = true
  · refine ev_pos hf (Ev.bind (day_f l a) ?_)
    by_cases hg : dayE l a = 0
    · have g := day_good.1 hg
      obtain ⟨t, rfl⟩ := g.nat
      have gn : Good l ((l.length : Nat) : Int) := ⟨g.len, g.pos, g.low, g.high, by have := g.pos; omega, Int.le_refl _⟩
      have g1 : Good l ((1 : Nat) : Int) := ⟨g.len, g.pos, g.low, g.high, by omega, by have := g.pos; omega⟩
      obtain ⟨L, e1, h1, h2⟩ := Least_good g
      obtain ⟨Ln, e2, h3, h4⟩ := Least_good gn
      obtain ⟨L1, e3, h5, h6⟩ := Least_good g1
      rw [hg]
      refine Ev.step (fun k => by rw [trishawlaw07_ShiftBounds.j0]) (ev_neg (fun h => by cases h) (Ev.bind e1 (Ev.bind e2 (Ev.bind e3 ?_))))
      exact bnd_l0 g h1 h3 h5 l.length 0 0 (by omega) (.inl rfl) (Int.le_refl _) (by omega) (fun j hj => by omega)
    · have : (dayE l a != 0) = true := bne_iff_ne.2 hg
      rw [this]; exact out
  · exact ev_neg hf out
end Go.Proofs.Ytfopdfolbdmnjaa.Pure
