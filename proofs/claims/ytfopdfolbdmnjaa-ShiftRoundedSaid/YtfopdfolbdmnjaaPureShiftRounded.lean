/- The statement ShiftRounded, of what the walked functions compute: Least is Share, rounded up. Conditions: none but the bounds of the law. -/
import Derived.Test.YtfopdfolbdmnjaaPx14
import Derived.Test.YtfopdfolbdmnjaaShare
import Derived.Test.YtfopdfolbdmnjaaBnd
namespace Go.Proofs.Ytfopdfolbdmnjaa.Pure
open Go.RowKit Go.Proofs.Ytfopdfolbdmnjaa.P Go.Proofs.YtfopdfolbdmnjaaW.PrintWords Go.Proofs.YtfopdfolbdmnjaaW.PrintLast Go.Proofs.YtfopdfolbdmnjaaW.PrintMore

theorem rounded {l : List Int} {t P Q A B g : Nat} {L : Int} (hp : 0 < l.length) (t1 : 1 ≤ t) (s : ShareIs l t P Q A B g) (h : IsL l t 1 L) (hq : 0 < Q) : ((P : Int) + Q - 1) / Q = L := by
  have hL := h.nonneg
  obtain ⟨N, rfl⟩ : ∃ N : Nat, L = N := ⟨L.toNat, by omega⟩
  have hg : (0 : Int) < g := by have := s.pos; omega
  have hB : (0 : Int) < B := by have := s.one; omega
  have hA : (A : Int) = P * g := by rw [s.a]; exact Int.natCast_mul ..
  have hB' : (B : Int) = Q * g := by rw [s.b]; exact Int.natCast_mul ..
  apply Int.le_antisymm
  · apply ceil_le (by omega)
    have h1 := s.min 1 N (Nat.le_refl _) (by omega) h
    rw [Nat.mul_one, s.a, s.b, ← Nat.mul_assoc] at h1
    have := Nat.le_of_mul_le_mul_right h1 s.pos
    rw [← Int.natCast_mul]
    exact_mod_cast this
  · apply ceil_ge (by omega)
    apply Classical.byContradiction
    intro hn
    have h1 : (P : Int) ≤ ((N : Int) - 1) * Q := by omega
    have h2 := Int.mul_le_mul_of_nonneg_right h1 (Int.le_of_lt hg)
    rw [Int.mul_assoc, ← hA, ← hB'] at h2
    exact h.low ((N : Int) - 1) (by omega) (can_div hB (can_mono hp t1 h2 s.least.can))
theorem ShareIs.q {l : List Int} {t P Q A B g : Nat} (s : ShareIs l t P Q A B g) : 0 < Q := by
  have := s.one; rw [s.b] at this
  exact Nat.pos_of_mul_pos_right this
theorem ShiftRounded : trishawlaw07_ShiftRounded.Pure := by
  intro l a hl _ _ _
  refine Ev.rounds (g := fun k => trishawlaw07_ShiftRounded.f k l a) ?_
  unfold trishawlaw07_ShiftRounded.f
  rw [few_f]
  have out : Ev (fun k => trishawlaw07_ShiftRounded.j0 k l a true) true := Ev.step (fun k => by rw [trishawlaw07_ShiftRounded.j0]) (ev_pos rfl alive_ev')
  by_cases hf : decide (l.length ≤ 40 ∧ ([] : List Int).length ≤ 100) = true
  · refine ev_pos hf (Ev.bind (day_f l a) ?_)
    by_cases hg : dayE l a = 0
    · have g := day_good.1 hg
      obtain ⟨t, rfl⟩ := g.nat
      obtain ⟨L, e1, h1, h2⟩ := Least_good g
      obtain ⟨P, Q, A, B, gg, e3, s3, hA⟩ := Share_good g
      have hq := s3.q
      have hr := rounded g.pos (by have := g.one; omega) s3 h1 hq
      have sm := prod_lt s3.a s3.b s3.pos hA (by have := s3.top; have := g.len; omega)
      rw [hg]
      refine Ev.step (fun k => by rw [trishawlaw07_ShiftRounded.j0]) (ev_neg (fun h => by cases h) (Ev.bind e1 (Ev.bind e3 (ev_pos rfl (ev_pos rfl (ev_neg ?_ (ev_neg ?_ (ev_neg ?_ (ev_neg ?_ (ev_neg ?_ (ev_pos ?_ alive_ev')))))))))))
      · dsimp only; omega
      · dsimp only; omega
      · dsimp only; omega
      · dsimp only; omega
      · dsimp only; omega
      · dsimp only
        rw [wrap_id (n := (P : Int) + Q) (by omega), wrap_id (n := (P : Int) + Q - 1) (by omega), Int.tdiv_eq_ediv_of_nonneg (by omega), hr, wrap_id (by have := h1.nonneg; omega)]
    · have : (dayE l a != 0) = true := bne_iff_ne.2 hg
      rw [this]; exact out
  · exact ev_neg hf out
end Go.Proofs.Ytfopdfolbdmnjaa.Pure
