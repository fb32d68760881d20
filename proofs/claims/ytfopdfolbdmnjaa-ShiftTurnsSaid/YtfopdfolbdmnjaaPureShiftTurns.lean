/- The statement ShiftTurns, of what the walked functions compute: both ways to turn the needs tell the same. Conditions: none but the bounds of the law. -/
import Derived.Test.YtfopdfolbdmnjaaPx23
import Derived.Test.YtfopdfolbdmnjaaBase
namespace Go.Proofs.Ytfopdfolbdmnjaa.Pure
open Go.RowKit Go.Proofs.Ytfopdfolbdmnjaa.P Go.Proofs.YtfopdfolbdmnjaaW.PrintWords Go.Proofs.YtfopdfolbdmnjaaW.PrintLast Go.Proofs.YtfopdfolbdmnjaaW.PrintMore

/-- Where the turned needs begin. -/
theorem start_eq (n a : Int) (h0 : 0 < n) (h1 : n ≤ 12) : Int.tmod (wrap64 ((Int.tmod a n) + n)) n = a % n ∧ (Int.tmod a n < 0 → wrap64 ((Int.tmod a n) + n) = a % n) ∧ (¬ Int.tmod a n < 0 → Int.tmod a n = a % n) := by
  have e : Int.tmod a n = a % n ∨ Int.tmod a n = a % n - n := by
    rw [Int.tmod_eq_emod]
    split
    · left; omega
    · right; omega
  have p := Int.emod_nonneg a (show n ≠ 0 by omega)
  have q := Int.emod_lt_of_pos a h0
  rcases e with e | e
  · rw [e, wrap_id (by omega)]
    refine ⟨?_, fun h => by omega, fun _ => rfl⟩
    rw [Int.tmod_eq_emod_of_nonneg (by omega), Int.add_emod_right, Int.emod_emod]
  · rw [e, wrap_id (by omega)]
    refine ⟨?_, fun h => by omega, fun h => by omega⟩
    rw [show a % n - n + n = a % n by omega, Int.tmod_eq_emod_of_nonneg (by omega), Int.emod_emod]
def turned (l : List Int) (a : Int) : List Int := l.drop (a % (l.length : Int)).toNat ++ l.take (a % (l.length : Int)).toNat
theorem read_one (l : List Int) : needsE l = 0 → dayE l 1 = 0 := fun h => by
  obtain ⟨h1, h2, h3, h4⟩ := needs_zero.1 h
  exact day_good.2 ⟨h1, h2, h3, h4, by omega, by omega⟩
theorem shift_turned (l : List Int) (a : Int) : Ev (fun k => shift_Turned.f k l a) (if needsE l = 0 then (turned l a, 0) else ([], needsE l)) := by
  unfold shift_Turned.f
  by_cases h : needsE l = 0
  · obtain ⟨h1, h2, h3, h4⟩ := needs_zero.1 h
    obtain ⟨s1, s2, s3⟩ := start_eq l.length a (by omega) (by omega)
    have p := Int.emod_nonneg a (show (l.length : Int) ≠ 0 by omega)
    have q := Int.emod_lt_of_pos a (show 0 < (l.length : Int) by omega)
    rw [if_pos h]
    refine Ev.bind (read_good (day_good.1 (read_one l h))) (ev_pos rfl (ev_neg (by omega) ?_))
    rw [s1]
    refine ev_pos p (ev_pos (by omega) (Ev.bind (clone_f _ (by simp only [List.length_drop]; omega)) (ev_pos (by simp only [List.length_drop, List.length_take]; omega) (Ev.now _))))
  · rw [if_neg h]
    have e : dayE l 1 = needsE l := if_neg h
    refine Ev.bind (read_bad (by rw [e]; exact h)) (ev_neg ?_ ?_)
    · exact fun h' => h (e ▸ h')
    · rw [← e]; exact Ev.now _
theorem ref_turned (l : List Int) (a : Int) : Ev (fun k => trishawref07_Turned.f k l a) (if needsE l = 0 then (turned l a, 0) else ([], needsE l)) := by
  unfold trishawref07_Turned.f
  refine Ev.bind (needs_f l) ?_
  by_cases h : needsE l = 0
  · obtain ⟨h1, h2, h3, h4⟩ := needs_zero.1 h
    obtain ⟨s1, s2, s3⟩ := start_eq l.length a (by omega) (by omega)
    have p := Int.emod_nonneg a (show (l.length : Int) ≠ 0 by omega)
    have q := Int.emod_lt_of_pos a (show 0 < (l.length : Int) by omega)
    rw [show (if needsE l = 0 then (turned l a, (0 : Int)) else ([], needsE l)) = (turned l a, 0) from if_pos h]
    refine ev_pos h (ev_neg (by omega) ?_)
    by_cases ht : Int.tmod a l.length < 0
    · rw [s2 ht]
      refine ev_pos ht (ev_pos p (ev_pos (by omega) (ev_pos (by simp only [List.length_drop, List.length_nil]; omega) (ev_pos (by simp only [List.length_drop, List.length_take, List.nil_append]; omega) (Ev.now _)))))
    · have hs := s3 ht
      rw [hs] at ht ⊢
      refine ev_neg ht (ev_pos p (ev_pos (by omega) (ev_pos (by simp only [List.length_drop, List.length_nil]; omega) (ev_pos (by simp only [List.length_drop, List.length_take, List.nil_append]; omega) (Ev.now _)))))
  · rw [show (if needsE l = 0 then (turned l a, (0 : Int)) else ([], needsE l)) = ([], needsE l) from if_neg h]
    exact ev_neg h (Ev.now _)
theorem turned_len (l : List Int) (a : Int) : (turned l a).length = l.length := by
  simp only [turned, List.length_append, List.length_drop, List.length_take]; omega
theorem ShiftTurns : trishawlaw07_ShiftTurns.Pure := by
  intro l a hl _ _ _
  refine Ev.rounds (g := fun k => trishawlaw07_ShiftTurns.f k l a) ?_
  unfold trishawlaw07_ShiftTurns.f
  rw [few_f]
  by_cases hf : decide (l.length ≤ 40 ∧ ([] : List Int).length ≤ 100) = true
  · refine ev_pos hf (Ev.bind (shift_turned l a) (Ev.bind (ref_turned l a) (Ev.bind (same_f _ ?_) (ev_pos rfl (ev_pos rfl alive_ev')))))
    split
    · rw [turned_len]; have := (of_decide_eq_true hf).1; omega
    · exact (by decide : 0 < 4611686018427387904)
  · exact ev_neg hf alive_ev'
end Go.Proofs.Ytfopdfolbdmnjaa.Pure
