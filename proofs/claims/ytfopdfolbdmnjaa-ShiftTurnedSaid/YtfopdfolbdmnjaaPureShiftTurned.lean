/- The statement ShiftTurned, of what the walked functions compute: Least and Share stay when the needs are turned or read backwards. Conditions: none but the bounds of the law. -/
import Derived.Test.YtfopdfolbdmnjaaPx24
import Derived.Test.YtfopdfolbdmnjaaTrn
namespace Go.Proofs.Ytfopdfolbdmnjaa.Pure
open Go.RowKit Go.Proofs.Ytfopdfolbdmnjaa.P Go.Proofs.YtfopdfolbdmnjaaW.PrintWords Go.Proofs.YtfopdfolbdmnjaaW.PrintLast Go.Proofs.YtfopdfolbdmnjaaW.PrintMore

theorem turned_rot (l : List Int) (a : Int) : turned l a = rot (a % (l.length : Int)).toNat l := rfl
theorem turned_whole {l : List Int} : turned l (l.length : Int) = l := by
  unfold turned
  rw [Int.emod_self]
  show l.drop 0 ++ l.take 0 = l
  rw [List.drop_zero, List.take_zero, List.append_nil]
theorem good_perm {l l' : List Int} {t : Nat} (g : Good l t) (hl : l'.length = l.length) (h : ∀ x, x ∈ l' → x ∈ l) : Good l' t :=
  ⟨by rw [hl]; exact g.len, by rw [hl]; exact g.pos, fun x hx => g.low x (h x hx), fun x hx => g.high x (h x hx), g.one, by rw [hl]; exact g.top⟩
theorem turned_mem {l : List Int} {a : Int} {x : Int} (h : x ∈ turned l a) : x ∈ l := by
  unfold turned at h
  rcases List.mem_append.1 h with h | h
  · exact List.mem_of_mem_drop h
  · exact List.mem_of_mem_take h
theorem turned_l0 {l l' : List Int} {t : Nat} (g : Good l t) (g' : Good l' t) (hl' : l'.length = l.length) (hc : ∀ T S : Int, Can l' t T S [] ↔ Can l t T S []) : ∀ (m : Nat), m ≤ l.length →
    Ev (fun k => trishawlaw07_ShiftTurned.l0 k l t l' (l.drop m).reverse ((m : Int) - 1)) true := by
  intro m
  have hl := g.len
  have hp := g.pos
  have ht1 : 1 ≤ t := by have := g.one; omega
  have htn : t ≤ l.length := by have := g.top; omega
  induction m with
  | zero =>
    intro _
    rw [List.drop_zero]
    have hr : ∀ T S : Int, Can l.reverse t T S [] ↔ Can l t T S [] := fun T S => can_rev_iff hp ht1 htn
    have g2 : Good l.reverse t := good_perm g List.length_reverse (fun x hx => List.mem_reverse.1 hx)
    obtain ⟨L, e1, h1, _⟩ := Least_good g
    obtain ⟨L', e2, h2, _⟩ := Least_good g'
    obtain ⟨L2, e3, h3, _⟩ := Least_good g2
    obtain rfl := ((isL_congr hc 1 L).1 h1).uniq h2
    obtain rfl := ((isL_congr hr 1 L).1 h1).uniq h3
    obtain ⟨P, Q, A, B, gg, e4, s1, _⟩ := Share_good g
    obtain ⟨P', Q', A', B', gg', e5, s2, _⟩ := Share_good g'
    obtain ⟨P2, Q2, A2, B2, gg2, e6, s3, _⟩ := Share_good g2
    obtain ⟨rfl, rfl⟩ := s1.uniq s2 hl'.symm (fun T L _ _ => isL_congr hc T L)
    obtain ⟨rfl, rfl⟩ := s1.uniq s3 List.length_reverse.symm (fun T L _ _ => isL_congr hr T L)
    refine Ev.step (fun k => by rw [trishawlaw07_ShiftTurned.l0]) ?_
    refine ev_neg (by omega) (Ev.bind e1 (Ev.bind e2 (Ev.bind e3 (Ev.bind e4 (Ev.bind e5 (Ev.bind e6 (ev_pos rfl (ev_pos rfl (ev_pos rfl (ev_pos rfl (ev_pos rfl (ev_pos rfl (ev_pos rfl (ev_pos rfl (ev_pos ?_ (ev_pos ?_ alive_ev'))))))))))))))))
    · simp
    · simp
  | succ m ih =>
    intro hm
    have e := ih (by omega)
    have hd : l.drop m = l.getD m 0 :: l.drop (m + 1) := by
      rw [List.drop_eq_getElem_cons (by omega), List.getD_eq_getElem?_getD, List.getElem?_eq_getElem (by omega)]; rfl
    rw [hd, List.reverse_cons] at e
    refine Ev.step (fun k => by rw [trishawlaw07_ShiftTurned.l0]) ?_
    rw [show ((m + 1 : Nat) : Int) - 1 = m by omega]
    refine ev_pos (by omega) (ev_pos (by omega) (ev_pos (by omega) (ev_pos ?_ ?_)))
    · rw [List.length_reverse, List.length_drop]; omega
    · rw [rd_nat, wrap_id (n := (m : Int) - 1) (by omega)]
      exact e
theorem ShiftTurned : trishawlaw07_ShiftTurned.Pure := by
  intro l a b hl _ _ _ _
  refine Ev.rounds (g := fun k => trishawlaw07_ShiftTurned.f k l a b) ?_
  unfold trishawlaw07_ShiftTurned.f
  rw [few_f]
  have out : Ev (fun k => trishawlaw07_ShiftTurned.j0 k l a b true) true := by
    refine Ev.step (fun k => by rw [trishawlaw07_ShiftTurned.j0]) ?_
    exact ev_pos rfl alive_ev'
  by_cases hf : decide (l.length ≤ 40 ∧ ([] : List Int).length ≤ 100) = true
  · refine ev_pos hf (Ev.bind (day_f l a) ?_)
    by_cases hg : dayE l a = 0
    · have g := day_good.1 hg
      obtain ⟨t, rfl⟩ := g.nat
      have hp := g.pos
      have hlen := g.len
      have hn : needsE l = 0 := needs_zero.2 ⟨g.len, g.pos, g.low, g.high⟩
      have e1 := shift_turned l b
      have e2 := shift_turned l l.length
      rw [if_pos hn] at e1 e2
      rw [turned_whole] at e2
      have p := Int.emod_nonneg b (show (l.length : Int) ≠ 0 by omega)
      have q := Int.emod_lt_of_pos b (show 0 < (l.length : Int) by omega)
      have g' : Good (turned l b) t := good_perm g (turned_len l b) (fun x hx => turned_mem hx)
      have h0 := turned_l0 g g' (turned_len l b) (fun T S => by
        rw [turned_rot]; exact can_rot_iff hp (by have := g.one; omega) (by have := g.top; omega) (by omega)) l.length (Nat.le_refl _)
      rw [List.drop_length, List.reverse_nil] at h0
      rw [hg]
      refine Ev.step (fun k => by rw [trishawlaw07_ShiftTurned.j0]) ?_
      refine ev_neg (fun h => by cases h) (Ev.bind e1 (Ev.bind e2 (ev_pos rfl (ev_pos rfl (ev_pos ?_ (Ev.bind (same_f l (by omega)) ?_))))))
      · rw [turned_len]
      · refine Ev.step (fun k => by rw [trishawlaw07_ShiftTurned.j1]) ?_
        refine ev_neg (fun h => by cases h) ?_
        rw [wrap_id (n := (l.length : Int) - 1) (by omega)]
        exact h0
    · have : (dayE l a != 0) = true := bne_iff_ne.2 hg
      rw [this]; exact out
  · exact ev_neg hf out
end Go.Proofs.Ytfopdfolbdmnjaa.Pure
