/- The statement ShiftPlanned, of what the walked functions compute: Plan is enough, of the size Least, and first; Spare tells whether a plan is enough. Conditions: none but the bounds of the law. -/
import Derived.Test.YtfopdfolbdmnjaaPx28
import Derived.Test.YtfopdfolbdmnjaaLex
import Derived.Test.YtfopdfolbdmnjaaRefPl
namespace Go.Proofs.Ytfopdfolbdmnjaa.Pure
open Go.RowKit Go.Proofs.Ytfopdfolbdmnjaa.P Go.Proofs.YtfopdfolbdmnjaaW.PrintWords Go.Proofs.YtfopdfolbdmnjaaW.PrintLast Go.Proofs.YtfopdfolbdmnjaaW.PrintMore

theorem planned_stop (p q : List Int) (L z : Int) (b : Bool) (i : Int) : Ev (fun k => trishawlaw07_ShiftPlanned.j6 k p L q z b i false) true := by
  refine Ev.step (fun k => by rw [trishawlaw07_ShiftPlanned.j6]) ?_
  exact ev_neg Bool.false_ne_true alive_ev'
theorem planned_l1 {p q : List Int} {L z : Int} {b : Bool} (hl : p.length = q.length) (hq : q.length ≤ 12) (hlex : b = true → z = L → ∀ i, i < q.length → (∀ j, j < i → q.getD j 0 = p.getD j 0) → q.getD i 0 ≤ p.getD i 0) : ∀ (d i : Nat), i + d = q.length → (∀ j, j < i → q.getD j 0 = p.getD j 0) →
    Ev (fun k => trishawlaw07_ShiftPlanned.l1 k p L q z b i) true := by
  intro d
  induction d with
  | zero =>
    intro i hi hj
    refine Ev.step (fun k => by rw [trishawlaw07_ShiftPlanned.l1]) ?_
    exact ev_neg (by omega) (planned_stop p q L z b i)
  | succ d ih =>
    intro i hi hj
    refine Ev.step (fun k => by rw [trishawlaw07_ShiftPlanned.l1]) ?_
    refine ev_pos (by omega) ?_
    by_cases hb : b = true
    · refine ev_pos hb ?_
      by_cases hz : z = L
      · have hle := hlex hb hz i (by omega) hj
        rw [show (z == L) = true from beq_iff_eq.2 hz]
        refine Ev.step (fun k => by rw [trishawlaw07_ShiftPlanned.j6]) ?_
        refine ev_pos rfl (ev_pos (by omega) (ev_pos (by omega) (ev_pos (by omega) ?_)))
        rw [rd_nat, rd_nat, wrap_id (n := (i : Int) + 1) (by omega)]
        by_cases c : q.getD i 0 = p.getD i 0
        · refine ev_pos c (ih (i + 1) (by omega) fun j hj' => ?_)
          by_cases e : j = i
          · rw [e]; exact c
          · exact hj j (by omega)
        · exact ev_neg c (ev_pos (by omega) alive_ev')
      · rw [show (z == L) = false from beq_eq_false_iff_ne.2 hz]
        exact planned_stop p q L z b i
    · exact ev_neg hb (planned_stop p q L z b i)
theorem planned_l0 {l p q s : List Int} {L z : Int} {b : Bool} (hs : s.length = l.length) (hl : l.length ≤ 12) (hb : b = true ↔ ∀ h, h < s.length → 0 ≤ s.getD h 0) (hlast : Ev (fun k => trishawlaw07_ShiftPlanned.l1 k p L q z b 0) true) : ∀ (d i : Nat) (c : Bool), i + d = s.length → (c = true ↔ ∃ h, h < i ∧ s.getD h 0 < 0) →
    Ev (fun k => trishawlaw07_ShiftPlanned.l0 k l p L q z b s c i) true := by
  intro d
  induction d with
  | zero =>
    intro i c hi hc
    obtain rfl : i = s.length := by omega
    have hcb : ¬ (c == b) = true := by
      intro h
      have h := eq_of_beq h
      subst h
      cases c
      · have h1 : ¬ ∀ h, h < s.length → 0 ≤ s.getD h 0 := fun h => Bool.false_ne_true (hb.2 h)
        exact h1 fun h hh => by
          by_cases q : s.getD h 0 < 0
          · exact absurd (hc.2 ⟨h, hh, q⟩) Bool.false_ne_true
          · omega
      · obtain ⟨h, hh, hn⟩ := hc.1 rfl
        have := hb.1 rfl h hh
        omega
    refine Ev.step (fun k => by rw [trishawlaw07_ShiftPlanned.l0]) ?_
    refine ev_neg (by omega) (ev_neg hcb ?_)
    rw [show ((s.length : Int) != (l.length : Int)) = false by rw [hs]; simp]
    refine Ev.step (fun k => by rw [trishawlaw07_ShiftPlanned.j4]) ?_
    exact ev_neg Bool.false_ne_true hlast
  | succ d ih =>
    intro i c hi hc
    refine Ev.step (fun k => by rw [trishawlaw07_ShiftPlanned.l0]) ?_
    refine ev_pos (by omega) ?_
    rw [wrap_id (n := (i : Int) + 1) (by omega)]
    by_cases h : c = true
    · refine ev_pos h (ih (i + 1) true (by omega) ⟨fun _ => ?_, fun _ => rfl⟩)
      obtain ⟨h, h1, h2⟩ := hc.1 h
      exact ⟨h, by omega, h2⟩
    · refine ev_neg h (ev_pos (by omega) ?_)
      rw [rd_nat]
      refine ih (i + 1) _ (by omega) ?_
      rw [decide_eq_true_iff]
      constructor
      · intro h2; exact ⟨i, by omega, h2⟩
      · intro ⟨j, h1, h2⟩
        by_cases e : j = i
        · rw [← e]; exact h2
        · exact absurd (hc.2 ⟨j, by omega, h2⟩) h
theorem ShiftPlanned : trishawlaw07_ShiftPlanned.Pure := by
  intro l a p hl _ _ _ _ _ _
  refine Ev.rounds (g := fun k => trishawlaw07_ShiftPlanned.f k l a p) ?_
  unfold trishawlaw07_ShiftPlanned.f
  rw [few_f]
  have out : Ev (fun k => trishawlaw07_ShiftPlanned.j0 k l a p true) true := by
    refine Ev.step (fun k => by rw [trishawlaw07_ShiftPlanned.j0]) ?_
    exact ev_pos rfl alive_ev'
  by_cases hf : decide (l.length ≤ 40 ∧ p.length ≤ 100) = true
  · have hf' := of_decide_eq_true hf
    refine ev_pos hf (Ev.bind (day_f l a) ?_)
    by_cases hg : dayE l a = 0
    · have g := day_good.1 hg
      obtain ⟨t, rfl⟩ := g.nat
      have hlen := g.len
      have ht1 : 1 ≤ t := by have := g.one; omega
      have htn : t ≤ l.length := by have := g.top; omega
      obtain ⟨L, e1, h1, h1'⟩ := Least_good g
      obtain ⟨q, e2, hq1, hq2, _, hq3⟩ := Plan_good g h1
      have h600 := least_le g h1
      have hqr := planIs_le _ _ _ hq1 (fun x hx => by cases hx)
      have hqr' : ∀ x, x ∈ q → 0 ≤ x ∧ x ≤ 600 := fun x hx => by have := hqr x hx; omega
      have e3 := Enough_can g hq2 hqr' hq3
      obtain ⟨b0, e4, hb0⟩ := refisplan_f l p (by omega)
      rw [hg]
      refine Ev.step (fun k => by rw [trishawlaw07_ShiftPlanned.j0]) ?_
      refine ev_neg (fun h => by cases h) (Ev.bind e1 (Ev.bind e2 (Ev.bind e3 (ev_pos rfl (ev_pos rfl (ev_pos rfl (ev_pos rfl (ev_pos rfl ?_))))))))
      have hj1 : Ev (fun k => trishawlaw07_ShiftPlanned.j1 k l t p L q false) true := by
        by_cases ip : IsPl l p
        · obtain ⟨b, e5, hb⟩ := Enough_good g ip
          have e6 := Spare_good g ip
          have hcov := covers_can ht1 htn ip.1 (fun x hx => (ip.2 x hx).1)
          have hpos : ∀ x, x ∈ p → 0 ≤ x := fun x hx => (ip.2 x hx).1
          have h3 := planned_l1 (p := p) (q := q) (L := L) (z := sizeP p p.length) (b := b) (by rw [ip.1, hq2]) (by omega) (fun hbt hz i hi hj => by
            have := planIs_lex l.length [] q p hq1 (by rw [List.nil_append, ← hz]; exact hcov.1 (hb.1 hbt)) ip.1 hpos i (Nat.zero_le _) (by simp only [List.length_nil]; omega) hj
            exact this) q.length 0 (by omega) (fun j hj => absurd hj (Nat.not_lt_zero _))
          have hsl := spareL_len l p t
          have h4 := planned_l0 (l := l) (p := p) (q := q) (s := spareL l p t) (L := L) (z := sizeP p p.length) (b := b) hsl hlen (by
            rw [hb]
            constructor
            · intro h i hi; rw [spareL_get l p t (by omega)]; have := h i (by omega); omega
            · intro h i hi; have := h i (by omega); rw [spareL_get l p t hi] at this; omega) h3 (spareL l p t).length 0 false (by omega) ⟨(fun h => by cases h), fun ⟨h, hh, _⟩ => absurd hh (Nat.not_lt_zero _)⟩
          refine Ev.step (fun k => by rw [trishawlaw07_ShiftPlanned.j1]) ?_
          refine ev_neg Bool.false_ne_true (Ev.bind e5 (Ev.bind e6 (ev_pos rfl (Ev.bind e4 ?_))))
          rw [hb0.2 ip]
          refine Ev.step (fun k => by rw [trishawlaw07_ShiftPlanned.j2]) ?_
          exact ev_neg (fun h => by cases h) (ev_pos rfl h4)
        · have e5 := Enough_no g ip
          have e6 := Spare_no g ip
          have hb : b0 = false := by
            cases b0
            · rfl
            · exact absurd (hb0.1 rfl) ip
          refine Ev.step (fun k => by rw [trishawlaw07_ShiftPlanned.j1]) ?_
          refine ev_neg Bool.false_ne_true (Ev.bind e5 (Ev.bind e6 (ev_pos rfl (Ev.bind e4 ?_))))
          rw [hb]
          refine Ev.step (fun k => by rw [trishawlaw07_ShiftPlanned.j2]) ?_
          exact ev_neg (fun h => by cases h) (ev_neg (by decide) (ev_pos rfl (ev_neg Bool.false_ne_true alive_ev')))
      have hne : ((q.length : Int) != (l.length : Int)) = false := by rw [hq2]; simp
      show Ev (fun k => trishawlaw07_ShiftPlanned.j1 k l t p L q ((q.length : Int) != (l.length : Int))) true
      rw [hne]
      exact hj1
    · have : (dayE l a != 0) = true := bne_iff_ne.2 hg
      rw [this]; exact out
  · exact ev_neg hf out
end Go.Proofs.Ytfopdfolbdmnjaa.Pure
