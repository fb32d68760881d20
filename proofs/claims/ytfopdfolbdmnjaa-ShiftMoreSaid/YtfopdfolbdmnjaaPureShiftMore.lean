/- The statement ShiftMore, of what the walked functions compute: With succeeds from Least on, Least grows with the needs and falls with the length. Conditions: none but the bounds of the law. -/
import Derived.Test.YtfopdfolbdmnjaaPx30
import Derived.Test.YtfopdfolbdmnjaaLex
import Derived.Test.YtfopdfolbdmnjaaWit
namespace Go.Proofs.Ytfopdfolbdmnjaa.Pure
open Go.RowKit Go.Proofs.Ytfopdfolbdmnjaa.P Go.Proofs.YtfopdfolbdmnjaaW.PrintWords Go.Proofs.YtfopdfolbdmnjaaW.PrintLast Go.Proofs.YtfopdfolbdmnjaaW.PrintMore

theorem can_needs {l l' : List Int} {t : Nat} {S : Int} (hl : l'.length = l.length) (h : ∀ i, i < l.length → l.getD i 0 ≤ l'.getD i 0) : Can l' t 1 S [] → Can l t 1 S [] := by
  intro ⟨y, c, f⟩
  refine ⟨y, ⟨by rw [← hl]; exact c.size, fun i hi => c.up i (by omega), fun i hi ht => ?_, fun i hi ht => ?_⟩, f⟩
  · have := c.low i (by omega) ht; have := h i hi; omega
  · have := c.wrap i (by omega) ht
    rw [hl] at this
    have := h i hi; omega
theorem can_grow {l l' : List Int} {t : Nat} {S d : Int} (t1 : 1 ≤ t) (_tn : t ≤ l.length) (hl : l'.length = l.length) {h : Nat} (hh : h < l.length) (hd : 0 ≤ d) (e : ∀ i, i < l.length → l'.getD i 0 = l.getD i 0 + if i = h then d else 0) : Can l t 1 S [] → Can l' t 1 (S + d) [] := by
  intro ⟨y, c, _⟩
  refine ⟨fun v => y v + if h < v then d else 0, ⟨?_, fun i hi => ?_, fun i hi ht => ?_, fun i hi ht => ?_⟩, fun j hj => absurd hj (Nat.not_lt_zero _)⟩
  · have := c.size
    show y l'.length + (if h < l'.length then d else 0) = y 0 + (if h < 0 then d else 0) + (S + d)
    rw [hl, if_pos hh, if_neg (Nat.not_lt_zero _)]; omega
  · have := c.up i (by omega)
    show y i + (if h < i then d else 0) ≤ y (i + 1) + (if h < i + 1 then d else 0)
    repeat' split
    all_goals omega
  · have := c.low i (by omega) ht
    show y (i + 1 - t) + (if h < i + 1 - t then d else 0) + l'.getD i 0 * 1 ≤ y (i + 1) + (if h < i + 1 then d else 0)
    rw [e i (by omega)]
    repeat' split
    all_goals omega
  · have := c.wrap i (by omega) ht
    show y (l'.length + (i + 1) - t) + (if h < l'.length + (i + 1) - t then d else 0) + l'.getD i 0 * 1 - (S + d) ≤ y (i + 1) + (if h < i + 1 then d else 0)
    rw [e i (by omega), hl]
    repeat' split
    all_goals omega
theorem can_longer {l : List Int} {t : Nat} {S : Int} (_t1 : 1 ≤ t) (tn : t + 1 ≤ l.length) : Can l t 1 S [] → Can l (t + 1) 1 S [] := by
  intro ⟨y, c, f⟩
  refine ⟨y, ⟨c.size, c.up, fun i hi ht => ?_, fun i hi ht => ?_⟩, f⟩
  · have h1 := c.low i hi (by omega)
    have h2 := c.le (show i + 1 - (t + 1) ≤ i + 1 - t by omega) (by omega)
    omega
  · by_cases h : i + 1 < t
    · have h1 := c.wrap i hi h
      have h2 := c.le (show l.length + (i + 1) - (t + 1) ≤ l.length + (i + 1) - t by omega) (by omega)
      omega
    · have h1 := c.low i hi (by omega)
      have h2 := c.le (show l.length + (i + 1) - (t + 1) ≤ l.length by omega) (Nat.le_refl _)
      have h3 := c.size
      rw [show i + 1 - t = 0 by omega] at h1
      omega
theorem more_j3 {l : List Int} {t : Nat} (g : Good l t) {L : Int} (h : IsL l t 1 L) : Ev (fun k => trishawlaw07_ShiftMore.j3 k l t L false) true := by
  have hl := g.len
  have htop := g.top
  refine Ev.step (fun k => by rw [trishawlaw07_ShiftMore.j3]) ?_
  refine ev_neg Bool.false_ne_true ?_
  by_cases c : (t : Int) = l.length
  · exact ev_pos c alive_ev'
  · have g' : Good l ((t + 1 : Nat) : Int) := ⟨g.len, g.pos, g.low, g.high, by have := g.one; omega, by omega⟩
    obtain ⟨L', e, h1, _⟩ := Least_good g'
    refine ev_neg c ?_
    rw [wrap_id (n := (t : Int) + 1) (by omega)]
    exact Ev.bind e (ev_pos rfl (ev_pos (h1.le (can_longer (by have := g.one; omega) (by omega) h.can)) alive_ev'))
theorem more_j2 {l : List Int} {t : Nat} (g : Good l t) {L : Int} (h : IsL l t 1 L) (hL : L ≤ 7200) {b d : Int} (b0 : 0 ≤ b ∧ b ≤ 255) (d0 : 0 ≤ d ∧ d ≤ 255) : Ev (fun k => trishawlaw07_ShiftMore.j2 k l t b d L) true := by
  have hl := g.len
  have hp := g.pos
  have hL0 := h.nonneg
  have ht1 : 1 ≤ t := by have := g.one; omega
  have htn : t ≤ l.length := by have := g.top; omega
  have p := Int.emod_nonneg b (show (l.length : Int) ≠ 0 by omega)
  have q := Int.emod_lt_of_pos b (show 0 < (l.length : Int) by omega)
  have htm : Int.tmod (wrap64 b) l.length = ((b % l.length).toNat : Int) := by
    rw [wrap_id (by omega), Int.tmod_eq_emod_of_nonneg b0.1]; omega
  generalize hi : (b % l.length).toNat = i at htm
  have hil : i < l.length := by omega
  have x0 := g.low _ (getD_mem hil)
  have x1 := g.high _ (getD_mem hil)
  have hm : mn 50 (wrap64 (rd l (i : Int) + wrap64 d)) = mn 50 (l.getD i 0 + d) := by
    rw [rd_nat, wrap_id (n := d) (by omega), wrap_id (by omega)]
  have hmb : l.getD i 0 ≤ mn 50 (l.getD i 0 + d) ∧ mn 50 (l.getD i 0 + d) ≤ 50 := by unfold mn; split <;> omega
  generalize mn 50 (l.getD i 0 + d) = v at hm hmb
  have hlen : (l.set i v).length = l.length := List.length_set ..
  have hset := fn_set l i v hil
  have hget : ∀ j, (l.set i v).getD j 0 = if j = i then v else l.getD j 0 := fun j => congrFun hset j
  have g' : Good (l.set i v) t := by
    refine ⟨by rw [hlen]; exact hl, by rw [hlen]; exact hp, fun x hx => ?_, fun x hx => ?_, g.one, by rw [hlen]; exact g.top⟩
    · rcases List.mem_or_eq_of_mem_set hx with h | h
      · exact g.low x h
      · omega
    · rcases List.mem_or_eq_of_mem_set hx with h | h
      · exact g.high x h
      · omega
  obtain ⟨L', e, h1, h2⟩ := Least_good g'
  have c1 : L ≤ L' := h.le (can_needs hlen (fun j hj => by rw [hget]; split; · next e => rw [e]; omega
                                                           · exact Int.le_refl _) h1.can)
  have c2 : L' ≤ L + (v - l.getD i 0) := h1.le (can_grow ht1 htn hlen hil (by omega) (fun j hj => by
    rw [hget]
    by_cases c : j = i
    · rw [if_pos c, if_pos c, c]; omega
    · rw [if_neg c, if_neg c]; omega) h.can)
  have hv : rd (l.set i v) (i : Int) = v := by rw [rd_nat, hget, if_pos rfl]
  have j := more_j3 g h
  refine Ev.step (fun k => by rw [trishawlaw07_ShiftMore.j2]) ?_
  rw [htm]
  refine Ev.bind (Ev.now _) (ev_pos (by simp only [List.length_nil]; omega) (Ev.bind (Ev.now _) (ev_neg (by omega) (ev_pos (by omega) (ev_pos (by simp only [List.nil_append]; omega) ?_)))))
  rw [List.nil_append, hm, Int.toNat_natCast]
  refine Ev.bind (Ev.now _) (Ev.bind e (ev_pos rfl (ev_neg (by dsimp only; omega) (ev_pos (by omega) ?_))))
  rw [hv, rd_nat, wrap_id (n := L + v) (by omega), wrap_id (n := L + v - l.getD i 0) (by omega), decide_eq_false (show ¬ (L', (0 : Int)).1 > L + v - l.getD i 0 by dsimp only; omega)]
  exact j
theorem ShiftMore : trishawlaw07_ShiftMore.Pure := by
  intro l a s b d hl _ _ _ hs hb hd
  refine Ev.rounds (g := fun k => trishawlaw07_ShiftMore.f k l a s b d) ?_
  unfold trishawlaw07_ShiftMore.f
  rw [few_f]
  have out : Ev (fun k => trishawlaw07_ShiftMore.j0 k l a s b d true) true := by
    refine Ev.step (fun k => by rw [trishawlaw07_ShiftMore.j0]) ?_
    exact ev_pos rfl alive_ev'
  by_cases hf : decide (l.length ≤ 40 ∧ ([] : List Int).length ≤ 100) = true
  · refine ev_pos hf (Ev.bind (day_f l a) ?_)
    by_cases hg : dayE l a = 0
    · have g := day_good.1 hg
      obtain ⟨t, rfl⟩ := g.nat
      have hs' : 0 ≤ s ∧ s ≤ 65535 := by simpa [Lit.wf, IntKind.min, IntKind.max, IntKind.signed, IntKind.bits] using hs
      have hb' : 0 ≤ b ∧ b ≤ 255 := by simpa [Lit.wf, IntKind.min, IntKind.max, IntKind.signed, IntKind.bits] using hb
      have hd' : 0 ≤ d ∧ d ≤ 255 := by simpa [Lit.wf, IntKind.min, IntKind.max, IntKind.signed, IntKind.bits] using hd
      obtain ⟨L, e1, h1, h2⟩ := Least_good g
      have j2 := more_j2 g h1 h2 hb' hd'
      have hS : Int.tmod (wrap64 s) 601 = s % 601 := by rw [wrap_id (by omega), Int.tmod_eq_emod_of_nonneg hs'.1]
      rw [hg]
      refine Ev.step (fun k => by rw [trishawlaw07_ShiftMore.j0]) ?_
      rw [hS]
      by_cases hc : Can l t 1 (s % 601) []
      · obtain ⟨p, e2, h3, h4, _, h5⟩ := With_good g (S := s % 601) (by omega) (by omega) hc
        have hle := h1.le hc
        have hpr := planIs_le _ _ _ h3 (fun x hx => by cases hx)
        have e3 := Enough_can g h4 (fun x hx => by have := hpr x hx; omega) h5
        refine ev_neg (fun h => by cases h) (Ev.bind e1 (Ev.bind e2 (ev_pos rfl (ev_neg ?_ (ev_pos rfl ?_)))))
        · dsimp only
          rw [decide_eq_true (show s % 601 ≥ L by omega)]; decide
        · refine Ev.step (fun k => by rw [trishawlaw07_ShiftMore.j1]) ?_
          exact ev_neg Bool.false_ne_true (ev_pos rfl (Ev.bind e3 (ev_pos rfl (ev_pos rfl (ev_pos rfl j2)))))
      · have e2 := With_none g (S := s % 601) (by omega) (by omega) hc
        have hlt : ¬ s % 601 ≥ L := fun h => hc (can_mono g.pos (by have := g.one; omega) h h1.can)
        refine ev_neg (fun h => by cases h) (Ev.bind e1 (Ev.bind e2 (ev_pos rfl (ev_neg ?_ (ev_neg (by decide) ?_)))))
        · dsimp only
          rw [decide_eq_false hlt]; decide
        · refine Ev.step (fun k => by rw [trishawlaw07_ShiftMore.j1]) ?_
          exact ev_neg (by decide) (ev_neg (by decide) j2)
    · have : (dayE l a != 0) = true := bne_iff_ne.2 hg
      rw [this]; exact out
  · exact ev_neg hf out
end Go.Proofs.Ytfopdfolbdmnjaa.Pure
