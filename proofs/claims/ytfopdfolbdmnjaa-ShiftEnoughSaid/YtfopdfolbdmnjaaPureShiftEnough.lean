/- The statement ShiftEnough, of what the walked functions compute: Enough and Spare are the document's. Conditions: none but the bounds of the law. -/
import Derived.Test.YtfopdfolbdmnjaaPx27
import Derived.Test.YtfopdfolbdmnjaaRefPl
namespace Go.Proofs.Ytfopdfolbdmnjaa.Pure
open Go.RowKit Go.Proofs.Ytfopdfolbdmnjaa.P Go.Proofs.YtfopdfolbdmnjaaW.PrintWords Go.Proofs.YtfopdfolbdmnjaaW.PrintLast Go.Proofs.YtfopdfolbdmnjaaW.PrintMore

theorem total_one (f : Nat → Int) (a : Nat) : ∀ n, total (fun i => f i * if i = a then 1 else 0) n = if a < n then f a else 0 := by
  intro n
  induction n with
  | zero => show (0 : Int) = _; rw [if_neg (Nat.not_lt_zero _)]
  | succ n ih =>
    show total (fun i => f i * if i = a then 1 else 0) n + f n * (if n = a then 1 else 0) = _
    rw [ih]
    by_cases h : n = a
    · subst h; rw [if_pos rfl, if_neg (Nat.lt_irrefl _), if_pos (by omega)]; omega
    · rw [if_neg h]
      by_cases h2 : a < n
      · rw [if_pos h2, if_pos (by omega)]; omega
      · rw [if_neg h2, if_neg (by omega)]; omega
theorem total_addf (f g : Nat → Int) : ∀ m, total (fun s => f s + g s) m = total f m + total g m := by
  intro m
  induction m with
  | zero => rfl
  | succ m ih => show total (fun s => f s + g s) m + (f m + g m) = (total f m + f m) + (total g m + g m); omega
/-- One hour more of the shift: who began t hours ago. -/
theorem covp_succ {p : List Int} {t h : Nat} (hh : h < p.length) (ht : t < p.length) : covp p (t + 1) h = covp p t h + p.getD ((h + p.length - t) % p.length) 0 := by
  have hm : (h + p.length - t) % p.length < p.length := Nat.mod_lt _ (by omega)
  have h1 := total_one (fun i => p.getD i 0) ((h + p.length - t) % p.length) p.length
  rw [if_pos hm] at h1
  rw [← h1]
  unfold covp
  rw [← total_addf]
  apply total_congr
  intro i hi
  have e : (h + p.length - t) % p.length = if t ≤ h then h - t else h + p.length - t := by
    split
    · next c => rw [show h + p.length - t = (h - t) + p.length by omega, Nat.add_mod_right, Nat.mod_eq_of_lt (by omega)]
    · next c => rw [Nat.mod_eq_of_lt (by omega)]
  rw [← Int.mul_add, cv_eq hi hh, cv_eq hi hh, e]
  congr 1
  repeat' split
  all_goals omega
theorem there_l0 {p : List Int} (hp : ∀ x, x ∈ p → 0 ≤ x ∧ x ≤ 600) (hl : p.length ≤ 12) {t h : Nat} (hh : h < p.length) (tn : t ≤ p.length) : ∀ (d j : Nat), j + d = t →
    Ev (fun k => trishawref07_there.l0 k p t h (covp p j h) j) (covp p t h) := by
  intro d
  induction d with
  | zero =>
    intro j hj
    obtain rfl : j = t := by omega
    refine Ev.step (fun k => by rw [trishawref07_there.l0]) ?_
    exact ev_neg (by omega) (Ev.now _)
  | succ d ih =>
    intro j hj
    have e := ih (j + 1) (by omega)
    rw [covp_succ hh (by omega)] at e
    have hm : (h + p.length - j) % p.length < p.length := Nat.mod_lt _ (by omega)
    have hb : 0 ≤ covp p j h ∧ covp p j h ≤ 600 * (p.length : Int) := covp_range hp j h p.length (Nat.le_refl _)
    have hx := hp _ (getD_mem hm)
    have htm : Int.tmod ((h : Int) - j + p.length) p.length = (((h + p.length - j) % p.length : Nat) : Int) := by
      rw [Int.tmod_eq_emod_of_nonneg (by omega), Int.natCast_emod]; congr 1; omega
    refine Ev.step (fun k => by rw [trishawref07_there.l0]) ?_
    rw [wrap_id (n := (h : Int) - j) (by omega), wrap_id (n := (h : Int) - j + p.length) (by omega), htm, rd_nat, wrap_id (n := covp p j h + p.getD ((h + p.length - j) % p.length) 0) (by omega), wrap_id (n := (j : Int) + 1) (by omega)]
    exact ev_pos (by omega) (ev_neg (by omega) (ev_pos (by omega) (ev_pos (by omega) e)))
theorem covp_zero (p : List Int) (h : Nat) : covp p 0 h = 0 := by
  unfold covp
  have : ∀ i, i < p.length → (fun i => p.getD i 0 * cv p.length 0 i h) i = (fun _ => (0 : Int)) i := by
    intro i _
    show p.getD i 0 * cv p.length 0 i h = 0
    have : cv p.length 0 i h = 0 := by unfold cv; rw [if_neg (Nat.not_lt_zero _)]
    rw [this]; omega
  rw [total_congr _ this, total_const]; omega
theorem there_f {p : List Int} (hp : ∀ x, x ∈ p → 0 ≤ x ∧ x ≤ 600) (hl : p.length ≤ 12) {t h : Nat} (hh : h < p.length) (tn : t ≤ p.length) : Ev (fun k => trishawref07_there.f k p t h) (covp p t h) := by
  have e := there_l0 hp hl hh tn t 0 (by omega)
  rw [covp_zero] at e
  unfold trishawref07_there.f
  exact e
theorem refspare_l0 {l p : List Int} {t : Nat} (g : Good l t) (ip : IsPl l p) : ∀ (d i : Nat), i + d = l.length →
    Ev (fun k => trishawref07_Spare.l0 k l t p ((spareL l p t).take i) i) (spareL l p t, 0) := by
  intro d
  have hl := g.len
  have hsl := spareL_len l p t
  obtain ⟨hpl, hpx⟩ := ip
  induction d with
  | zero =>
    intro i hi
    obtain rfl : i = l.length := by omega
    refine Ev.step (fun k => by rw [trishawref07_Spare.l0]) ?_
    rw [show (spareL l p t).take l.length = spareL l p t by rw [← hsl, List.take_length]]
    exact ev_neg (by omega) (Ev.now _)
  | succ d ih =>
    intro i hi
    have e := ih (i + 1) (by omega)
    rw [List.take_add_one, List.getElem?_eq_getElem (by omega), Option.toList_some] at e
    have hg := spareL_get l p t (show i < l.length by omega)
    rw [List.getD_eq_getElem?_getD, List.getElem?_eq_getElem (by omega)] at hg
    have hg' : (spareL l p t)[i]'(by omega) = covp p t i - l.getD i 0 := hg
    rw [hg'] at e
    have hb : 0 ≤ covp p t i ∧ covp p t i ≤ 600 * (p.length : Int) := covp_range hpx t i p.length (Nat.le_refl _)
    have x0 := g.low _ (getD_mem (show i < l.length by omega))
    have x1 := g.high _ (getD_mem (show i < l.length by omega))
    refine Ev.step (fun k => by rw [trishawref07_Spare.l0]) ?_
    refine ev_pos (by omega) (Ev.bind (there_f hpx (by omega) (by omega) (by have := g.top; omega)) (ev_pos (by omega) (ev_pos (by rw [List.length_take]; omega) ?_)))
    rw [rd_nat, wrap_id (n := covp p t i - l.getD i 0) (by omega), wrap_id (n := (i : Int) + 1) (by omega)]
    exact e
theorem RefSpare (l p : List Int) (a : Int) (hp : p.length < 1000) : ∃ w, Ev (fun k => shift_Spare.f k l a p) w ∧ Ev (fun k => trishawref07_Spare.f k l a p) w ∧ w.1.length ≤ 12 := by
  by_cases hg : dayE l a = 0
  · have g := day_good.1 hg
    obtain ⟨t, rfl⟩ := g.nat
    obtain ⟨b, e, hb⟩ := refisplan_f l p hp
    by_cases ip : IsPl l p
    · refine ⟨_, Spare_good g ip, ?_, by rw [spareL_len]; exact g.len⟩
      unfold trishawref07_Spare.f
      exact Ev.bind (day_f l t) (ev_pos hg (Ev.bind e (ev_pos (hb.2 ip) (refspare_l0 g ip l.length 0 (by omega)))))
    · refine ⟨_, Spare_no g ip, ?_, Nat.zero_le _⟩
      unfold trishawref07_Spare.f
      exact Ev.bind (day_f l t) (ev_pos hg (Ev.bind e (ev_neg (fun h => ip (hb.1 h)) (Ev.now _))))
  · refine ⟨_, Spare_bad hg, ?_, Nat.zero_le _⟩
    unfold trishawref07_Spare.f
    exact Ev.bind (day_f l a) (ev_neg hg (Ev.now _))
theorem refenough_l0 {l p : List Int} {t : Nat} (g : Good l t) (ip : IsPl l p) : ∀ (d i : Nat) (b : Bool), i + d = l.length → (b = true ↔ ∀ h, h < i → l.getD h 0 ≤ covp p t h) →
    ∃ b', Ev (fun k => trishawref07_Enough.l0 k l t p (sizeP p i) b i) (sizeP p p.length, b', 0) ∧ (b' = true ↔ Covers l p t) := by
  intro d
  have hl := g.len
  obtain ⟨hpl, hpx⟩ := ip
  induction d with
  | zero =>
    intro i b hi hb
    obtain rfl : i = l.length := by omega
    refine ⟨b, Ev.step (fun k => by rw [trishawref07_Enough.l0]) ?_, hb⟩
    rw [← hpl]
    exact ev_neg (by omega) (Ev.now _)
  | succ d ih =>
    intro i b hi hb
    have hs := sizeP_range hpx i (by omega)
    have hx := hpx _ (getD_mem (show i < p.length by omega))
    by_cases c : b = true
    · obtain ⟨b', e, hb'⟩ := ih (i + 1) (decide (covp p t i ≥ l.getD i 0)) (by omega) (by
        rw [decide_eq_true_iff]
        constructor
        · intro h j hj
          by_cases q : j = i
          · rw [q]; exact h
          · exact hb.1 c j (by omega)
        · intro h; exact h i (by omega))
      refine ⟨b', Ev.step (fun k => by rw [trishawref07_Enough.l0]) ?_, hb'⟩
      refine ev_pos (by omega) (ev_pos c (Ev.bind (there_f hpx (by omega) (by omega) (by have := g.top; omega)) (ev_pos (by omega) (ev_pos (by omega) ?_))))
      rw [rd_nat, rd_nat, wrap_id (n := sizeP p i + p.getD i 0) (by omega), wrap_id (n := (i : Int) + 1) (by omega)]
      exact e
    · obtain ⟨b', e, hb'⟩ := ih (i + 1) false (by omega) ⟨(fun h => by cases h), fun h => absurd (hb.2 fun j hj => h j (by omega)) c⟩
      refine ⟨b', Ev.step (fun k => by rw [trishawref07_Enough.l0]) ?_, hb'⟩
      rw [rd_nat p, wrap_id (n := sizeP p i + p.getD i 0) (by omega), wrap_id (n := (i : Int) + 1) (by omega)]
      exact ev_pos (by omega) (ev_neg c (ev_pos (by omega) (ev_pos (by omega) e)))
theorem RefEnough (l p : List Int) (a : Int) (hp : p.length < 1000) : ∃ w, Ev (fun k => shift_Enough.f k l a p) w ∧ Ev (fun k => trishawref07_Enough.f k l a p) w := by
  by_cases hg : dayE l a = 0
  · have g := day_good.1 hg
    obtain ⟨t, rfl⟩ := g.nat
    obtain ⟨b, e, hb⟩ := refisplan_f l p hp
    by_cases ip : IsPl l p
    · obtain ⟨b1, e1, h1⟩ := Enough_good g ip
      obtain ⟨b2, e2, h2⟩ := refenough_l0 g ip l.length 0 true (by omega) ⟨fun _ h hh => absurd hh (Nat.not_lt_zero _), fun _ => rfl⟩
      have : b1 = b2 := by rw [Bool.eq_iff_iff, h1, h2]
      subst this
      refine ⟨_, e1, ?_⟩
      unfold trishawref07_Enough.f
      exact Ev.bind (day_f l t) (ev_pos hg (Ev.bind e (ev_pos (hb.2 ip) e2)))
    · refine ⟨_, Enough_no g ip, ?_⟩
      unfold trishawref07_Enough.f
      exact Ev.bind (day_f l t) (ev_pos hg (Ev.bind e (ev_neg (fun h => ip (hb.1 h)) (Ev.now _))))
  · refine ⟨_, Enough_bad hg, ?_⟩
    unfold trishawref07_Enough.f
    exact Ev.bind (day_f l a) (ev_neg hg (Ev.now _))
theorem ShiftEnough : trishawlaw07_ShiftEnough.Pure := by
  intro l a p hl _ _ _ _ _ _
  refine Ev.rounds (g := fun k => trishawlaw07_ShiftEnough.f k l a p) ?_
  unfold trishawlaw07_ShiftEnough.f
  rw [few_f]
  by_cases hf : decide (l.length ≤ 40 ∧ p.length ≤ 100) = true
  · have hf' := of_decide_eq_true hf
    obtain ⟨w, e1, e2⟩ := RefEnough l p a (by omega)
    obtain ⟨w', e3, e4, h4⟩ := RefSpare l p a (by omega)
    refine ev_pos hf (ev_pos (by simp only [List.length_nil]; omega) (ev_pos (by simp only [List.length_nil]; omega) (Ev.bind (Ev.now _) (Ev.bind e1 (Ev.bind e2 (ev_pos rfl ?_))))))
    have h5 : Ev (fun k => trishawlaw07_ShiftEnough.j0 k l a p l p (w.2.2 != w.2.2)) true := by
      refine Ev.step (fun k => by rw [trishawlaw07_ShiftEnough.j0]) ?_
      exact ev_neg (by simp) (Ev.bind e3 (Ev.bind e4 (Ev.bind (same_f w'.1 (by omega)) (ev_pos rfl (ev_pos rfl (Ev.bind (same_f l (by omega)) (ev_pos rfl (Ev.bind (same_f p (by omega)) (ev_pos rfl alive_ev')))))))))
    exact ev_neg (by simp) h5
  · exact ev_neg hf alive_ev'
end Go.Proofs.Ytfopdfolbdmnjaa.Pure
