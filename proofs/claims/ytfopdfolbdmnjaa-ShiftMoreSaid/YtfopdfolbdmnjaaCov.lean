/- What Spare and Enough of the shift package answer: how much of a plan covers each hour. Conditions: one to twelve hours, needs of 0 to 50. -/
import Derived.Test.YtfopdfolbdmnjaaPx25
import Derived.Test.YtfopdfolbdmnjaaDual
namespace Go.Proofs.Ytfopdfolbdmnjaa.Pure
open Go.RowKit Go.Proofs.Ytfopdfolbdmnjaa.P Go.Proofs.YtfopdfolbdmnjaaW.PrintWords Go.Proofs.YtfopdfolbdmnjaaW.PrintLast Go.Proofs.YtfopdfolbdmnjaaW.PrintMore

/-- A list of the day's length, of numbers of 0 to 600. -/
def IsPl (l p : List Int) : Prop := p.length = l.length ∧ ∀ x, x ∈ p → 0 ≤ x ∧ x ≤ 600
/-- How many of the plan p are there in the hour h. -/
def covp (p : List Int) (t h : Nat) : Int := total (fun i => p.getD i 0 * cv p.length t i h) p.length
theorem isPlan_f {l : List Int} {t : Nat} (g : Good l t) (p : List Int) : ∃ b, Ev (fun k => shift_clock_isPlan.f k l t p) b ∧ (b = true ↔ IsPl l p) := by
  have hl := g.len
  have hp := g.pos
  unfold shift_clock_isPlan.f
  by_cases h : (p.length : Int) = l.length
  · obtain ⟨m, e1, h1, h2⟩ := min_f p (by omega) (by omega)
    obtain ⟨m', e2, h3, h4⟩ := max_f p (by omega) (by omega)
    by_cases c : m ≥ 0
    · refine ⟨_, ev_pos h (Ev.bind e1 (ev_pos c (Ev.bind e2 (Ev.now _)))), ?_⟩
      constructor
      · intro hd
        have := of_decide_eq_true hd
        exact ⟨by omega, fun x hx => by have := h2 x hx; have := h4 x hx; omega⟩
      · intro ⟨_, hd⟩
        exact decide_eq_true (hd m' h3).2
    · refine ⟨_, ev_pos h (Ev.bind e1 (ev_neg c (Ev.now false))), ⟨(fun h => by cases h), fun ⟨_, hd⟩ => ?_⟩⟩
      have := hd m h1; omega
  · exact ⟨_, ev_neg h (Ev.now false), ⟨(fun h => by cases h), fun ⟨hd, _⟩ => by omega⟩⟩
theorem cv_succ {n t s h : Nat} (hs : s < n) (hh : h < n) (ht : t < n) : cv n (t + 1) s h = cv n t s h + if h = (s + t) % n then 1 else 0 := by
  rw [cv_eq hs hh, cv_eq hs hh]
  have e : (s + t) % n = if s + t < n then s + t else s + t - n := by
    split
    · next c => exact Nat.mod_eq_of_lt c
    · next c => rw [Nat.mod_eq_sub_mod (by omega), Nat.mod_eq_of_lt (by omega)]
  rw [e]
  repeat' split
  all_goals omega
theorem cv_range (n t s h : Nat) : 0 ≤ cv n t s h ∧ cv n t s h ≤ 1 := by unfold cv; split <;> omega
theorem covp_range {p : List Int} (hp : ∀ x, x ∈ p → 0 ≤ x ∧ x ≤ 600) (t h : Nat) : ∀ m, m ≤ p.length → 0 ≤ total (fun i => p.getD i 0 * cv p.length t i h) m ∧ total (fun i => p.getD i 0 * cv p.length t i h) m ≤ 600 * (m : Int) := by
  intro m
  induction m with
  | zero => intro _; exact ⟨Int.le_refl _, Int.le_refl _⟩
  | succ m ih =>
    intro hm
    have h1 := ih (by omega)
    have h2 := hp _ (getD_mem (show m < p.length by omega))
    have h3 := cv_range p.length t m h
    have h4 : 0 ≤ p.getD m 0 * cv p.length t m h := Int.mul_nonneg h2.1 h3.1
    have h5 : p.getD m 0 * cv p.length t m h ≤ 600 * 1 := Int.mul_le_mul h2.2 h3.2 h3.1 (by omega)
    show 0 ≤ total (fun i => p.getD i 0 * cv p.length t i h) m + p.getD m 0 * cv p.length t m h ∧ total (fun i => p.getD i 0 * cv p.length t i h) m + p.getD m 0 * cv p.length t m h ≤ _
    omega
theorem covered_l1 {l p : List Int} {t : Nat} (g : Good l t) (ip : IsPl l p) (i : Nat) (hi : i < p.length) (r : List Int) (hr : ∀ x : List Int, x.length = p.length → (∀ h, h < p.length → fn x h = total (fun i => p.getD i 0 * cv p.length t i h) (i + 1)) → Ev (fun k => shift_clock_covered.l0 k l.length x p p.length ((i : Int) + 1) l t) r) : ∀ (d j : Nat) (x : List Int), j + d = t → x.length = p.length → (∀ h, h < p.length → fn x h = total (fun i => p.getD i 0 * cv p.length t i h) i + p.getD i 0 * cv p.length j i h) →
    Ev (fun k => shift_clock_covered.l1 k l.length x i (p.getD i 0) p p.length i t j l t) r := by
  intro d
  have hl := g.len
  have hpos := g.pos
  have htn : t ≤ l.length := by have := g.top; omega
  obtain ⟨hpl, hpx⟩ := ip
  induction d with
  | zero =>
    intro j x hj hx hf
    obtain rfl : j = t := by omega
    refine Ev.step (fun k => by rw [shift_clock_covered.l1]) ?_
    refine ev_neg (by omega) ?_
    rw [wrap_id (n := (i : Int) + 1) (by omega)]
    exact hr x hx hf
  | succ d ih =>
    intro j x hj hx hf
    have hm : (i + j) % p.length < p.length := Nat.mod_lt _ (by omega)
    have htm : Int.tmod ((i : Int) + j) l.length = (((i + j) % p.length : Nat) : Int) := by
      rw [Int.tmod_eq_emod_of_nonneg (by omega), Int.natCast_emod, hpl]; congr 1
    have hv := hpx _ (getD_mem hi)
    have hb := covp_range hpx t ((i + j) % p.length) i (by omega)
    have hc := cv_range p.length j i ((i + j) % p.length)
    have h4 : 0 ≤ p.getD i 0 * cv p.length j i ((i + j) % p.length) := Int.mul_nonneg hv.1 hc.1
    have h5 : p.getD i 0 * cv p.length j i ((i + j) % p.length) ≤ 600 * 1 := Int.mul_le_mul hv.2 hc.2 hc.1 (by omega)
    have hfv : rd x (((i + j) % p.length : Nat) : Int) = total (fun i' => p.getD i' 0 * cv p.length t i' ((i + j) % p.length)) i + p.getD i 0 * cv p.length j i ((i + j) % p.length) := by
      rw [rd_nat]; exact hf _ hm
    have e := ih (j + 1) (x.set ((i + j) % p.length) (rd x (((i + j) % p.length : Nat) : Int) + p.getD i 0)) (by omega) (by rw [List.length_set]; exact hx) (by
      intro h hh
      rw [fn_set _ _ _ (by omega), cv_succ hi hh (by omega)]
      dsimp only
      by_cases c : h = (i + j) % p.length
      · rw [if_pos c, if_pos c, hfv, Int.mul_add, Int.mul_one, c]; omega
      · rw [if_neg c, if_neg c, hf h hh, Int.mul_add, Int.mul_zero]; omega)
    refine Ev.step (fun k => by rw [shift_clock_covered.l1]) ?_
    rw [wrap_id (n := (i : Int) + j) (by omega), htm]
    refine ev_pos (by omega) (ev_neg (by omega) (ev_pos (by omega) (ev_pos (by omega) ?_)))
    rw [Int.toNat_natCast, wrap_id (n := rd x (((i + j) % p.length : Nat) : Int) + p.getD i 0) (by omega), wrap_id (n := (j : Int) + 1) (by omega)]
    exact e
theorem covered_l0 {l p : List Int} {t : Nat} (g : Good l t) (ip : IsPl l p) : ∀ (d i : Nat) (x : List Int), i + d = p.length → x.length = p.length → (∀ h, h < p.length → fn x h = total (fun i => p.getD i 0 * cv p.length t i h) i) →
    ∃ r : List Int, Ev (fun k => shift_clock_covered.l0 k l.length x p p.length i l t) r ∧ r.length = p.length ∧ ∀ h, h < p.length → fn r h = covp p t h := by
  intro d
  have hl := g.len
  have hpl := ip.1
  induction d with
  | zero =>
    intro i x hi hx hf
    obtain rfl : i = p.length := by omega
    refine ⟨x, Ev.step (fun k => by rw [shift_clock_covered.l0]) ?_, hx, hf⟩
    exact ev_neg (by omega) (Ev.now _)
  | succ d ih =>
    intro i x hi hx hf
    -- what the inner loop comes to is told by its numbers
    have hy : ∃ y : List Int, y.length = p.length ∧ ∀ h, h < p.length → fn y h = total (fun i => p.getD i 0 * cv p.length t i h) (i + 1) := by
      refine ⟨(List.range p.length).map fun h => total (fun i => p.getD i 0 * cv p.length t i h) (i + 1), by rw [List.length_map, List.length_range], fun h hh => ?_⟩
      unfold fn
      rw [List.getD_eq_getElem?_getD, List.getElem?_map, List.getElem?_range hh]; rfl
    obtain ⟨y, hy1, hy2⟩ := hy
    obtain ⟨r, e, h1, h2⟩ := ih (i + 1) y (by omega) hy1 hy2
    refine ⟨r, Ev.step (fun k => by rw [shift_clock_covered.l0]) ?_, h1, h2⟩
    refine ev_pos (by omega) (ev_pos (by omega) (ev_pos (by omega) ?_))
    rw [rd_nat]
    refine covered_l1 g ip i (by omega) r (fun x' hx' hf' => ?_) t 0 x (by omega) hx (fun h hh => ?_)
    · have : x' = y := by
        apply List.ext_getElem (by omega)
        intro h q1 q2
        have a1 := hf' h (by omega)
        have a2 := hy2 h (by omega)
        unfold fn at a1 a2
        rw [List.getD_eq_getElem?_getD, List.getElem?_eq_getElem q1] at a1
        rw [List.getD_eq_getElem?_getD, List.getElem?_eq_getElem q2] at a2
        exact a1.trans a2.symm
      rw [this]; exact e
    · rw [hf h hh]
      have : cv p.length 0 i h = 0 := by unfold cv; rw [if_neg (Nat.not_lt_zero _)]
      rw [this]; omega
theorem covered_f {l p : List Int} {t : Nat} (g : Good l t) (ip : IsPl l p) : ∃ r : List Int, Ev (fun k => shift_clock_covered.f k l t p) r ∧ r.length = p.length ∧ ∀ h, h < p.length → fn r h = covp p t h := by
  have hl := g.len
  obtain ⟨r, e, h⟩ := covered_l0 g ip p.length 0 (List.replicate l.length 0) (by omega) (by rw [List.length_replicate]; exact ip.1.symm) (fun h _ => by rw [fn_rep]; rfl)
  refine ⟨r, ?_, h⟩
  unfold shift_clock_covered.f
  refine ev_pos (by omega) (ev_pos (by omega) ?_)
  rw [Int.toNat_natCast]
  exact e
/-- How many more there are than needed, hour by hour. -/
def spareL (l p : List Int) (t : Nat) : List Int := (List.range l.length).map fun h => covp p t h - l.getD h 0
theorem spareL_get (l p : List Int) (t : Nat) {h : Nat} (hh : h < l.length) : (spareL l p t).getD h 0 = covp p t h - l.getD h 0 := by
  unfold spareL
  rw [List.getD_eq_getElem?_getD, List.getElem?_map, List.getElem?_range hh]; rfl
theorem spareL_len (l p : List Int) (t : Nat) : (spareL l p t).length = l.length := by unfold spareL; rw [List.length_map, List.length_range]
theorem spare_ext {l p : List Int} {t : Nat} {x : List Int} (hx : x.length = l.length) (h : ∀ h, h < l.length → fn x h = covp p t h - l.getD h 0) : x = spareL l p t := by
  apply List.ext_getElem (by rw [spareL_len]; exact hx)
  intro i q1 q2
  have a1 := h i (by omega)
  have a2 := spareL_get l p t (show i < l.length by omega)
  unfold fn at a1
  rw [List.getD_eq_getElem?_getD, List.getElem?_eq_getElem q1] at a1
  rw [List.getD_eq_getElem?_getD, List.getElem?_eq_getElem q2] at a2
  exact a1.trans a2.symm
theorem spare_l0 {l p : List Int} {t : Nat} (g : Good l t) (ip : IsPl l p) : ∀ (d i : Nat) (x : List Int), i + d = l.length → x.length = l.length → (∀ h, h < l.length → fn x h = covp p t h - if h < i then l.getD h 0 else 0) →
    Ev (fun k => shift_Spare.l0 k x l l.length i) (spareL l p t, 0) := by
  intro d
  have hl := g.len
  obtain ⟨hpl, hpx⟩ := ip
  induction d with
  | zero =>
    intro i x hi hx hf
    refine Ev.step (fun k => by rw [shift_Spare.l0]) ?_
    rw [← spare_ext hx (fun h hh => by rw [hf h hh, if_pos (by omega)])]
    exact ev_neg (by omega) (Ev.now _)
  | succ d ih =>
    intro i x hi hx hf
    have hv := hf i (by omega)
    rw [if_neg (by omega), Int.sub_zero] at hv
    have hb := covp_range hpx t i p.length (Nat.le_refl _)
    have hb' : 0 ≤ covp p t i ∧ covp p t i ≤ 600 * (p.length : Int) := hb
    have x0 := g.low _ (getD_mem (show i < l.length by omega))
    have x1 := g.high _ (getD_mem (show i < l.length by omega))
    have hrv : rd x (i : Int) = covp p t i := by rw [rd_nat]; exact hv
    have e := ih (i + 1) (x.set i (covp p t i - l.getD i 0)) (by omega) (by rw [List.length_set]; exact hx) (by
      intro h hh
      rw [fn_set _ _ _ (by omega)]
      dsimp only
      by_cases c : h = i
      · rw [if_pos c, if_pos (by omega), c]
      · rw [if_neg c, hf h hh]
        by_cases c2 : h < i
        · rw [if_pos c2, if_pos (by omega)]
        · rw [if_neg c2, if_neg (by omega)])
    refine Ev.step (fun k => by rw [shift_Spare.l0]) ?_
    rw [hrv, rd_nat l, Int.toNat_natCast, wrap_id (n := covp p t i - l.getD i 0) (by omega), wrap_id (n := (i : Int) + 1) (by omega)]
    exact ev_pos (by omega) (ev_pos (by omega) (ev_pos (by omega) (ev_pos (by omega) e)))
theorem Spare_good {l p : List Int} {t : Nat} (g : Good l t) (ip : IsPl l p) : Ev (fun k => shift_Spare.f k l t p) (spareL l p t, 0) := by
  obtain ⟨b, e1, h1⟩ := isPlan_f g p
  obtain ⟨r, e2, h2, h3⟩ := covered_f g ip
  have hpl := ip.1
  unfold shift_Spare.f
  refine Ev.bind (read_good g) (ev_pos rfl (Ev.bind e1 (ev_pos (h1.2 ip) (Ev.bind e2 ?_))))
  exact spare_l0 g ip l.length 0 r (by omega) (by omega) (fun h hh => by rw [h3 h (by omega), if_neg (Nat.not_lt_zero _)]; omega)
theorem Spare_no {l p : List Int} {t : Nat} (g : Good l t) (ip : ¬ IsPl l p) : Ev (fun k => shift_Spare.f k l t p) ([], 2) := by
  obtain ⟨b, e1, h1⟩ := isPlan_f g p
  unfold shift_Spare.f
  exact Ev.bind (read_good g) (ev_pos rfl (Ev.bind e1 (ev_neg (fun h => ip (h1.1 h)) (Ev.now _))))
theorem Spare_bad {l p : List Int} {a : Int} (g : dayE l a ≠ 0) : Ev (fun k => shift_Spare.f k l a p) ([], dayE l a) := by
  unfold shift_Spare.f
  exact Ev.bind (read_bad g) (ev_neg g (Ev.now _))
/-- The plan's size. -/
def sizeP (p : List Int) : Nat → Int := total fun i => p.getD i 0
theorem sizeP_range {p : List Int} (hp : ∀ x, x ∈ p → 0 ≤ x ∧ x ≤ 600) : ∀ m, m ≤ p.length → 0 ≤ sizeP p m ∧ sizeP p m ≤ 600 * (m : Int) := by
  intro m
  induction m with
  | zero => intro _; exact ⟨Int.le_refl _, Int.le_refl _⟩
  | succ m ih =>
    intro hm
    have h1 := ih (by omega)
    have h2 := hp _ (getD_mem (show m < p.length by omega))
    show 0 ≤ sizeP p m + p.getD m 0 ∧ sizeP p m + p.getD m 0 ≤ _
    omega
/-- The plan covers all needs. -/
def Covers (l p : List Int) (t : Nat) : Prop := ∀ h, h < l.length → l.getD h 0 ≤ covp p t h
theorem enough_l0 {p x : List Int} (hp : ∀ x, x ∈ p → 0 ≤ x ∧ x ≤ 600) (hl : p.length ≤ 12) {m : Int} (hm : Ev (fun k => slices_Min_int_int.f k x) m) : ∀ (d i : Nat), i + d = p.length →
    Ev (fun k => shift_Enough.l0 k x (sizeP p i) p p.length i) (sizeP p p.length, decide (m ≥ 0), 0) := by
  intro d
  induction d with
  | zero =>
    intro i hi
    obtain rfl : i = p.length := by omega
    refine Ev.step (fun k => by rw [shift_Enough.l0]) ?_
    exact ev_neg (by omega) (Ev.bind hm (Ev.now _))
  | succ d ih =>
    intro i hi
    have h1 := sizeP_range hp i (by omega)
    have h2 := hp _ (getD_mem (show i < p.length by omega))
    refine Ev.step (fun k => by rw [shift_Enough.l0]) ?_
    rw [rd_nat, wrap_id (n := sizeP p i + p.getD i 0) (by omega), wrap_id (n := (i : Int) + 1) (by omega)]
    exact ev_pos (by omega) (ev_pos (by omega) (ev_pos (by omega) (ih (i + 1) (by omega))))
theorem Enough_good {l p : List Int} {t : Nat} (g : Good l t) (ip : IsPl l p) : ∃ b, Ev (fun k => shift_Enough.f k l t p) (sizeP p p.length, b, 0) ∧ (b = true ↔ Covers l p t) := by
  have hl := g.len
  have hp := g.pos
  have hsl := spareL_len l p t
  obtain ⟨m, e, h1, h2⟩ := min_f (spareL l p t) (by omega) (by omega)
  refine ⟨decide (m ≥ 0), ?_, ?_⟩
  · unfold shift_Enough.f
    exact Ev.bind (Spare_good g ip) (ev_pos rfl (enough_l0 ip.2 (by have := ip.1; omega) e p.length 0 (by omega)))
  · rw [decide_eq_true_iff]
    constructor
    · intro hm h hh
      have := h2 _ (getD_mem (l := spareL l p t) (i := h) (by omega))
      rw [spareL_get l p t hh] at this
      omega
    · intro hc
      obtain ⟨i, hi, hv⟩ := mem_getD h1
      rw [spareL_get l p t (by omega)] at hv
      have := hc i (by omega)
      omega
theorem Enough_no {l p : List Int} {t : Nat} (g : Good l t) (ip : ¬ IsPl l p) : Ev (fun k => shift_Enough.f k l t p) (0, false, 0) := by
  unfold shift_Enough.f
  exact Ev.bind (Spare_no g ip) (ev_neg (by decide) (Ev.bind (read_good g) (ev_pos rfl (Ev.now _))))
theorem Enough_bad {l p : List Int} {a : Int} (g : dayE l a ≠ 0) : Ev (fun k => shift_Enough.f k l a p) (0, false, dayE l a) := by
  unfold shift_Enough.f
  exact Ev.bind (Spare_bad g) (ev_neg g (Ev.bind (read_bad g) (ev_neg g (Ev.now _))))
/-- A plan that is enough is one in partial sums. -/
theorem covers_can {l p : List Int} {t : Nat} (t1 : 1 ≤ t) (tn : t ≤ l.length) (hp : p.length = l.length) (h0 : ∀ x, x ∈ p → 0 ≤ x) : Covers l p t ↔ Can l t 1 (sizeP p p.length) p := by
  have hc : ∀ h, covp p t h = cover l.length t (sizeP p) h := by
    intro h
    unfold covp cover
    rw [hp]
    apply total_congr
    intro i hi
    have : sizeP p (i + 1) = sizeP p i + p.getD i 0 := rfl
    rw [this]; congr 1; omega
  constructor
  · intro h
    refine ⟨sizeP p, ⟨?_, ?_, ?_, ?_⟩, fun j _ => rfl⟩
    · rw [hp]; show _ = 0 + _; omega
    · intro i hi
      have := h0 _ (getD_mem (show i < p.length by omega))
      show sizeP p i ≤ sizeP p i + p.getD i 0
      omega
    · intro i hi ht
      have h1 := h i hi
      rw [hc, cover_low _ t1 hi ht] at h1
      omega
    · intro i hi ht
      have h1 := h i hi
      rw [hc, cover_wrap _ hi ht tn] at h1
      have : sizeP p 0 = 0 := rfl
      rw [hp]
      omega
  · intro ⟨y, c, f⟩ h hh
    have hy : ∀ i, i ≤ p.length → y i = y 0 + sizeP p i := by
      intro i
      induction i with
      | zero => intro _; show _ = y 0 + 0; omega
      | succ i ih => intro hi; rw [f i (by omega), ih (by omega)]; show _ = y 0 + (sizeP p i + p.getD i 0); omega
    have h1 := need_cover c t1 tn hh
    have h2 : cover l.length t y h = covp p t h := by
      rw [hc]
      unfold cover
      apply total_congr
      intro i hi
      rw [hy (i + 1) (by omega), hy i (by omega)]; congr 1; omega
    omega
end Go.Proofs.Ytfopdfolbdmnjaa.Pure
