/- What Worth and Proof of the shift package answer. Conditions: one to twelve hours, needs of 0 to 50. -/
import Derived.Test.YtfopdfolbdmnjaaPx18
import Derived.Test.YtfopdfolbdmnjaaDual
namespace Go.Proofs.Ytfopdfolbdmnjaa.Pure
open Go.RowKit Go.Proofs.Ytfopdfolbdmnjaa.P Go.Proofs.YtfopdfolbdmnjaaW.PrintWords Go.Proofs.YtfopdfolbdmnjaaW.PrintLast Go.Proofs.YtfopdfolbdmnjaaW.PrintMore

/-- How many of a proof one shift covers at most. -/
def maxc (n t : Nat) (hs : List Int) : Nat → Int
  | 0 => 0
  | s + 1 => mx (maxc n t hs s) (csum n t s hs)
theorem maxc_ge (n t : Nat) (hs : List Int) : ∀ k s, s < k → csum n t s hs ≤ maxc n t hs k := by
  intro k
  induction k with
  | zero => intro s h; exact absurd h (Nat.not_lt_zero _)
  | succ k ih =>
    intro s h
    show _ ≤ mx (maxc n t hs k) (csum n t k hs)
    unfold mx
    by_cases e : s = k
    · subst e; split <;> omega
    · have := ih s (by omega); split <;> omega
theorem maxc_le {n t : Nat} {hs : List Int} {W : Int} (hW : 0 ≤ W) : ∀ k, (∀ s, s < k → csum n t s hs ≤ W) → maxc n t hs k ≤ W := by
  intro k
  induction k with
  | zero => intro _; exact hW
  | succ k ih =>
    intro h
    have h1 := ih (fun s hs => h s (by omega))
    have h2 := h k (by omega)
    show mx (maxc n t hs k) (csum n t k hs) ≤ W
    unfold mx; split <;> omega
theorem csum_le (n t s : Nat) : ∀ hs : List Int, csum n t s hs ≤ hs.length := by
  intro hs
  induction hs with
  | nil => exact Int.le_refl _
  | cons x r ih =>
    have : cv n t s x.toNat ≤ 1 := by unfold cv; split <;> omega
    show cv n t s x.toNat + csum n t s r ≤ _
    rw [List.length_cons]; omega
theorem maxc_nonneg (n t : Nat) (hs : List Int) : ∀ k, 0 ≤ maxc n t hs k := by
  intro k
  induction k with
  | zero => exact Int.le_refl _
  | succ k ih =>
    have := csum_nonneg n t k hs
    show 0 ≤ mx (maxc n t hs k) (csum n t k hs)
    unfold mx; split <;> omega
/-- The worth of a proof. -/
def wv (l : List Int) (t : Nat) (hs : List Int) : Int := (psum l hs + maxc l.length t hs l.length - 1) / maxc l.length t hs l.length
def badHour (l hs : List Int) : Prop := ∃ x, x ∈ hs ∧ (x < 0 ∨ x ≥ (l.length : Int))
theorem take_snoc {xs : List Int} {i : Nat} (h : i < xs.length) : xs.take (i + 1) = xs.take i ++ [xs.getD i 0] := by
  rw [List.take_add_one, List.getElem?_eq_getElem h, Option.toList_some, List.getD_eq_getElem?_getD, List.getElem?_eq_getElem h]; rfl
theorem worth_l2 {l : List Int} {t : Nat} (g : Good l t) {hs : List Int} (hlen : hs.length ≤ 60) (hh : ∀ x, x ∈ hs → 0 ≤ x ∧ x < (l.length : Int)) (P m : Int) (s : Nat) (hs' : s < l.length) (r : Int) (hr : Ev (fun k => shift_clock_worth.l1 k hs l.length P (mx m (csum l.length t s hs)) l.length ((s : Int) + 1) l t) r) : ∀ (d i : Nat), i + d = hs.length →
    Ev (fun k => shift_clock_worth.l2 k hs l.length P m s (csum l.length t s (hs.take i)) l.length s hs hs.length i l t) r := by
  intro d
  have hl := g.len
  induction d with
  | zero =>
    intro i hi
    obtain rfl : i = hs.length := by omega
    rw [List.take_length]
    refine Ev.step (fun k => by rw [shift_clock_worth.l2]) (ev_neg (by omega) ?_)
    rw [wrap_id (n := (s : Int) + 1) (by omega)]
    exact hr
  | succ d ih =>
    intro i hi
    have hlt : i < hs.length := by omega
    have hb := hh _ (getD_mem hlt)
    have hc := csum_le l.length t s (hs.take i)
    rw [List.length_take] at hc
    have hc0 := csum_nonneg l.length t s (hs.take i)
    have e := ih (i + 1) (by omega)
    rw [take_snoc hlt, csum_append] at e
    have hcv : csum l.length t s [hs.getD i 0] = cv l.length t s (hs.getD i 0).toNat := by show _ + 0 = _; omega
    rw [hcv] at e
    refine Ev.step (fun k => by rw [shift_clock_worth.l2]) (ev_pos (by omega) (ev_pos (by omega) (ev_pos (by omega) (ev_neg (by omega) ?_))))
    have htm : Int.tmod (hs.getD i 0 - s + l.length) l.length = (((hs.getD i 0).toNat + l.length - s) % l.length : Nat) := by
      rw [Int.tmod_eq_emod_of_nonneg (by omega), Int.natCast_emod]
      congr 1; omega
    rw [rd_nat, wrap_id (n := hs.getD i 0 - s) (by omega), wrap_id (n := hs.getD i 0 - s + l.length) (by omega), htm, wrap_id (n := csum l.length t s (hs.take i) + 1) (by omega), wrap_id (n := (i : Int) + 1) (by omega)]
    unfold cv at e
    by_cases c : ((hs.getD i 0).toNat + l.length - s) % l.length < t
    · rw [if_pos c] at e
      exact ev_pos (by omega) e
    · rw [if_neg c, Int.add_zero] at e
      exact ev_neg (by omega) e
theorem worth_l1 {l : List Int} {t : Nat} (g : Good l t) {hs : List Int} (hlen : hs.length ≤ 60) (hne : hs ≠ []) (hh : ∀ x, x ∈ hs → 0 ≤ x ∧ x < (l.length : Int)) : ∀ (d s : Nat), s + d = l.length →
    Ev (fun k => shift_clock_worth.l1 k hs l.length (psum l hs) (maxc l.length t hs s) l.length s l t) (wv l t hs) := by
  intro d
  have hl := g.len
  have hps := psum_le g.high g.low hs hh
  induction d with
  | zero =>
    intro s hs'
    obtain rfl : s = l.length := by omega
    obtain ⟨s0, h1, h2⟩ := csum_pos (by have := g.one; omega) hne hh (t := t)
    have h3 := maxc_ge l.length t hs l.length s0 h1
    have h4 : maxc l.length t hs l.length ≤ 60 := maxc_le (by omega) _ (fun s _ => by have := csum_le l.length t s hs; omega)
    refine Ev.step (fun k => by rw [shift_clock_worth.l1]) (ev_neg (by omega) (ev_neg (by omega) ?_))
    have h5 : 0 ≤ wv l t hs := Int.ediv_nonneg (by omega) (by omega)
    have h6 : wv l t hs ≤ 100000 := ceil_le (by omega) (by
      have : 100000 * (1 : Int) ≤ 100000 * maxc l.length t hs l.length := Int.mul_le_mul_of_nonneg_left (by omega) (by omega)
      omega)
    unfold wv at h5 h6 ⊢
    rw [wrap_id (n := psum l hs + maxc l.length t hs l.length) (by omega), wrap_id (n := psum l hs + maxc l.length t hs l.length - 1) (by omega), Int.tdiv_eq_ediv_of_nonneg (by omega), wrap_id (by omega)]
    exact Ev.now _
  | succ d ih =>
    intro s hs'
    refine Ev.step (fun k => by rw [shift_clock_worth.l1]) (ev_pos (by omega) ?_)
    exact worth_l2 g hlen hh (psum l hs) (maxc l.length t hs s) s (by omega) _ (ih (s + 1) (by omega)) hs.length 0 (by omega)
theorem worth_l0 {l : List Int} {t : Nat} (g : Good l t) {hs : List Int} (hlen : hs.length ≤ 60) (hne : hs ≠ []) (hh : ∀ x, x ∈ hs → 0 ≤ x ∧ x < (l.length : Int)) : ∀ (d i : Nat), i + d = hs.length →
    Ev (fun k => shift_clock_worth.l0 k hs l.length (psum l (hs.take i)) 0 hs hs.length i l t) (wv l t hs) := by
  intro d
  have hl := g.len
  induction d with
  | zero =>
    intro i hi
    obtain rfl : i = hs.length := by omega
    rw [List.take_length]
    refine Ev.step (fun k => by rw [shift_clock_worth.l0]) (ev_neg (by omega) ?_)
    exact worth_l1 g hlen hne hh l.length 0 (by omega)
  | succ d ih =>
    intro i hi
    have hlt : i < hs.length := by omega
    have hb := hh _ (getD_mem hlt)
    have e := ih (i + 1) (by omega)
    have hps := psum_le g.high g.low (hs.take i) (fun x hx => hh x (List.mem_of_mem_take hx))
    rw [List.length_take] at hps
    have hx0 := g.low _ (getD_mem (show (hs.getD i 0).toNat < l.length by omega))
    have hx1 := g.high _ (getD_mem (show (hs.getD i 0).toNat < l.length by omega))
    rw [take_snoc hlt, psum_append] at e
    have hcv : psum l [hs.getD i 0] = l.getD (hs.getD i 0).toNat 0 := by show _ + 0 = _; omega
    rw [hcv] at e
    refine Ev.step (fun k => by rw [shift_clock_worth.l0]) (ev_pos (by omega) (ev_pos (by omega) (ev_pos (by omega) (ev_pos ?_ (ev_pos ?_ ?_)))))
    · rw [rd_nat]; exact hb.1
    · rw [rd_nat]; exact hb.2
    · rw [rd_nat, show rd l (hs.getD i 0) = l.getD (hs.getD i 0).toNat 0 from rfl, wrap_id (n := psum l (hs.take i) + l.getD (hs.getD i 0).toNat 0) (by omega), wrap_id (n := (i : Int) + 1) (by omega)]
      exact e
theorem worth_f {l : List Int} {t : Nat} (g : Good l t) {hs : List Int} (hlen : hs.length ≤ 60) (hne : hs ≠ []) (hh : ∀ x, x ∈ hs → 0 ≤ x ∧ x < (l.length : Int)) : Ev (fun k => shift_clock_worth.f k l t hs) (wv l t hs) := by
  unfold shift_clock_worth.f
  exact worth_l0 g hlen hne hh hs.length 0 (by omega)
theorem Worth_good {l : List Int} {t : Nat} (g : Good l t) {hs : List Int} (hlen : hs.length ≤ 60) (hne : hs ≠ []) (hh : ∀ x, x ∈ hs → 0 ≤ x ∧ x < (l.length : Int)) : Ev (fun k => shift_Worth.f k l t hs) (wv l t hs, 0) := by
  have hpos : 0 < hs.length := List.length_pos_iff.2 hne
  obtain ⟨m, e1, h1, h2⟩ := min_f hs (by omega) hpos
  obtain ⟨m', e2, h3, h4⟩ := max_f hs (by omega) hpos
  unfold shift_Worth.f
  exact Ev.bind (read_good g) (ev_pos rfl (ev_neg (by omega) (ev_neg (by omega) (Ev.bind e1 (ev_neg (by have := hh m h1; omega) (Ev.bind e2 (ev_neg (by have := hh m' h3; omega) (Ev.bind (worth_f g hlen hne hh) (Ev.now _)))))))))
theorem Worth_no {l : List Int} {t : Nat} (g : Good l t) {hs : List Int} (h : hs.length = 0 ∨ hs.length > 60 ∨ badHour l hs) : Ev (fun k => shift_Worth.f k l t hs) (0, 2) := by
  unfold shift_Worth.f
  refine Ev.bind (read_good g) (ev_pos rfl ?_)
  by_cases h0 : hs.length = 0
  · exact ev_pos (by omega) (Ev.now _)
  refine ev_neg (by omega) ?_
  by_cases h1 : hs.length > 60
  · exact ev_pos (by omega) (Ev.now _)
  refine ev_neg (by omega) ?_
  obtain ⟨x, hx, hb⟩ := h.resolve_left h0 |>.resolve_left h1
  obtain ⟨m, e1, h2, h3⟩ := min_f hs (by omega) (by omega)
  obtain ⟨m', e2, h4, h5⟩ := max_f hs (by omega) (by omega)
  refine Ev.bind e1 ?_
  by_cases c : m < 0
  · exact ev_pos c (Ev.now _)
  · refine ev_neg c (Ev.bind e2 (ev_pos ?_ (Ev.now _)))
    have := h3 x hx
    have := h5 x hx
    omega
theorem Worth_bad {l : List Int} {a : Int} {hs : List Int} (g : dayE l a ≠ 0) : Ev (fun k => shift_Worth.f k l a hs) (0, dayE l a) := by
  unfold shift_Worth.f
  exact Ev.bind (read_bad g) (ev_neg g (Ev.now _))
/-- The proof of the size below the least one is worth the least one. -/
theorem Proof_good {l : List Int} {t : Nat} (g : Good l t) {L : Int} (h : IsL l t 1 L) (hL : L ≤ 7200) (h0 : L ≠ 0) : ∃ hs, Ev (fun k => shift_Proof.f k l t) (hs, 0) ∧ hs ≠ [] ∧ hs.length ≤ 13 ∧ (∀ x, x ∈ hs → 0 ≤ x ∧ x < (l.length : Int)) ∧ wv l t hs = L := by
  have hL0 := h.nonneg
  have hp := g.pos
  have ht1 : 1 ≤ t := by have := g.one; omega
  have htn : t ≤ l.length := by have := g.top; omega
  obtain ⟨L', c, e1, h1, _⟩ := least_f g (T := 1) (by omega) (by omega)
  obtain rfl := h1.uniq h
  have sm := small_of g (T := 1) (S := L' - 1) (by omega) (by omega) (by omega) (by omega)
  obtain ⟨z, W, e2, ct⟩ := solve_cert sm (h.low _ (by omega))
  obtain ⟨v1, v2⟩ := ct.pos (by omega) hp ht1
  refine ⟨(thr' z).1, ?_, v2, ct.len, ct.hour, ?_⟩
  · unfold shift_Proof.f
    refine Ev.bind (read_good g) (ev_pos rfl (Ev.bind e1 (ev_neg h0 ?_)))
    rw [wrap_id (n := L' - 1) (by omega)]
    exact Ev.bind (bounds_f sm) (Ev.bind e2 (Ev.now _))
  · obtain ⟨s0, h2, h3⟩ := csum_pos ht1 v2 ct.hour
    have h4 := maxc_ge l.length t (thr' z).1 l.length s0 h2
    have h5 : maxc l.length t (thr' z).1 l.length ≤ W := maxc_le (by omega) _ ct.cover
    have h6 := ct.over
    have h7 : (L' - 1) * maxc l.length t (thr' z).1 l.length ≤ (L' - 1) * W := Int.mul_le_mul_of_nonneg_left h5 (by omega)
    have h8 := dual ht1 htn h.can (maxc_ge l.length t (thr' z).1 l.length) ct.hour
    unfold wv
    apply Int.le_antisymm
    · exact ceil_le (by omega) (by omega)
    · exact ceil_ge (by omega) (by omega)
theorem Proof_zero {l : List Int} {t : Nat} (g : Good l t) (h : IsL l t 1 0) : Ev (fun k => shift_Proof.f k l t) ([], 10) := by
  obtain ⟨L', c, e1, h1, _⟩ := least_f g (T := 1) (by omega) (by omega)
  obtain rfl := h1.uniq h
  unfold shift_Proof.f
  exact Ev.bind (read_good g) (ev_pos rfl (Ev.bind e1 (ev_pos rfl (Ev.now _))))
theorem Proof_bad {l : List Int} {a : Int} (g : dayE l a ≠ 0) : Ev (fun k => shift_Proof.f k l a) ([], dayE l a) := by
  unfold shift_Proof.f
  exact Ev.bind (read_bad g) (ev_neg g (Ev.now _))
end Go.Proofs.Ytfopdfolbdmnjaa.Pure
