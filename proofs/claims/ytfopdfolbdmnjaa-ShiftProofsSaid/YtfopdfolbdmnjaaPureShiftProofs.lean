/- The statement ShiftProofs, of what the walked functions compute: Worth judges as the document does, and Proof is worth the least size. Conditions: none but the bounds of the law. -/
import Derived.Test.YtfopdfolbdmnjaaPx19
import Derived.Test.YtfopdfolbdmnjaaRefLst
import Derived.Test.YtfopdfolbdmnjaaWth
namespace Go.Proofs.Ytfopdfolbdmnjaa.Pure
open Go.RowKit Go.Proofs.Ytfopdfolbdmnjaa.P Go.Proofs.YtfopdfolbdmnjaaW.PrintWords Go.Proofs.YtfopdfolbdmnjaaW.PrintLast Go.Proofs.YtfopdfolbdmnjaaW.PrintMore

/-- How often each hour stands in a list. -/
def cnt : List Int → Nat → Int
  | [], _ => 0
  | x :: r, h => (if x.toNat = h then 1 else 0) + cnt r h
theorem cnt_append (a b : List Int) (h : Nat) : cnt (a ++ b) h = cnt a h + cnt b h := by
  induction a with
  | nil => show cnt b h = 0 + cnt b h; omega
  | cons x a ih => show _ + cnt (a ++ b) h = _ + cnt a h + cnt b h; omega
theorem cnt_le (hs : List Int) (h : Nat) : 0 ≤ cnt hs h ∧ cnt hs h ≤ hs.length := by
  induction hs with
  | nil => exact ⟨Int.le_refl _, Int.le_refl _⟩
  | cons x r ih =>
    show 0 ≤ (if x.toNat = h then 1 else 0) + cnt r h ∧ (if x.toNat = h then 1 else 0) + cnt r h ≤ _
    rw [List.length_cons]
    split <;> omega
theorem cv_total {n s h : Nat} (hs : s < n) (hh : h < n) : ∀ t, t ≤ n → total (fun i => if h = (s + i) % n then 1 else 0) t = cv n t s h := by
  intro t
  induction t with
  | zero => intro _; show (0 : Int) = cv n 0 s h; unfold cv; rw [if_neg (Nat.not_lt_zero _)]
  | succ t ih =>
    intro ht
    show total (fun i => if h = (s + i) % n then 1 else 0) t + (if h = (s + t) % n then 1 else 0) = _
    rw [ih (by omega), cv_eq hs hh, cv_eq hs hh]
    have e : (s + t) % n = if s + t < n then s + t else s + t - n := by
      split
      · next c => exact Nat.mod_eq_of_lt c
      · next c => rw [Nat.mod_eq_sub_mod (by omega), Nat.mod_eq_of_lt (by omega)]
    rw [e]
    repeat' split
    all_goals omega
theorem csum_total {n s : Nat} (t : Nat) (tn : t ≤ n) (hs' : s < n) : ∀ hs : List Int, (∀ x, x ∈ hs → 0 ≤ x ∧ x < (n : Int)) → total (fun i => cnt hs ((s + i) % n)) t = csum n t s hs := by
  intro hs
  induction hs with
  | nil =>
    intro _
    show total (fun _ => 0) t = 0
    rw [total_const]; omega
  | cons x r ih =>
    intro hh
    have hx := hh x (List.mem_cons_self ..)
    have h1 := ih (fun z hz => hh z (List.mem_cons_of_mem _ hz))
    have h2 := cv_total (h := x.toNat) hs' (by omega) t tn
    have h3 : ∀ (f g : Nat → Int) m, total (fun s => f s + g s) m = total f m + total g m := by
      intro f g m
      induction m with
      | zero => rfl
      | succ m ih => show total (fun s => f s + g s) m + (f m + g m) = (total f m + f m) + (total g m + g m); omega
    have h4 : total (fun i => cnt (x :: r) ((s + i) % n)) t = total (fun i => (fun i => if x.toNat = (s + i) % n then 1 else 0) i + (fun i => cnt r ((s + i) % n)) i) t := rfl
    rw [h4, h3, h1, h2]; rfl
theorem refworth_l2 {l : List Int} {t : Nat} (g : Good l t) {hs c : List Int} (hlen : hs.length ≤ 60) (hh : ∀ x, x ∈ hs → 0 ≤ x ∧ x < (l.length : Int)) (hc : c.length = l.length) (hcn : ∀ h, h < l.length → fn c h = cnt hs h) (P m : Int) (s : Nat) (hs' : s < l.length) (r : Int × Int) (hr : Ev (fun k => trishawref07_Worth.l1 k l t P c (mx m (csum l.length t s hs)) ((s : Int) + 1)) r) : ∀ (d i : Nat), i + d = t →
    Ev (fun k => trishawref07_Worth.l2 k l t P c m s (total (fun i => cnt hs ((s + i) % l.length)) i) i) r := by
  intro d
  have hl := g.len
  have htn : t ≤ l.length := by have := g.top; omega
  have hsm : ∀ i, 0 ≤ total (fun i => cnt hs ((s + i) % l.length)) i ∧ total (fun i => cnt hs ((s + i) % l.length)) i ≤ 60 * (i : Int) := by
    intro i
    induction i with
    | zero => exact ⟨Int.le_refl _, Int.le_refl _⟩
    | succ i ih =>
      have := cnt_le hs ((s + i) % l.length)
      show 0 ≤ total (fun i => cnt hs ((s + i) % l.length)) i + cnt hs ((s + i) % l.length) ∧ total (fun i => cnt hs ((s + i) % l.length)) i + cnt hs ((s + i) % l.length) ≤ _
      omega
  induction d with
  | zero =>
    intro i hi
    obtain rfl : i = t := by omega
    refine Ev.step (fun k => by rw [trishawref07_Worth.l2]) (ev_neg (by omega) ?_)
    rw [wrap_id (n := (s : Int) + 1) (by omega), csum_total i htn hs' hs hh]
    exact hr
  | succ d ih =>
    intro i hi
    have e := ih (i + 1) (by omega)
    have h1 := hsm i
    have hm : (s + i) % l.length < l.length := Nat.mod_lt _ (by omega)
    have h2 := cnt_le hs ((s + i) % l.length)
    have htm : Int.tmod ((s : Int) + i) l.length = (((s + i) % l.length : Nat) : Int) := by
      rw [Int.tmod_eq_emod_of_nonneg (by omega), Int.natCast_emod]; congr 1
    refine Ev.step (fun k => by rw [trishawref07_Worth.l2]) (ev_pos (by omega) (ev_neg (by omega) ?_))
    rw [wrap_id (n := (s : Int) + i) (by omega), htm]
    refine ev_pos (by omega) (ev_pos (by omega) ?_)
    rw [rd_nat, show c.getD ((s + i) % l.length) 0 = cnt hs ((s + i) % l.length) from hcn _ hm, wrap_id (n := total (fun i => cnt hs ((s + i) % l.length)) i + cnt hs ((s + i) % l.length)) (by omega), wrap_id (n := (i : Int) + 1) (by omega)]
    exact e
theorem refworth_l1 {l : List Int} {t : Nat} (g : Good l t) {hs c : List Int} (hlen : hs.length ≤ 60) (hne : hs ≠ []) (hh : ∀ x, x ∈ hs → 0 ≤ x ∧ x < (l.length : Int)) (hc : c.length = l.length) (hcn : ∀ h, h < l.length → fn c h = cnt hs h) : ∀ (d s : Nat), s + d = l.length →
    Ev (fun k => trishawref07_Worth.l1 k l t (psum l hs) c (maxc l.length t hs s) s) (wv l t hs, 0) := by
  intro d
  have hl := g.len
  have hps := psum_le g.high g.low hs hh
  induction d with
  | zero =>
    intro s hs'
    obtain rfl : s = l.length := by omega
    obtain ⟨s0, h1, h2⟩ := csum_pos (by have := g.one; omega) hne hh (t := t)
    have h3 := maxc_ge l.length t hs l.length s0 h1
    have h4 : maxc l.length t hs l.length ≤ 60 := maxc_le (by omega) _ (fun s _ => by have := csum_le l.length t s hs; omega)
    refine Ev.step (fun k => by rw [trishawref07_Worth.l1]) (ev_neg (by omega) (ev_neg (by omega) ?_))
    have h5 : 0 ≤ wv l t hs := Int.ediv_nonneg (by omega) (by omega)
    have h6 : wv l t hs ≤ 100000 := ceil_le (by omega) (by
      have : 100000 * (1 : Int) ≤ 100000 * maxc l.length t hs l.length := Int.mul_le_mul_of_nonneg_left (by omega) (by omega)
      omega)
    unfold wv at h5 h6 ⊢
    rw [wrap_id (n := psum l hs + maxc l.length t hs l.length) (by omega), wrap_id (n := psum l hs + maxc l.length t hs l.length - 1) (by omega), Int.tdiv_eq_ediv_of_nonneg (by omega), wrap_id (by omega)]
    exact Ev.now _
  | succ d ih =>
    intro s hs'
    refine Ev.step (fun k => by rw [trishawref07_Worth.l1]) (ev_pos (by omega) ?_)
    exact refworth_l2 g hlen hh hc hcn (psum l hs) (maxc l.length t hs s) s (by omega) _ (ih (s + 1) (by omega)) t 0 (by omega)
theorem refworth_l0 {l : List Int} {t : Nat} (g : Good l t) {hs : List Int} (hlen : hs.length ≤ 60) (hne : hs ≠ []) : ∀ (d i : Nat) (c : List Int), i + d = hs.length → c.length = l.length → (∀ h, h < l.length → fn c h = cnt (hs.take i) h) → (∀ x, x ∈ hs.take i → 0 ≤ x ∧ x < (l.length : Int)) →
    (∃ x, x ∈ hs.drop i ∧ (x < 0 ∨ x ≥ (l.length : Int))) ∧ Ev (fun k => trishawref07_Worth.l0 k l t hs (psum l (hs.take i)) c i) (0, 2) ∨ (∀ x, x ∈ hs → 0 ≤ x ∧ x < (l.length : Int)) ∧ Ev (fun k => trishawref07_Worth.l0 k l t hs (psum l (hs.take i)) c i) (wv l t hs, 0) := by
  intro d
  have hl := g.len
  induction d with
  | zero =>
    intro i c hi hc hcn hh
    obtain rfl : i = hs.length := by omega
    rw [List.take_length] at hh hcn ⊢
    right
    refine ⟨hh, Ev.step (fun k => by rw [trishawref07_Worth.l0]) (ev_neg (by omega) ?_)⟩
    exact refworth_l1 g hlen hne hh hc hcn l.length 0 (by omega)
  | succ d ih =>
    intro i c hi hc hcn hh
    have hlt : i < hs.length := by omega
    have hdrop : hs.drop i = hs.getD i 0 :: hs.drop (i + 1) := by
      rw [List.drop_eq_getElem_cons hlt, List.getD_eq_getElem?_getD, List.getElem?_eq_getElem hlt]; rfl
    by_cases hb1 : hs.getD i 0 < 0
    · left
      refine ⟨⟨hs.getD i 0, by rw [hdrop]; exact List.mem_cons_self .., .inl hb1⟩, Ev.step (fun k => by rw [trishawref07_Worth.l0]) (ev_pos (by omega) (ev_pos (by omega) (ev_pos ?_ (Ev.now _))))⟩
      rw [rd_nat]; exact hb1
    · by_cases hb2 : hs.getD i 0 ≥ (l.length : Int)
      · left
        refine ⟨⟨hs.getD i 0, by rw [hdrop]; exact List.mem_cons_self .., .inr hb2⟩, Ev.step (fun k => by rw [trishawref07_Worth.l0]) (ev_pos (by omega) (ev_pos (by omega) (ev_neg ?_ (ev_pos ?_ (Ev.now _)))))⟩
        · rw [rd_nat]; exact hb1
        · rw [rd_nat]; exact hb2
      · have hps := psum_le g.high g.low (hs.take i) hh
        rw [List.length_take] at hps
        have hx0 := g.low _ (getD_mem (show (hs.getD i 0).toNat < l.length by omega))
        have hx1 := g.high _ (getD_mem (show (hs.getD i 0).toNat < l.length by omega))
        have hcb := cnt_le (hs.take i) (hs.getD i 0).toNat
        rw [List.length_take] at hcb
        have hv : rd c (hs.getD i 0) = cnt (hs.take i) (hs.getD i 0).toNat := hcn _ (by omega)
        have hset := fn_set c (hs.getD i 0).toNat (cnt (hs.take i) (hs.getD i 0).toNat + 1) (by omega)
        have e := ih (i + 1) (c.set (hs.getD i 0).toNat (cnt (hs.take i) (hs.getD i 0).toNat + 1)) (by omega) (by rw [List.length_set]; exact hc) (by
          intro h hh'
          rw [hset, take_snoc hlt, cnt_append]
          show (if h = (hs.getD i 0).toNat then _ else fn c h) = cnt (hs.take i) h + ((if (hs.getD i 0).toNat = h then 1 else 0) + 0)
          by_cases e : h = (hs.getD i 0).toNat
          · rw [if_pos e, if_pos e.symm, e]; omega
          · rw [if_neg e, if_neg (fun h => e h.symm), hcn h hh']; omega) (by
          intro x hx
          rw [take_snoc hlt] at hx
          rcases List.mem_append.1 hx with hx | hx
          · exact hh x hx
          · obtain rfl : x = hs.getD i 0 := by simpa using hx
            omega)
        rw [take_snoc hlt, psum_append] at e
        have hcv : psum l [hs.getD i 0] = l.getD (hs.getD i 0).toNat 0 := by show _ + 0 = _; omega
        rw [hcv] at e
        have hstep : ∀ q, Ev (fun k => trishawref07_Worth.l0 k l t hs (psum l (hs.take i) + l.getD (hs.getD i 0).toNat 0) (c.set (hs.getD i 0).toNat (cnt (hs.take i) (hs.getD i 0).toNat + 1)) ((i + 1 : Nat) : Int)) q → Ev (fun k => trishawref07_Worth.l0 k l t hs (psum l (hs.take i)) c i) q := by
          intro q hq
          refine Ev.step (fun k => by rw [trishawref07_Worth.l0]) (ev_pos (by omega) (ev_pos (by omega) ?_))
          rw [rd_nat hs i]
          refine ev_neg hb1 (ev_neg hb2 (ev_pos (by omega) (ev_pos (by omega) (ev_pos (by omega) ?_))))
          rw [hv, show rd l (hs.getD i 0) = l.getD (hs.getD i 0).toNat 0 from rfl, wrap_id (n := psum l (hs.take i) + l.getD (hs.getD i 0).toNat 0) (by omega), wrap_id (n := cnt (hs.take i) (hs.getD i 0).toNat + 1) (by omega), wrap_id (n := (i : Int) + 1) (by omega)]
          exact hq
        rcases e with ⟨⟨x, hx, hb⟩, e⟩ | ⟨h, e⟩
        · exact .inl ⟨⟨x, by rw [hdrop]; exact List.mem_cons_of_mem _ hx, hb⟩, hstep _ e⟩
        · exact .inr ⟨h, hstep _ e⟩
theorem RefWorth_good {l : List Int} {t : Nat} (g : Good l t) {hs : List Int} (hlen : hs.length ≤ 60) (hne : hs ≠ []) : badHour l hs ∧ Ev (fun k => trishawref07_Worth.f k l t hs) (0, 2) ∨ (∀ x, x ∈ hs → 0 ≤ x ∧ x < (l.length : Int)) ∧ Ev (fun k => trishawref07_Worth.f k l t hs) (wv l t hs, 0) := by
  have hpos : 0 < hs.length := List.length_pos_iff.2 hne
  have hl := g.len
  have hstep : ∀ q, Ev (fun k => trishawref07_Worth.l0 k l t hs 0 (List.replicate l.length 0) 0) q → Ev (fun k => trishawref07_Worth.f k l t hs) q := by
    intro q hq
    unfold trishawref07_Worth.f
    refine Ev.bind (day_f l t) (ev_pos (day_good.2 g) (ev_neg (by omega) ?_))
    rw [decide_eq_false (show ¬ ((hs.length : Int) > 60) by omega)]
    refine Ev.step (fun k => by rw [trishawref07_Worth.j0]) (ev_neg Bool.false_ne_true (ev_pos (by omega) (ev_pos (by omega) ?_)))
    rw [Int.toNat_natCast]
    exact hq
  have h := refworth_l0 g hlen hne hs.length 0 (List.replicate l.length 0) (by omega) (List.length_replicate ..) (fun h _ => by rw [fn_rep]; rfl) (fun x hx => by cases hx)
  rcases h with ⟨h1, h2⟩ | ⟨h1, h2⟩
  · exact .inl ⟨h1, hstep _ h2⟩
  · exact .inr ⟨h1, hstep _ h2⟩
theorem RefWorth_no {l : List Int} {t : Nat} (g : Good l t) {hs : List Int} (h : hs.length = 0 ∨ hs.length > 60) : Ev (fun k => trishawref07_Worth.f k l t hs) (0, 2) := by
  unfold trishawref07_Worth.f
  refine Ev.bind (day_f l t) (ev_pos (day_good.2 g) ?_)
  have out : Ev (fun k => trishawref07_Worth.j0 k l t hs true) (0, 2) := Ev.step (fun k => by rw [trishawref07_Worth.j0]) (ev_pos rfl (Ev.now _))
  by_cases h0 : hs.length = 0
  · exact ev_pos (by omega) out
  · refine ev_neg (by omega) ?_
    rw [decide_eq_true (show (hs.length : Int) > 60 by omega)]
    exact out
theorem RefWorth_bad {l : List Int} {a : Int} {hs : List Int} (g : dayE l a ≠ 0) : Ev (fun k => trishawref07_Worth.f k l a hs) (0, dayE l a) := by
  unfold trishawref07_Worth.f
  exact Ev.bind (day_f l a) (ev_neg g (Ev.now _))
/-- Both judge a proof alike. -/
theorem worth_same (l : List Int) (a : Int) (hs : List Int) : ∃ w, Ev (fun k => shift_Worth.f k l a hs) w ∧ Ev (fun k => trishawref07_Worth.f k l a hs) w := by
  by_cases hg : dayE l a = 0
  · have g := day_good.1 hg
    obtain ⟨t, rfl⟩ := g.nat
    by_cases h0 : hs.length = 0 ∨ hs.length > 60
    · exact ⟨_, Worth_no g (h0.elim .inl fun h => .inr (.inl h)), RefWorth_no g h0⟩
    · have hne : hs ≠ [] := by rintro rfl; exact h0 (.inl rfl)
      rcases RefWorth_good g (by omega) hne with ⟨h1, h2⟩ | ⟨h1, h2⟩
      · exact ⟨_, Worth_no g (.inr (.inr h1)), h2⟩
      · exact ⟨_, Worth_good g (by omega) hne h1, h2⟩
  · exact ⟨_, Worth_bad hg, RefWorth_bad hg⟩
theorem ne_false' {a : Int} : ((a != a) = true) → False := by simp
theorem ShiftProofs : trishawlaw07_ShiftProofs.Pure := by
  intro l a hs hl _ _ _ _ _ _
  refine Ev.rounds (g := fun k => trishawlaw07_ShiftProofs.f k l a hs) ?_
  unfold trishawlaw07_ShiftProofs.f
  rw [few_f]
  by_cases hf : decide (l.length ≤ 40 ∧ hs.length ≤ 100) = true
  · obtain ⟨w, e1, e2⟩ := worth_same l a hs
    refine ev_pos hf (Ev.bind e1 (Ev.bind e2 (ev_pos rfl ?_)))
    by_cases hg : dayE l a = 0
    · have g := day_good.1 hg
      obtain ⟨t, rfl⟩ := g.nat
      obtain ⟨L, e3, h3, h4⟩ := Least_good g
      obtain ⟨L', e5, h5⟩ := RefLeast_good g
      obtain rfl := h5.uniq h3
      by_cases h0 : L' = 0
      · subst h0
        have e6 := Proof_zero g h3
        refine Ev.step (fun k => by rw [trishawlaw07_ShiftProofs.j0]) ?_
        refine ev_neg ne_false' (Ev.bind e6 (Ev.bind e6 (Ev.bind (same_f [] (by decide)) (ev_pos rfl ?_))))
        refine Ev.step (fun k => by rw [trishawlaw07_ShiftProofs.j1]) ?_
        refine ev_neg ne_false' (Ev.bind e5 (ev_pos rfl ?_))
        refine Ev.step (fun k => by rw [trishawlaw07_ShiftProofs.j2]) ?_
        refine ev_pos rfl ?_
        refine Ev.step (fun k => by rw [trishawlaw07_ShiftProofs.j3]) ?_
        exact ev_neg (by decide) (ev_pos rfl (ev_pos rfl alive_ev'))
      · obtain ⟨p, e6, h6, h7, h8, h9⟩ := Proof_good g h3 h4 h0
        refine Ev.step (fun k => by rw [trishawlaw07_ShiftProofs.j0]) ?_
        refine ev_neg ne_false' (Ev.bind e6 (Ev.bind e6 (Ev.bind (same_f p (by omega)) (ev_pos rfl ?_))))
        refine Ev.step (fun k => by rw [trishawlaw07_ShiftProofs.j1]) ?_
        refine ev_neg ne_false' (Ev.bind e5 (ev_pos rfl ?_))
        refine Ev.step (fun k => by rw [trishawlaw07_ShiftProofs.j2]) ?_
        refine ev_neg (fun h => h0 (eq_of_beq h)) ?_
        rcases RefWorth_good g (hs := p) (by omega) h6 with ⟨⟨x, hx, hb⟩, _⟩ | ⟨_, e7⟩
        · have := h8 x hx; omega
        · refine Ev.step (fun k => by rw [trishawlaw07_ShiftProofs.j3]) ?_
          exact ev_pos rfl (Ev.bind e7 (ev_pos rfl (ev_pos rfl (ev_pos h9 alive_ev'))))
    · have e6 := Proof_bad hg
      have e5 := RefLeast_bad hg
      refine Ev.step (fun k => by rw [trishawlaw07_ShiftProofs.j0]) ?_
      refine ev_neg ne_false' (Ev.bind e6 (Ev.bind e6 (Ev.bind (same_f [] (by decide)) (ev_pos rfl ?_))))
      refine Ev.step (fun k => by rw [trishawlaw07_ShiftProofs.j1]) ?_
      refine ev_neg ne_false' (Ev.bind e5 (ev_neg hg ?_))
      refine Ev.step (fun k => by rw [trishawlaw07_ShiftProofs.j2]) ?_
      refine ev_neg Bool.false_ne_true ?_
      refine Ev.step (fun k => by rw [trishawlaw07_ShiftProofs.j3]) ?_
      exact ev_neg hg (ev_pos rfl (ev_pos rfl alive_ev'))
  · exact ev_neg hf alive_ev'
end Go.Proofs.Ytfopdfolbdmnjaa.Pure
