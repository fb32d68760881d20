/- What contradiction answers: the hours of a cycle of the arcs that moved the nodes, or nothing if all chains of such arcs end. Conditions: the arcs' ends are nodes below 13, the numbers name arcs. -/
import Derived.Test.YtfopdfolbdmnjaaSolve
namespace Go.Proofs.Ytfopdfolbdmnjaa.Pure
open Go.RowKit Go.Proofs.Ytfopdfolbdmnjaa.P Go.Proofs.YtfopdfolbdmnjaaW.PrintWords Go.Proofs.YtfopdfolbdmnjaaW.PrintLast Go.Proofs.YtfopdfolbdmnjaaW.PrintMore

theorem nodup_len : ∀ (n : Nat) (l : List Nat), l.Nodup → (∀ x, x ∈ l → x < n) → l.length ≤ n := by
  intro n
  induction n with
  | zero =>
    intro l _ h
    cases l with
    | nil => exact Nat.le_refl _
    | cons a l => exact absurd (h a (List.mem_cons_self ..)) (Nat.not_lt_zero _)
  | succ n ih =>
    intro l hn h
    by_cases hm : n ∈ l
    · have h1 := ih (l.erase n) (hn.erase n) (fun x hx => by
        have h2 := (hn.mem_erase_iff).1 hx
        have := h x h2.2
        have := h2.1
        omega)
      rw [List.length_erase_of_mem hm] at h1
      omega
    · have := ih l hn (fun x hx => by
        have := h x hx
        have : x ≠ n := fun e => hm (e ▸ hx)
        omega)
      omega

/-- The arc that moved a node last. -/
def arcOf (x1 : List S72) (x2 : List Int) (v : Nat) : S72 := rd_T72 x1 (rd x2 (v : Int))
def nx (x1 : List S72) (x2 : List Int) (v : Nat) : Nat := (arcOf x1 x2 v).f0.toNat
def hours (x1 : List S72) (x2 : List Int) (l : List Nat) : List Int := (l.map fun u => (arcOf x1 x2 u).f3).filter fun h => decide (h ≥ 0)
structure Preds (x1 : List S72) (x2 : List Int) : Prop where
  len : x2.length = 13
  num : ∀ x, x ∈ x2 → -1 ≤ x ∧ x < (x1.length : Int)
  ok : ∀ b, b ∈ x1 → OkP 13 b
inductive Rooted (x1 : List S72) (x2 : List Int) : Nat → Prop
  | root {v : Nat} (h : rd x2 (v : Int) < 0) : Rooted x1 x2 v
  | step {v : Nat} (h : 0 ≤ rd x2 (v : Int)) (h' : Rooted x1 x2 (nx x1 x2 v)) : Rooted x1 x2 v
/-- Each of the list leads to the one behind it, the last to e. -/
def Fw (x1 : List S72) (x2 : List Int) (e : Nat) : List Nat → Prop
  | [] => True
  | [u] => nx x1 x2 u = e
  | u :: w :: t => nx x1 x2 u = w ∧ Fw x1 x2 e (w :: t)
/-- Each of the list leads to the one before it, the first to c. -/
def Link (x1 : List S72) (x2 : List Int) : Nat → List Nat → Prop
  | _, [] => True
  | c, u :: t => nx x1 x2 u = c ∧ Link x1 x2 u t
structure Cyc (x1 : List S72) (x2 : List Int) (c : Nat) (l : List Nat) : Prop where
  fw : Fw x1 x2 c (c :: l)
  nodup : (c :: l).Nodup
  lt : ∀ w, w ∈ c :: l → w < 13 ∧ 0 ≤ rd x2 (w : Int)

theorem rd_bounds {x1 : List S72} {x2 : List Int} (p : Preds x1 x2) {v : Nat} (hv : v < 13) : -1 ≤ rd x2 (v : Int) ∧ rd x2 (v : Int) < (x1.length : Int) := by
  rw [rd_nat]
  exact p.num _ (getD_mem (by rw [p.len]; exact hv))
theorem arc_mem {x1 : List S72} {x2 : List Int} (p : Preds x1 x2) {v : Nat} (hv : v < 13) (h : 0 ≤ rd x2 (v : Int)) : arcOf x1 x2 v ∈ x1 := by
  have hb := rd_bounds p hv
  unfold arcOf rd_T72
  rw [List.getD_eq_getElem?_getD, List.getElem?_eq_getElem (by omega)]
  exact List.getElem_mem _
theorem nx_lt {x1 : List S72} {x2 : List Int} (p : Preds x1 x2) {v : Nat} (hv : v < 13) (h : 0 ≤ rd x2 (v : Int)) : nx x1 x2 v < 13 ∧ ((nx x1 x2 v : Nat) : Int) = (arcOf x1 x2 v).f0 := by
  have o := p.ok _ (arc_mem p hv h)
  have h0 := o.a0
  have h1 := o.a1
  unfold nx
  omega

theorem l2_spec {x1 : List S72} {x2 : List Int} (p : Preds x1 x2) (e : Nat) : ∀ (rest : List Nat) (u : Nat) (acc : List Int), Fw x1 x2 e (u :: rest) → (∀ w, w ∈ rest → w ≠ e) → (∀ w, w ∈ u :: rest → w < 13 ∧ 0 ≤ rd x2 (w : Int)) → acc.length + rest.length < 1000 →
    Ev (fun k => shift_clock_contradiction.l2 k x1 x2 e acc u) (acc ++ hours x1 x2 (u :: rest)) := by
  intro rest
  induction rest with
  | nil =>
    intro u acc hf hne hlt hlen
    obtain ⟨hu, hp⟩ := hlt u (List.mem_cons_self ..)
    have hb := rd_bounds p hu
    obtain ⟨hn, hn'⟩ := nx_lt p hu hp
    have he : (arcOf x1 x2 u).f0 = (e : Int) := by rw [← hn']; exact congrArg _ hf
    have hl := p.len
    refine Ev.step (fun k => by rw [shift_clock_contradiction.l2]) (ev_pos (by omega) (ev_pos (by omega) (ev_pos hp (ev_pos hb.2 ?_))))
    show Ev (fun k => if (arcOf x1 x2 u).f3 ≥ 0 then _ else _) _
    by_cases h3 : (arcOf x1 x2 u).f3 ≥ 0
    · have hh : hours x1 x2 [u] = [(arcOf x1 x2 u).f3] := by
        simp only [hours, List.map_cons, List.map_nil, List.filter_cons, List.filter_nil, h3, decide_true, if_true]
      rw [hh]
      exact ev_pos h3 (ev_pos (by omega) (ev_pos he (Ev.now _)))
    · have hh : hours x1 x2 [u] = [] := by
        simp only [hours, List.map_cons, List.map_nil, List.filter_cons, List.filter_nil, h3, decide_false, Bool.false_eq_true, if_false]
      rw [hh, List.append_nil]
      exact ev_neg h3 (ev_pos he (Ev.now _))
  | cons w t ih =>
    intro u acc hf hne hlt hlen
    obtain ⟨hu, hp⟩ := hlt u (List.mem_cons_self ..)
    have hb := rd_bounds p hu
    obtain ⟨hn, hn'⟩ := nx_lt p hu hp
    have hw : (arcOf x1 x2 u).f0 = (w : Int) := by rw [← hn']; exact congrArg _ hf.1
    have hwe := hne w (List.mem_cons_self ..)
    have he : ¬ (arcOf x1 x2 u).f0 = (e : Int) := by rw [hw]; omega
    have hl := p.len
    simp only [List.length_cons] at hlen
    refine Ev.step (fun k => by rw [shift_clock_contradiction.l2]) (ev_pos (by omega) (ev_pos (by omega) (ev_pos hp (ev_pos hb.2 ?_))))
    show Ev (fun k => if (arcOf x1 x2 u).f3 ≥ 0 then (if acc.length < 17592186044416 then ((some (acc ++ [(arcOf x1 x2 u).f3])).bind fun y => if (arcOf x1 x2 u).f0 = (e : Int) then some y else shift_clock_contradiction.l2 k x1 x2 e y (arcOf x1 x2 u).f0) else none) else if (arcOf x1 x2 u).f0 = (e : Int) then some acc else shift_clock_contradiction.l2 k x1 x2 e acc (arcOf x1 x2 u).f0) _
    have hne' : ∀ w', w' ∈ t → w' ≠ e := fun w' h => hne w' (List.mem_cons_of_mem _ h)
    have hlt' : ∀ w', w' ∈ w :: t → w' < 13 ∧ 0 ≤ rd x2 (w' : Int) := fun w' h => hlt w' (List.mem_cons_of_mem _ h)
    by_cases h3 : (arcOf x1 x2 u).f3 ≥ 0
    · have hh : hours x1 x2 (u :: w :: t) = (arcOf x1 x2 u).f3 :: hours x1 x2 (w :: t) := by
        unfold hours; rw [List.map_cons, List.filter_cons]; simp only [h3, decide_true, if_true]
      rw [hh]
      refine ev_pos h3 (ev_pos (by omega) (ev_neg he ?_))
      rw [hw]
      have := ih w (acc ++ [(arcOf x1 x2 u).f3]) hf.2 hne' hlt' (by simp only [List.length_append, List.length_cons, List.length_nil]; omega)
      rwa [List.append_assoc] at this
    · have hh : hours x1 x2 (u :: w :: t) = hours x1 x2 (w :: t) := by
        unfold hours; rw [List.map_cons, List.filter_cons]; simp only [h3, decide_false, Bool.false_eq_true, if_false]
      rw [hh]
      refine ev_neg h3 (ev_neg he ?_)
      rw [hw]
      exact ih w acc hf.2 hne' hlt' (by omega)

theorem fw_snoc {x1 : List S72} {x2 : List Int} {e : Nat} : ∀ (l : List Nat) (a b : Nat), Fw x1 x2 a (l ++ [b]) → nx x1 x2 a = e → Fw x1 x2 e (l ++ [b] ++ [a]) := by
  intro l
  induction l with
  | nil => intro a b h1 h2; exact ⟨h1, h2⟩
  | cons c l ih =>
    intro a b h1 h2
    cases l with
    | nil => exact ⟨h1.1, h1.2, h2⟩
    | cons d l => exact ⟨h1.1, ih a b h1.2 h2⟩
/-- The chain behind, read from its oldest on. -/
theorem link_fw {x1 : List S72} {x2 : List Int} : ∀ (t : List Nat) (u c : Nat), Link x1 x2 c (u :: t) → Fw x1 x2 c (u :: t).reverse := by
  intro t
  induction t with
  | nil => intro u c h; exact h.1
  | cons w t ih =>
    intro u c h
    have h1 := ih w u h.2
    rw [List.reverse_cons] at h1 ⊢
    rw [List.reverse_cons]
    exact fw_snoc t.reverse u w h1 h.1
theorem link_split {x1 : List S72} {x2 : List Int} : ∀ (a : List Nat) (c : Nat) (b : List Nat), Link x1 x2 c (a ++ b) → Link x1 x2 c a := by
  intro a
  induction a with
  | nil => intro c b _; trivial
  | cons u a ih => intro c b h; exact ⟨h.1, ih u b h.2⟩

theorem l1_spec {x1 : List S72} {x2 : List Int} (p : Preds x1 x2) (v : Nat) : ∀ (d : Nat) (tr : List Nat) (cur : Nat) (x8 : List Int), tr.length + d = 13 → tr.Nodup → (∀ w, w ∈ tr → w < 13 ∧ 0 ≤ rd x2 (w : Int)) → Link x1 x2 cur tr → cur < 13 →
    x8.length = 13 → (∀ w, w < 13 → fn x8 w = if w ∈ tr then -2 else fn x2 w) → (Rooted x1 x2 cur → Rooted x1 x2 v) →
    (∃ c l, Cyc x1 x2 c l ∧ Ev (fun k => shift_clock_contradiction.l1 k x1 x2 x8 cur 13 v) (hours x1 x2 (c :: l))) ∨
    (Rooted x1 x2 v ∧ ∀ r, Ev (fun k => shift_clock_contradiction.l0 k x1 x2 13 (wrap64 ((v : Int) + 1))) r → Ev (fun k => shift_clock_contradiction.l1 k x1 x2 x8 cur 13 v) r) := by
  intro d
  induction d with
  | zero =>
    intro tr cur x8 hd hn hp hk hc h8 hm hr
    have hl := p.len
    have hb := rd_bounds p hc
    by_cases hcp : rd x2 (cur : Int) ≥ 0
    · have hin : cur ∈ tr := by
        apply Classical.byContradiction
        intro hin
        have := nodup_len 13 (cur :: tr) (List.nodup_cons.2 ⟨hin, hn⟩) (fun x hx => by
          rcases List.mem_cons.1 hx with rfl | hx
          · exact hc
          · exact (hp x hx).1)
        simp only [List.length_cons] at this
        omega
      left
      obtain ⟨a, b, rfl⟩ := List.append_of_mem hin
      have hk' : Link x1 x2 cur (a ++ [cur]) := link_split (a ++ [cur]) cur b (by rw [List.append_assoc]; exact hk)
      have hcyc : Cyc x1 x2 cur a.reverse := by
        refine ⟨?_, ?_, ?_⟩
        · have : ∀ (a : List Nat), Link x1 x2 cur (a ++ [cur]) → Fw x1 x2 cur (cur :: a.reverse) := by
            intro a h
            have h2 : Fw x1 x2 cur (a ++ [cur]).reverse := by
              cases a with
              | nil => exact h.1
              | cons u a => exact link_fw (a ++ [cur]) u cur h
            rwa [List.reverse_append] at h2
          exact this a hk'
        · have h1 : (a ++ cur :: b).Nodup := hn
          rw [List.nodup_append] at h1
          refine List.nodup_cons.2 ⟨fun h => ?_, (List.reverse_perm a).symm.nodup h1.1⟩
          exact h1.2.2 cur (List.mem_reverse.1 h) cur (List.mem_cons_self ..) rfl
        · intro w hw
          rcases List.mem_cons.1 hw with rfl | hw
          · exact ⟨hc, hcp⟩
          · exact hp w (List.mem_append_left _ (List.mem_reverse.1 hw))
      refine ⟨cur, a.reverse, hcyc, ?_⟩
      refine Ev.step (fun k => by rw [shift_clock_contradiction.l1]) (ev_pos (by omega) (ev_pos (by omega) (ev_pos (by omega) (ev_pos hcp (ev_pos (by omega) (ev_pos ?_ ?_))))))
      · rw [rd_nat]; show fn x8 cur = -2; rw [hm cur hc, if_pos hin]
      · refine Ev.step (fun k => by rw [shift_clock_contradiction.j2]) (ev_pos (by omega) (ev_pos (by omega) (ev_neg (by omega) ?_)))
        have := l2_spec p cur a.reverse cur [] hcyc.fw (fun w hw e => (List.nodup_cons.1 hcyc.nodup).1 (e ▸ hw)) hcyc.lt (by
          have := nodup_len 13 (cur :: a.reverse) hcyc.nodup (fun x hx => (hcyc.lt x hx).1)
          simp only [List.length_cons, List.length_nil] at this ⊢
          omega)
        rwa [List.nil_append] at this
    · right
      refine ⟨hr (.root (by omega)), fun r h => ?_⟩
      refine Ev.step (fun k => by rw [shift_clock_contradiction.l1]) (ev_pos (by omega) (ev_pos (by omega) (ev_pos (by omega) (ev_neg hcp ?_))))
      exact Ev.step (fun k => by rw [shift_clock_contradiction.j2]) (ev_pos (by omega) (ev_pos (by omega) (ev_pos (by omega) h)))
  | succ d ih =>
    intro tr cur x8 hd hn hp hk hc h8 hm hr
    have hl := p.len
    have hb := rd_bounds p hc
    by_cases hcp : rd x2 (cur : Int) ≥ 0
    · by_cases hin : cur ∈ tr
      · left
        obtain ⟨a, b, rfl⟩ := List.append_of_mem hin
        have hk' : Link x1 x2 cur (a ++ [cur]) := link_split (a ++ [cur]) cur b (by rw [List.append_assoc]; exact hk)
        have hcyc : Cyc x1 x2 cur a.reverse := by
          refine ⟨?_, ?_, ?_⟩
          · have : ∀ (a : List Nat), Link x1 x2 cur (a ++ [cur]) → Fw x1 x2 cur (cur :: a.reverse) := by
              intro a h
              have h2 : Fw x1 x2 cur (a ++ [cur]).reverse := by
                cases a with
                | nil => exact h.1
                | cons u a => exact link_fw (a ++ [cur]) u cur h
              rwa [List.reverse_append] at h2
            exact this a hk'
          · have h1 : (a ++ cur :: b).Nodup := hn
            rw [List.nodup_append] at h1
            refine List.nodup_cons.2 ⟨fun h => ?_, (List.reverse_perm a).symm.nodup h1.1⟩
            exact h1.2.2 cur (List.mem_reverse.1 h) cur (List.mem_cons_self ..) rfl
          · intro w hw
            rcases List.mem_cons.1 hw with rfl | hw
            · exact ⟨hc, hcp⟩
            · exact hp w (List.mem_append_left _ (List.mem_reverse.1 hw))
        refine ⟨cur, a.reverse, hcyc, ?_⟩
        refine Ev.step (fun k => by rw [shift_clock_contradiction.l1]) (ev_pos (by omega) (ev_pos (by omega) (ev_pos (by omega) (ev_pos hcp (ev_pos (by omega) (ev_pos ?_ ?_))))))
        · rw [rd_nat]; show fn x8 cur = -2; rw [hm cur hc, if_pos hin]
        · refine Ev.step (fun k => by rw [shift_clock_contradiction.j2]) (ev_pos (by omega) (ev_pos (by omega) (ev_neg (by omega) ?_)))
          have := l2_spec p cur a.reverse cur [] hcyc.fw (fun w hw e => (List.nodup_cons.1 hcyc.nodup).1 (e ▸ hw)) hcyc.lt (by
            have := nodup_len 13 (cur :: a.reverse) hcyc.nodup (fun x hx => (hcyc.lt x hx).1)
            simp only [List.length_cons, List.length_nil] at this ⊢
            omega)
          rwa [List.nil_append] at this
      · obtain ⟨hn1, hn2⟩ := nx_lt p hc hcp
        have hset := fn_set x8 cur (-2) (by omega)
        have h := ih (cur :: tr) (nx x1 x2 cur) (x8.set cur (-2)) (by simp only [List.length_cons]; omega) (List.nodup_cons.2 ⟨hin, hn⟩) (fun w hw => by
            rcases List.mem_cons.1 hw with rfl | hw
            · exact ⟨hc, hcp⟩
            · exact hp w hw) ⟨rfl, hk⟩ hn1 (by rw [List.length_set]; exact h8) (by
            intro w hw
            rw [hset]
            dsimp only
            by_cases e : w = cur
            · rw [if_pos e, if_pos (by rw [e]; exact List.mem_cons_self ..)]
            · rw [if_neg e, hm w hw]
              by_cases e2 : w ∈ tr
              · rw [if_pos e2, if_pos (List.mem_cons_of_mem _ e2)]
              · rw [if_neg e2, if_neg (fun h => (List.mem_cons.1 h).elim e e2)]) (fun h => hr (.step hcp h))
        have hne : ¬ rd x8 (cur : Int) = -2 := by
          rw [rd_nat]; show ¬ fn x8 cur = -2
          rw [hm cur hc, if_neg hin]
          have : fn x2 cur = rd x2 (cur : Int) := (rd_nat x2 cur).symm
          omega
        have hstep : ∀ r, Ev (fun k => shift_clock_contradiction.l1 k x1 x2 (x8.set cur (-2)) (nx x1 x2 cur) 13 v) r → Ev (fun k => shift_clock_contradiction.l1 k x1 x2 x8 cur 13 v) r := by
          intro r hr'
          refine Ev.step (fun k => by rw [shift_clock_contradiction.l1]) (ev_pos (by omega) (ev_pos (by omega) (ev_pos (by omega) (ev_pos hcp (ev_pos (by omega) (ev_neg hne (ev_pos hcp (ev_pos hb.2 ?_))))))))
          show Ev (fun k => shift_clock_contradiction.l1 k x1 x2 (x8.set ((cur : Int).toNat) (-2)) (arcOf x1 x2 cur).f0 13 v) r
          rw [Int.toNat_natCast, ← hn2]
          exact hr'
        rcases h with ⟨c, l, hcl, h⟩ | ⟨h1, h⟩
        · exact .inl ⟨c, l, hcl, hstep _ h⟩
        · exact .inr ⟨h1, fun r hr' => hstep _ (h r hr')⟩
    · right
      refine ⟨hr (.root (by omega)), fun r h => ?_⟩
      refine Ev.step (fun k => by rw [shift_clock_contradiction.l1]) (ev_pos (by omega) (ev_pos (by omega) (ev_pos (by omega) (ev_neg hcp ?_))))
      exact Ev.step (fun k => by rw [shift_clock_contradiction.j2]) (ev_pos (by omega) (ev_pos (by omega) (ev_pos (by omega) h)))

theorem l0_spec {x1 : List S72} {x2 : List Int} (p : Preds x1 x2) : ∀ (d v : Nat), v + d = 13 → (∀ w, w < v → Rooted x1 x2 w) →
    (∃ c l, Cyc x1 x2 c l ∧ Ev (fun k => shift_clock_contradiction.l0 k x1 x2 13 v) (hours x1 x2 (c :: l))) ∨
    ((∀ w, w < 13 → Rooted x1 x2 w) ∧ Ev (fun k => shift_clock_contradiction.l0 k x1 x2 13 v) []) := by
  intro d
  induction d with
  | zero =>
    intro v hv hr
    right
    exact ⟨fun w hw => hr w (by omega), Ev.step (fun k => by rw [shift_clock_contradiction.l0]) (ev_neg (by omega) (Ev.now _))⟩
  | succ d ih =>
    intro v hv hr
    have hl := p.len
    have hstep : ∀ r, Ev (fun k => shift_clock_contradiction.l1 k x1 x2 x2 v 13 v) r → Ev (fun k => shift_clock_contradiction.l0 k x1 x2 13 v) r := by
      intro r h
      exact Ev.step (fun k => by rw [shift_clock_contradiction.l0]) (ev_pos (by omega) (Ev.bind (clone_f x2 (by omega)) h))
    rcases l1_spec p v 13 [] v x2 rfl List.nodup_nil (fun w hw => by cases hw) trivial (by omega) hl (fun w hw => (if_neg (by intro h; cases h)).symm) id with ⟨c, l, hcl, h⟩ | ⟨h1, h⟩
    · exact .inl ⟨c, l, hcl, hstep _ h⟩
    · rcases ih (v + 1) (by omega) (fun w hw => by
        by_cases e : w = v
        · rw [e]; exact h1
        · exact hr w (by omega)) with ⟨c, l, hcl, h2⟩ | ⟨h2, h3⟩
      · refine .inl ⟨c, l, hcl, hstep _ (h _ ?_)⟩
        rw [wrap_id (by omega)]; exact h2
      · refine .inr ⟨h2, hstep _ (h _ ?_)⟩
        rw [wrap_id (by omega)]; exact h3
/-- contradiction answers the hours of a cycle, or nothing where all chains end. -/
theorem contra_f {x1 : List S72} {x2 : List Int} (p : Preds x1 x2) (l : List Int) (t : Int) :
    (∃ c r, Cyc x1 x2 c r ∧ Ev (fun k => shift_clock_contradiction.f k l t x1 x2) (hours x1 x2 (c :: r))) ∨
    ((∀ w, w < 13 → Rooted x1 x2 w) ∧ Ev (fun k => shift_clock_contradiction.f k l t x1 x2) []) := by
  unfold shift_clock_contradiction.f
  rw [p.len]
  exact l0_spec p 13 0 rfl (fun w hw => absurd hw (Nat.not_lt_zero _))
end Go.Proofs.Ytfopdfolbdmnjaa.Pure
