/- Streets as pairs of corners: the count T over them falls when a street goes, falls to 0 exactly if the street is a bridge, and is 1 for as many streets as corners less one that all are bridges. Conditions: a street joins two corners of the quarter. -/
import Derived.Test.YtlcgoacmlbeliaaGraph
namespace Go.Proofs.Ytlcgoacmlbeliaa.Det
set_option linter.unusedVariables false
set_option linter.unusedSimpArgs false
inductive Reach (P : Nat → List Nat) (u : Nat) : Nat → Prop
  | refl : Reach P u u
  | step {v a : Nat} (h : a ∈ P v) (hu : Reach P u a) : Reach P u v
theorem Reach.trans {P : Nat → List Nat} {u v w : Nat} (h1 : Reach P u v) (h2 : Reach P v w) : Reach P u w := by
  induction h2 with
  | refl => exact h1
  | step h _ ih => exact .step h ih
theorem Reach.mono {P Q : Nat → List Nat} {u v : Nat} (hPQ : ∀ w, ∀ x ∈ P w, Reach Q x w) (h : Reach P u v) : Reach Q u v := by
  induction h with
  | refl => exact .refl
  | step hx _ ih => exact ih.trans (hPQ _ _ hx)
theorem Reach.symm {P : Nat → List Nat} (hs : ∀ v x, x ∈ P v → v ∈ P x) {u v : Nat} (h : Reach P u v) : Reach P v u := by
  induction h with
  | refl => exact .refl
  | step h _ ih => exact (Reach.step (hs _ _ h) .refl).trans ih
theorem up_reach {P : Nat → List Nat} {v : Nat} : Up P v ↔ Reach P 0 v := by
  constructor
  · intro h
    induction h with
    | root => exact .refl
    | step h _ ih => exact .step h ih
  · intro h
    induction h with
    | refl => exact .root
    | step h _ ih => exact .step h ih
def nb (v : Nat) (e : Nat × Nat) : List Nat := (if e.1 = v then [e.2] else []) ++ (if e.2 = v then [e.1] else [])
def nbs (l : List (Nat × Nat)) (v : Nat) : List Nat := l.flatMap (nb v)
theorem mem_nb {v x : Nat} {e : Nat × Nat} : x ∈ nb v e ↔ e = (v, x) ∨ e = (x, v) := by
  obtain ⟨a, b⟩ := e
  unfold nb
  simp only [List.mem_append, Prod.mk.injEq]
  constructor
  · rintro (h | h) <;> split at h <;> simp at h
    · exact .inl ⟨‹_›, h.symm⟩
    · exact .inr ⟨h.symm, ‹_›⟩
  · rintro (⟨h1, h2⟩ | ⟨h1, h2⟩)
    · left; rw [if_pos h1]; simp [h2]
    · right; rw [if_pos h2]; simp [h1]
theorem mem_nbs {l : List (Nat × Nat)} {v x : Nat} : x ∈ nbs l v ↔ (v, x) ∈ l ∨ (x, v) ∈ l := by
  unfold nbs
  simp only [List.mem_flatMap, mem_nb]
  constructor
  · rintro ⟨e, he, rfl | rfl⟩
    · exact .inl he
    · exact .inr he
  · rintro (h | h)
    · exact ⟨_, h, .inl rfl⟩
    · exact ⟨_, h, .inr rfl⟩
theorem nbs_symm (l : List (Nat × Nat)) (v x : Nat) (h : x ∈ nbs l v) : v ∈ nbs l x := by
  rw [mem_nbs] at h ⊢; exact h.symm
theorem nbs_sub {l l' : List (Nat × Nat)} (h : l.Sublist l') (v : Nat) : (nbs l v).Sublist (nbs l' v) := by
  unfold nbs
  induction h with
  | slnil => exact List.Sublist.refl _
  | cons a _ ih => rw [List.flatMap_cons]; exact ih.trans (List.sublist_append_right _ _)
  | cons_cons a _ ih => rw [List.flatMap_cons, List.flatMap_cons]; exact List.Sublist.append (List.Sublist.refl _) ih
theorem Reach.sub {l l' : List (Nat × Nat)} (h : ∀ e ∈ l, e ∈ l') {u v : Nat} (hr : Reach (nbs l) u v) : Reach (nbs l') u v :=
  hr.mono (fun w x hx => by
    rw [mem_nbs] at hx
    exact .step (mem_nbs.2 (hx.imp (h _) (h _))) .refl)
/-- Every street joins two corners. -/
def Fair (m : Nat) (l : List (Nat × Nat)) : Prop := ∀ e ∈ l, e.1 ≤ m ∧ e.2 ≤ m ∧ e.1 ≠ e.2
theorem Fair.le {m : Nat} {l : List (Nat × Nat)} (h : Fair m l) : ∀ v, 1 ≤ v → v ≤ m → ∀ x ∈ nbs l v, x ≤ m := by
  intro v _ _ x hx
  rcases mem_nbs.1 hx with hx | hx
  · exact (h _ hx).2.1
  · exact (h _ hx).1
theorem Fair.erase {m : Nat} {l : List (Nat × Nat)} (h : Fair m l) (i : Nat) : Fair m (l.eraseIdx i) := fun e he => h e (List.mem_of_mem_eraseIdx he)
theorem trees_mono (m : Nat) (l : List (Nat × Nat)) (i : Nat) : T m (nbs (l.eraseIdx i)) ≤ T m (nbs l) := T_mono m (nbs_sub (List.eraseIdx_sublist l i))
/-- Street i is the only road between its ends. -/
def Bridge (l : List (Nat × Nat)) (i : Nat) : Prop := ∀ e, l[i]? = some e → ¬ Reach (nbs (l.eraseIdx i)) e.1 e.2
theorem erase_or {l : List (Nat × Nat)} {i : Nat} (hi : i < l.length) {e : Nat × Nat} (he : e ∈ l) : e = l[i] ∨ e ∈ l.eraseIdx i := by
  obtain ⟨j, hj, rfl⟩ := List.getElem_of_mem he
  by_cases hij : j = i
  · subst hij; exact .inl rfl
  · exact .inr (List.mem_eraseIdx_iff_getElem.2 ⟨j, hj, hij, rfl⟩)
theorem trees_bridge {m : Nat} {l : List (Nat × Nat)} (hf : Fair m l) {i : Nat} (hi : i < l.length) (hT : 0 < T m (nbs l)) : Bridge l i ↔ T m (nbs (l.eraseIdx i)) = 0 := by
  have hu := (T_pos m hf.le).1 hT
  have hf' := hf.erase i
  have he := hf l[i] (List.getElem_mem hi)
  constructor
  · intro hb
    refine Nat.eq_zero_of_not_pos (fun hpos => hb l[i] (List.getElem?_eq_getElem hi) ?_)
    have hu' := (T_pos m hf'.le).1 hpos
    have all : ∀ v, v ≤ m → Reach (nbs (l.eraseIdx i)) 0 v := fun v hv => by
      by_cases h0 : v = 0
      · subst h0; exact .refl
      · exact up_reach.1 (hu' v (by omega) hv)
    exact ((all _ he.1).symm (nbs_symm _)).trans (all _ he.2.1)
  · intro h0 e hee hr
    rw [List.getElem?_eq_getElem hi] at hee
    injection hee with hee
    subst hee
    have : 0 < T m (nbs (l.eraseIdx i)) := (T_pos m hf'.le).2 (fun v h1 h2 => up_reach.2 ((up_reach.1 (hu v h1 h2)).mono (fun w x hx => by
      rcases mem_nbs.1 hx with hx | hx
      · rcases erase_or hi hx with h | h
        · rw [← h] at hr; exact hr.symm (nbs_symm _)
        · exact .step (mem_nbs.2 (.inl h)) .refl
      · rcases erase_or hi hx with h | h
        · rw [← h] at hr; exact hr
        · exact .step (mem_nbs.2 (.inr h)) .refl)))
    omega
theorem past_reach {l : List (Nat × Nat)} {i : Nat} (hi : i < l.length) {v : Nat} (hv : v ≠ 0) (hiv : l[i].1 = v ∨ l[i].2 = v) {x : Nat} (h : Past (nbs l) v x) : Reach (nbs (l.eraseIdx i)) 0 x := by
  induction h with
  | root => exact .refl
  | @step w a hw hx hp ih =>
    have ha := hp.ne hv
    refine .step (mem_nbs.2 ?_) ih
    rcases mem_nbs.1 hx with hx | hx
    · rcases erase_or hi hx with h | h
      · rw [← h] at hiv; simp at hiv; omega
      · exact .inl h
    · rcases erase_or hi hx with h | h
      · rw [← h] at hiv; simp at hiv; omega
      · exact .inr h
theorem bridges_alone {m : Nat} {l : List (Nat × Nat)} (hf : Fair m l) (hb : ∀ i, i < l.length → Bridge l i) (v : Nat) (hv : 1 ≤ v) : Alone (nbs l) v := by
  unfold Alone nbs
  rw [List.pairwise_flatMap]
  refine ⟨fun e he => ?_, ?_⟩
  · have := (hf e he).2.2
    unfold nb
    split <;> split <;> simp
    omega
  · rw [List.pairwise_iff_getElem]
    intro i j hi hj hij x hx y hy ⟨h1, h2⟩
    have ex := mem_nb.1 hx
    have ey := mem_nb.1 hy
    have hiv : l[i].1 = v ∨ l[i].2 = v := by rcases ex with h | h <;> simp [h]
    have rx := past_reach hi (by omega) hiv h1
    have ry := past_reach hi (by omega) hiv h2
    have ej : l[j] ∈ l.eraseIdx i := List.mem_eraseIdx_iff_getElem.2 ⟨j, hj, by omega, rfl⟩
    have hyv : y ∈ nbs (l.eraseIdx i) v := by
      rw [mem_nbs]
      rcases ey with h | h
      · left; rw [← h]; exact ej
      · right; rw [← h]; exact ej
    have r : Reach (nbs (l.eraseIdx i)) x v := ((rx.symm (nbs_symm _)).trans ry).trans (.step hyv .refl)
    refine hb i hi l[i] (List.getElem?_eq_getElem hi) ?_
    rcases ex with h | h
    · rw [h]; exact r.symm (nbs_symm _)
    · rw [h]; exact r
theorem bridges_cover {m : Nat} {l : List (Nat × Nat)} (hf : Fair m l) (hb : ∀ i, i < l.length → Bridge l i) : ∀ k, k ≤ l.length → ∃ R : List Nat, R.length + k = m + 1 ∧ ∀ v, v ≤ m → ∃ r ∈ R, Reach (nbs (l.take k)) r v
  | 0, _ => ⟨List.range (m + 1), by simp, fun v hv => ⟨v, by simp; omega, .refl⟩⟩
  | k + 1, hk => by
    obtain ⟨R, h1, h2⟩ := bridges_cover hf hb k (by omega)
    have he := hf l[k] (List.getElem_mem (by omega))
    obtain ⟨ra, ha, hra⟩ := h2 _ he.1
    obtain ⟨rb, hrb, hrb'⟩ := h2 _ he.2.1
    have tk : l.take (k + 1) = l.take k ++ [l[k]] := (List.take_append_getElem (by omega)).symm
    have sub : ∀ e ∈ l.take k, e ∈ l.take (k + 1) := fun e h => by
      rw [tk]; exact List.mem_append_left _ h
    have subE : ∀ e ∈ l.take k, e ∈ l.eraseIdx k := fun e h => by
      rw [List.eraseIdx_eq_take_drop_succ]; exact List.mem_append_left _ h
    have hne : ra ≠ rb := by
      rintro rfl
      refine hb k (by omega) l[k] (List.getElem?_eq_getElem (by omega)) ?_
      exact ((hra.symm (nbs_symm _)).trans hrb').sub subE
    have hR : 0 < R.length := List.length_pos_of_mem hrb
    refine ⟨R.erase rb, by rw [List.length_erase_of_mem hrb]; omega, fun v hv => ?_⟩
    obtain ⟨r, hr, hrv⟩ := h2 v hv
    by_cases e : r = rb
    · subst e
      refine ⟨ra, (List.mem_erase_of_ne hne).2 ha, ?_⟩
      have st : l[k].1 ∈ nbs (l.take (k + 1)) l[k].2 := by
        rw [mem_nbs]; right
        rw [tk]; exact List.mem_append_right _ (List.mem_singleton.2 rfl)
      exact ((hra.sub sub).trans (.step st .refl)).trans (((hrb'.symm (nbs_symm _)).trans hrv).sub sub)
    · exact ⟨r, (List.mem_erase_of_ne e).2 hr, hrv.sub sub⟩
theorem trees_one {m : Nat} {l : List (Nat × Nat)} (hf : Fair m l) (hl : l.length = m) (hb : ∀ i, i < l.length → Bridge l i) : T m (nbs l) = 1 := by
  have h1 := T_alone m _ hf.le (fun v h1 _ => bridges_alone hf hb v h1)
  have h2 : 0 < T m (nbs l) := (T_pos m hf.le).2 (fun v _ hv => by
    obtain ⟨R, e, h⟩ := bridges_cover hf hb l.length (Nat.le_refl _)
    rw [List.take_length] at h
    match R, e, h with
    | [r], _, h =>
      obtain ⟨r0, m0, h0⟩ := h 0 (by omega)
      obtain ⟨r1, m1, h1⟩ := h v hv
      simp at m0 m1
      subst m0 m1
      exact up_reach.2 ((h0.symm (nbs_symm _)).trans h1)
    | [], e, _ => simp at e; omega
    | _ :: _ :: _, e, _ => simp at e; omega)
  omega
end Go.Proofs.Ytlcgoacmlbeliaa.Det
