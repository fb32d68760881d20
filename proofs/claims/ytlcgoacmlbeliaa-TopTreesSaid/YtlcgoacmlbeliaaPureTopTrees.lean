/- trishawtop.TopTrees in plain Lean: it answers true, whatever the input. No conditions. -/
import Derived.Test.YtlcgoacmlbeliaaPx10
import Derived.Test.YtlcgoacmlbeliaaLinkFar
namespace Go.Proofs.Ytlcgoacmlbeliaa.Det
set_option linter.unusedVariables false
set_option linter.unusedSimpArgs false
open Go.RowKit Go.Proofs.YtlcgoacmlbeliaaW.PrintWords Go.Proofs.YtlcgoacmlbeliaaW.PrintLast Go.Proofs.YtlcgoacmlbeliaaW.PrintMore P
theorem streets_at : trishawtop_streets.f 40 = some true := by decide +kernel
theorem streets_ev : Ev (fun k => trishawtop_streets.f k) true := by
  refine ⟨40, fun k hk => ?_⟩
  obtain ⟨d, rfl⟩ : ∃ d, k = 40 + d := ⟨k - 40, by omega⟩
  clear hk
  induction d with
  | zero => exact streets_at
  | succ d ih => exact trishawtop_streets.mono _ _ ih
theorem true_ev {g : Nat → Bool → Option Bool} (h : ∀ k t, g k t = some t) : Ev (fun k => (trishawtop_streets.f k).bind (g k)) true :=
  streets_ev.bind (f := g) ((Ev.const true).eq (fun k => h k true))
/-- What oneway.read makes of any streets. -/
theorem read_any (n : Int) (h2 : 2 ≤ n) (l1 : List S37) (hl : l1.length ≤ 14) :
    (∃ e : Int, e ≠ 0 ∧ Ev (fun k => oneway_read.f k n l1) (0, [], e)) ∨
    (Ev (fun k => oneway_read.f k n l1) (n, l1, 0) ∧ n ≤ 7 ∧ ∀ x ∈ l1, 0 ≤ x.f0 ∧ 0 ≤ x.f1 ∧ x.f0 < n ∧ x.f1 < n ∧ x.f0 ≠ x.f1) := by
  by_cases h7 : n > 7
  · refine .inl ⟨2, by omega, ((Ev.const _).succ (h := fun _ => some (0, [], 2)) (g := fun k => oneway_read.j0 k n l1 true) (fun k => ?_)).eq (fun k => ?_)⟩
    · simp only [oneway_read.j0]; rw [if_pos trivial]
    · simp only [oneway_read.f]; rw [if_neg (by omega), decide_eq_true h7]
  have rdm : ∀ j, j < l1.length → rd_T37 l1 (j : Int) ∈ l1 := by
    intro j hj
    unfold rd_T37
    rw [Int.toNat_natCast, List.getD_eq_getElem?_getD, List.getElem?_eq_getElem hj]
    exact List.getElem_mem hj
  have go : ∀ d j, j + d = l1.length →
      (∃ e : Int, e ≠ 0 ∧ Ev (fun k => oneway_read.l0 k n l1 l1 (l1.length : Int) (j : Int)) (0, [], e)) ∨
      (Ev (fun k => oneway_read.l0 k n l1 l1 (l1.length : Int) (j : Int)) (n, l1, 0) ∧ ∀ i : Nat, j ≤ i → i < l1.length → 0 ≤ (rd_T37 l1 (i : Int)).f0 ∧ 0 ≤ (rd_T37 l1 (i : Int)).f1 ∧ (rd_T37 l1 (i : Int)).f0 < n ∧ (rd_T37 l1 (i : Int)).f1 < n ∧ (rd_T37 l1 (i : Int)).f0 ≠ (rd_T37 l1 (i : Int)).f1) := by
    intro d
    induction d with
    | zero =>
      intro j hj
      refine .inr ⟨(Ev.const _).succ (fun k => ?_), fun i h1 h2 => by omega⟩
      simp only [oneway_read.l0]
      rw [if_neg (by omega)]
    | succ d ih =>
      intro j hj
      by_cases c1 : mn (rd_T37 l1 (j : Int)).f0 (rd_T37 l1 (j : Int)).f1 < 0
      · refine .inl ⟨2, by omega, (Ev.const _).succ (fun k => ?_)⟩
        simp only [oneway_read.l0]
        rw [if_pos (by omega), if_pos (by omega), if_pos (by omega), if_pos c1]
      by_cases c2 : mx (rd_T37 l1 (j : Int)).f0 (rd_T37 l1 (j : Int)).f1 ≥ n
      · refine .inl ⟨2, by omega, (Ev.const _).succ (fun k => ?_)⟩
        simp only [oneway_read.l0]
        rw [if_pos (by omega), if_pos (by omega), if_pos (by omega), if_neg c1, if_pos c2]
      by_cases c3 : (rd_T37 l1 (j : Int)).f0 = (rd_T37 l1 (j : Int)).f1
      · refine .inl ⟨2, by omega, (Ev.const _).succ (fun k => ?_)⟩
        simp only [oneway_read.l0]
        rw [if_pos (by omega), if_pos (by omega), if_pos (by omega), if_neg c1, if_neg c2, if_pos c3]
      have e : ∀ k, oneway_read.l0 (k + 1) n l1 l1 (l1.length : Int) (j : Int) = oneway_read.l0 k n l1 l1 (l1.length : Int) ((j + 1 : Nat) : Int) := fun k => by
        simp only [oneway_read.l0]
        rw [if_pos (by omega), if_pos (by omega), if_pos (by omega), if_neg c1, if_neg c2, if_neg c3, succ_is (by omega)]
      rcases ih (j + 1) (by omega) with ⟨x, hx, h⟩ | ⟨h, hh⟩
      · exact .inl ⟨x, hx, h.succ e⟩
      · refine .inr ⟨h.succ e, fun i h1 h2 => ?_⟩
        by_cases hij : i = j
        · subst hij
          unfold mn at c1
          unfold mx at c2
          split at c1 <;> split at c2 <;> omega
        · exact hh i (by omega) h2
  have lift : ∀ r, Ev (fun k => oneway_read.l0 k n l1 l1 (l1.length : Int) ((0 : Nat) : Int)) r → Ev (fun k => oneway_read.f k n l1) r := by
    intro r h
    have h : Ev (fun k => oneway_read.j0 k n l1 false) r := h.succ (fun k => by
      simp only [oneway_read.j0]
      rw [if_neg (by simp), if_neg (by omega)]; rfl)
    refine h.eq (fun k => ?_)
    simp only [oneway_read.f]
    rw [if_neg (by omega), decide_eq_false h7]
  rcases go l1.length 0 (by omega) with ⟨e, he, h⟩ | ⟨h, hh⟩
  · exact .inl ⟨e, he, lift _ h⟩
  · refine .inr ⟨lift _ h, by omega, fun x hx => ?_⟩
    obtain ⟨i, hi, rfl⟩ := List.getElem_of_mem hx
    have := hh i (by omega) hi
    have e : rd_T37 l1 (i : Int) = l1[i] := by
      unfold rd_T37
      rw [Int.toNat_natCast, List.getD_eq_getElem?_getD, List.getElem?_eq_getElem hi]; rfl
    rw [e] at this
    exact this
theorem last_is (l : List (Nat × Nat)) (hl : l.length ≤ 14) (t x10 x11 x12 : Int) (h10 : x10 = 0) (h12 : x12 ≤ t) (h : t ≠ 0 → (x11 ∈ brs l 0 ↔ x12 = 0)) :
    Ev (fun k => trishawtop_TopTrees.l0 k (brs l 0) t x10 x11 x12 false 0) true := by
  have hb := brs_len l 0
  have fin : ∀ x13 : Bool, (x13 = true ↔ x11 ∈ brs l 0) → Ev (fun k => (if x10 = 0 then (if x12 ≤ t then (if t = 0 then ((trishawtop_streets.f k).bind fun t302 => (some t302)) else (if (x13 == (x12 == 0)) = true then ((trishawtop_streets.f k).bind fun t303 => (some t303)) else (some false))) else (some false)) else (some false))) true := by
    intro x13 hx
    refine (true_ev (g := fun _ t => some t) (fun _ _ => rfl)).eq (fun k => ?_)
    rw [if_pos h10, if_pos h12]
    by_cases ht : t = 0
    · rw [if_pos ht]
    · rw [if_neg ht, if_pos ?_]
      have := h ht
      by_cases hm : x11 ∈ brs l 0
      · rw [hx.2 hm, this.1 hm]; rfl
      · have e1 : x13 = false := by cases x13 with
          | false => rfl
          | true => exact absurd (hx.1 rfl) hm
        have e2 : (x12 == 0) = false := by simpa using (fun e => hm (this.2 e))
        rw [e1, e2]; rfl
  have go : ∀ d j (x13 : Bool), j + d = (brs l 0).length → (x13 = true ∨ x11 ∈ (brs l 0).drop j ↔ x11 ∈ brs l 0) → Ev (fun k => trishawtop_TopTrees.l0 k (brs l 0) t x10 x11 x12 x13 (j : Int)) true := by
    intro d
    induction d with
    | zero =>
      intro j x13 hj hx
      obtain rfl : j = (brs l 0).length := by omega
      rw [List.drop_length] at hx
      refine (fin x13 (by simpa using hx)).succ (fun k => ?_)
      simp only [trishawtop_TopTrees.l0]
      rw [if_neg (by omega)]
    | succ d ih =>
      intro j x13 hj hx
      rw [List.drop_eq_getElem_cons (by omega), List.mem_cons] at hx
      cases x13 with
      | true =>
        refine (ih (j + 1) true (by omega) (by simpa using hx)).succ (fun k => ?_)
        simp only [trishawtop_TopTrees.l0]
        rw [if_pos (by omega), if_pos trivial, succ_is (by omega)]
      | false =>
        have e : rd (brs l 0) (j : Int) = (brs l 0)[j] := by
          unfold rd
          rw [Int.toNat_natCast, List.getD_eq_getElem?_getD, List.getElem?_eq_getElem (by omega)]; rfl
        refine (ih (j + 1) ((brs l 0)[j] == x11) (by omega) ?_).succ (fun k => ?_)
        · rw [beq_iff_eq, ← hx]
          constructor
          · rintro (h | h)
            · exact .inr (.inl h.symm)
            · exact .inr (.inr h)
          · rintro (h | h | h)
            · cases h
            · exact .inl h.symm
            · exact .inr h
        · simp only [trishawtop_TopTrees.l0]
          rw [if_pos (by omega), if_neg (by simp), if_pos (by omega), succ_is (by omega), e]
  exact go (brs l 0).length 0 false (by omega) (by simp)
theorem top_good {m : Nat} (h1 : 1 ≤ m) (h2 : m ≤ 6) {l : List (Nat × Nat)} (hf : Fair m l) (hl : l.length ≤ 14) (a2 : Int)
    (hr : Ev (fun k => oneway_read.f k ((m + 1 : Nat) : Int) (l.map s37)) (((m + 1 : Nat) : Int), l.map s37, 0)) :
    Ev (fun k => trishawtop_TopTrees.j0 k ((m + 1 : Nat) : Int) (l.map s37) a2 false) true := by
  have hb := bridges_is h2 hf hl hr
  have ht := trees_is h1 h2 hf hl (-1)
  have hk : keep (-1) 0 l = l := keep_out 0 (by omega)
  rw [hk] at ht
  have hp : wrap64 (((m + 1 : Nat) : Int) - 1) = (m : Int) := pred_is (j := m + 1) (by omega)
  have j1 : Ev (fun k => trishawtop_TopTrees.j1 k ((m + 1 : Nat) : Int) (l.map s37) a2 (brs l 0) (T m (nbs l) : Int) false) true := by
    by_cases hz : l.length = 0
    · refine (true_ev (g := fun _ t => some t) (fun _ _ => rfl)).succ (fun k => ?_)
      simp only [trishawtop_TopTrees.j1]
      have e : l = [] := List.length_eq_zero_iff.1 hz
      have e2 : T m (nbs l) = 0 := by
        subst e
        match m, h1 with
        | m + 1, _ => simp [T, nbs]
      rw [if_neg (by simp), if_pos (by rw [List.length_map]; omega), if_pos (by omega)]
    · have ht2 := trees_is h1 h2 hf hl (Int.tmod (wrap64 a2) (l.length : Int))
      have hlast : Ev (fun k => trishawtop_TopTrees.l0 k (brs l 0) (T m (nbs l) : Int) 0 (Int.tmod (wrap64 a2) (l.length : Int)) (T m (nbs (keep (Int.tmod (wrap64 a2) (l.length : Int)) 0 l)) : Int) false 0) true := by
        have hlt := Int.tmod_lt_of_pos (wrap64 a2) (b := (l.length : Int)) (by omega)
        generalize Int.tmod (wrap64 a2) (l.length : Int) = s at hlt
        by_cases hs : s < 0
        · rw [keep_out 0 (by omega)]
          refine last_is l hl _ _ _ _ rfl (Int.le_refl _) (fun h => ?_)
          constructor
          · intro hm; have := brs_pos hm; omega
          · intro e; exact absurd e h
        · obtain ⟨i, rfl⟩ : ∃ i : Nat, s = i := ⟨s.toNat, by omega⟩
          have hk2 : keep (i : Int) 0 l = l.eraseIdx i := by have := keep_at (l := l) (i := i) 0; rwa [Nat.zero_add] at this
          rw [hk2]
          have hm := trees_mono m l i
          refine last_is l hl _ _ _ _ rfl (by omega) (fun h => ?_)
          rw [brs_mem (by omega), trees_bridge hf (by omega) (by omega)]
          omega
      have := ht2.bind (f := fun k bt299 => trishawtop_TopTrees.l0 k (brs l 0) (T m (nbs l) : Int) bt299.2 (Int.tmod (wrap64 a2) (l.length : Int)) bt299.1 false 0) hlast
      refine this.succ (fun k => ?_)
      simp only [trishawtop_TopTrees.j1]
      rw [if_neg (by simp), if_neg (by rw [List.length_map]; omega), List.length_map]
  have mid : Ev (fun k => (if (T m (nbs l) : Int) < 0 then (trishawtop_TopTrees.j1 k ((m + 1 : Nat) : Int) (l.map s37) a2 (brs l 0) (T m (nbs l) : Int) true) else (if ((brs l 0).length : Int) = (wrap64 (((m + 1 : Nat) : Int) - 1)) then (if ((l.map s37).length : Int) = (wrap64 (((m + 1 : Nat) : Int) - 1)) then (trishawtop_TopTrees.j1 k ((m + 1 : Nat) : Int) (l.map s37) a2 (brs l 0) (T m (nbs l) : Int) ((T m (nbs l) : Int) != 1)) else (trishawtop_TopTrees.j1 k ((m + 1 : Nat) : Int) (l.map s37) a2 (brs l 0) (T m (nbs l) : Int) false)) else (trishawtop_TopTrees.j1 k ((m + 1 : Nat) : Int) (l.map s37) a2 (brs l 0) (T m (nbs l) : Int) false)))) true := by
    rw [hp]
    refine j1.eq (fun k => ?_)
    rw [if_neg (by omega)]
    by_cases c1 : ((brs l 0).length : Int) = (m : Int)
    · rw [if_pos c1]
      by_cases c2 : ((l.map s37).length : Int) = (m : Int)
      · rw [if_pos c2]
        rw [List.length_map] at c2
        have := trees_one hf (by omega) (brs_all (by omega))
        have e : ((T m (nbs l) : Int) != 1) = false := by rw [this]; rfl
        rw [e]
      · rw [if_neg c2]
    · rw [if_neg c1]
  have h3 := ht.bind (f := fun k bt296 => (if bt296.2 = 0 then (if bt296.1 < 0 then (trishawtop_TopTrees.j1 k ((m + 1 : Nat) : Int) (l.map s37) a2 (brs l 0) bt296.1 true) else (if ((brs l 0).length : Int) = (wrap64 (((m + 1 : Nat) : Int) - 1)) then (if ((l.map s37).length : Int) = (wrap64 (((m + 1 : Nat) : Int) - 1)) then (trishawtop_TopTrees.j1 k ((m + 1 : Nat) : Int) (l.map s37) a2 (brs l 0) bt296.1 (bt296.1 != 1)) else (trishawtop_TopTrees.j1 k ((m + 1 : Nat) : Int) (l.map s37) a2 (brs l 0) bt296.1 false)) else (trishawtop_TopTrees.j1 k ((m + 1 : Nat) : Int) (l.map s37) a2 (brs l 0) bt296.1 false))) else (trishawtop_TopTrees.j1 k ((m + 1 : Nat) : Int) (l.map s37) a2 (brs l 0) bt296.1 true)))
    (mid.eq (fun k => by simp only; rw [if_pos trivial]))
  have h4 := hb.bind (f := fun k bt291 => (if bt291.2 = 0 then ((trishawtop_trees.f k ((m + 1 : Nat) : Int) (l.map s37) (-1)).bind fun bt296 => (if bt296.2 = 0 then (if bt296.1 < 0 then (trishawtop_TopTrees.j1 k ((m + 1 : Nat) : Int) (l.map s37) a2 bt291.1 bt296.1 true) else (if (bt291.1.length : Int) = (wrap64 (((m + 1 : Nat) : Int) - 1)) then (if ((l.map s37).length : Int) = (wrap64 (((m + 1 : Nat) : Int) - 1)) then (trishawtop_TopTrees.j1 k ((m + 1 : Nat) : Int) (l.map s37) a2 bt291.1 bt296.1 (bt296.1 != 1)) else (trishawtop_TopTrees.j1 k ((m + 1 : Nat) : Int) (l.map s37) a2 bt291.1 bt296.1 false)) else (trishawtop_TopTrees.j1 k ((m + 1 : Nat) : Int) (l.map s37) a2 bt291.1 bt296.1 false))) else (trishawtop_TopTrees.j1 k ((m + 1 : Nat) : Int) (l.map s37) a2 bt291.1 bt296.1 true))) else (if (bt291.1.length : Int) = 0 then ((trishawtop_streets.f k).bind fun t295 => (some t295)) else (some false))))
    (h3.eq (fun k => by simp only; rw [if_pos trivial]))
  refine h4.succ (fun k => ?_)
  simp only [trishawtop_TopTrees.j0]
  rw [if_neg (by simp)]
theorem top_trees (a0 : Int) (l1 : List S37) (a2 : Int) : ∃ k, trishawtop_TopTrees.f k a0 l1 a2 = some true := by
  have fin : ∀ b, Ev (fun k => trishawtop_TopTrees.j0 k a0 l1 a2 b) true → (∀ k, trishawtop_TopTrees.f k a0 l1 a2 = trishawtop_TopTrees.j0 k a0 l1 a2 b) → ∃ k, trishawtop_TopTrees.f k a0 l1 a2 = some true := by
    intro b ⟨K, hK⟩ e
    exact ⟨K, by rw [e]; exact hK K (Nat.le_refl _)⟩
  have guard : Ev (fun k => trishawtop_TopTrees.j0 k a0 l1 a2 true) true :=
    (true_ev (g := fun _ t => some t) (fun _ _ => rfl)).succ (fun k => by simp only [trishawtop_TopTrees.j0]; rw [if_pos trivial])
  by_cases c1 : (l1.length : Int) > 14
  · exact fin true guard (fun k => by simp only [trishawtop_TopTrees.f]; rw [if_pos c1])
  by_cases c2 : a0 < 2
  · exact fin true guard (fun k => by simp only [trishawtop_TopTrees.f]; rw [if_neg c1, decide_eq_true c2])
  refine fin false ?_ (fun k => by simp only [trishawtop_TopTrees.f]; rw [if_neg c1, decide_eq_false c2])
  rcases read_any a0 (by omega) l1 (by omega) with ⟨e, he, h⟩ | ⟨h, h7, hv⟩
  · have hb : Ev (fun k => oneway_Bridges.f k a0 l1) ([], e) := by
      refine (h.bind (f := fun k bt123 => (if bt123.2.2 = 0 then (oneway_Bridges.l0 k a0 ([] : List Int) l1 (l1.length : Int) 0 bt123.1 bt123.2.1) else (some (([] : List Int), bt123.2.2)))) ((Ev.const _).eq (fun k => ?_))).eq (fun k => rfl)
      simp only
      rw [if_neg he]
    have := hb.bind (f := fun k bt291 => (if bt291.2 = 0 then ((trishawtop_trees.f k a0 l1 (-1)).bind fun bt296 => (if bt296.2 = 0 then (if bt296.1 < 0 then (trishawtop_TopTrees.j1 k a0 l1 a2 bt291.1 bt296.1 true) else (if (bt291.1.length : Int) = (wrap64 (a0 - 1)) then (if (l1.length : Int) = (wrap64 (a0 - 1)) then (trishawtop_TopTrees.j1 k a0 l1 a2 bt291.1 bt296.1 (bt296.1 != 1)) else (trishawtop_TopTrees.j1 k a0 l1 a2 bt291.1 bt296.1 false)) else (trishawtop_TopTrees.j1 k a0 l1 a2 bt291.1 bt296.1 false))) else (trishawtop_TopTrees.j1 k a0 l1 a2 bt291.1 bt296.1 true))) else (if (bt291.1.length : Int) = 0 then ((trishawtop_streets.f k).bind fun t295 => (some t295)) else (some false))))
      ((true_ev (g := fun _ t => some t) (fun _ _ => rfl)).eq (fun k => by simp only; rw [if_neg he, if_pos (by simp)]))
    refine this.succ (fun k => ?_)
    simp only [trishawtop_TopTrees.j0]
    rw [if_neg (by simp)]
  · obtain ⟨m, rfl⟩ : ∃ m : Nat, a0 = ((m + 1 : Nat) : Int) := ⟨(a0 - 1).toNat, by omega⟩
    have e : l1 = (l1.map (fun x => (x.f0.toNat, x.f1.toNat))).map s37 := by
      rw [List.map_map]
      conv => lhs; rw [← List.map_id l1]
      refine List.map_congr_left (fun x hx => ?_)
      have := hv x hx
      obtain ⟨p, q⟩ := x
      simp only [id, Function.comp, s37, S37.mk.injEq]
      simp only at this
      omega
    have hf : Fair m (l1.map (fun x => (x.f0.toNat, x.f1.toNat))) := by
      intro y hy
      obtain ⟨x, hx, rfl⟩ := List.mem_map.1 hy
      have := hv x hx
      simp only
      omega
    have hlen : (l1.map (fun x => (x.f0.toNat, x.f1.toNat))).length ≤ 14 := by rw [List.length_map]; omega
    generalize l1.map (fun x => (x.f0.toNat, x.f1.toNat)) = l at e hf hlen
    subst e
    exact top_good (by omega) (by omega) hf hlen a2 h
end Go.Proofs.Ytlcgoacmlbeliaa.Det
