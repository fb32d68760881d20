/- trishawtop.TopStrong in plain Lean: it answers true, whatever the input. No conditions. -/
import Derived.Test.YtlcgoacmlbeliaaDoorLkFar
import Derived.Test.YtlcgoacmlbeliaaDoorLkMend
namespace Go.Proofs.YtlcgoacmlbeliaaDoor.Str
set_option linter.unusedVariables false
set_option linter.unusedSimpArgs false
open Go.RowKit Go.Proofs.YtlcgoacmlbeliaaDoorW.PrintWords Go.Proofs.YtlcgoacmlbeliaaDoorW.PrintLast Go.Proofs.YtlcgoacmlbeliaaDoorW.PrintMore P
theorem streets_at : trishawtop_streets.f 40 = some true := by decide +kernel
theorem streets_ev : Ev (fun k => trishawtop_streets.f k) true := by
  refine ⟨40, fun k hk => ?_⟩
  obtain ⟨d, rfl⟩ : ∃ d, k = 40 + d := ⟨k - 40, by omega⟩
  clear hk
  induction d with
  | zero => exact streets_at
  | succ d ih => exact trishawtop_streets.mono _ _ ih
theorem true_ev {g : Nat → Bool → Option Bool} (h : ∀ k t, g k t = some t) : Ev (fun k => (trishawtop_streets.f k).bind (g k)) true :=
  streets_ev.bind (f := g) ((Ev.const true).eq (fun k => h k true))
/-- What oneway.read makes of any streets. -/
theorem read_any (n : Int) (h2 : 2 ≤ n) (l1 : List S39) (hl : l1.length ≤ 14) :
    (∃ e : Int, e ≠ 0 ∧ Ev (fun k => oneway_read.f k n l1) (0, [], e)) ∨
    (Ev (fun k => oneway_read.f k n l1) (n, l1, 0) ∧ n ≤ 7 ∧ ∀ x ∈ l1, 0 ≤ x.f0 ∧ 0 ≤ x.f1 ∧ x.f0 < n ∧ x.f1 < n ∧ x.f0 ≠ x.f1) := by
  by_cases h7 : n > 7
  · refine .inl ⟨2, by omega, ((Ev.const _).succ (h := fun _ => some (0, [], 2)) (g := fun k => oneway_read.j0 k n l1 true) (fun k => ?_)).eq (fun k => ?_)⟩
    · simp only [oneway_read.j0]; rw [if_pos trivial]
    · simp only [oneway_read.f]; rw [if_neg (by omega), decide_eq_true h7]
  have rdm : ∀ j, j < l1.length → rd_T39 l1 (j : Int) ∈ l1 := by
    intro j hj
    unfold rd_T39
    rw [Int.toNat_natCast, List.getD_eq_getElem?_getD, List.getElem?_eq_getElem hj]
    exact List.getElem_mem hj
  have go : ∀ d j, j + d = l1.length →
      (∃ e : Int, e ≠ 0 ∧ Ev (fun k => oneway_read.l0 k n l1 l1 (l1.length : Int) (j : Int)) (0, [], e)) ∨
      (Ev (fun k => oneway_read.l0 k n l1 l1 (l1.length : Int) (j : Int)) (n, l1, 0) ∧ ∀ i : Nat, j ≤ i → i < l1.length → 0 ≤ (rd_T39 l1 (i : Int)).f0 ∧ 0 ≤ (rd_T39 l1 (i : Int)).f1 ∧ (rd_T39 l1 (i : Int)).f0 < n ∧ (rd_T39 l1 (i : Int)).f1 < n ∧ (rd_T39 l1 (i : Int)).f0 ≠ (rd_T39 l1 (i : Int)).f1) := by
    intro d
    induction d with
    | zero =>
      intro j hj
      refine .inr ⟨(Ev.const _).succ (fun k => ?_), fun i h1 h2 => by omega⟩
      simp only [oneway_read.l0]
      rw [if_neg (by omega)]
    | succ d ih =>
      intro j hj
      by_cases c1 : mn (rd_T39 l1 (j : Int)).f0 (rd_T39 l1 (j : Int)).f1 < 0
      · refine .inl ⟨2, by omega, (Ev.const _).succ (fun k => ?_)⟩
        simp only [oneway_read.l0]
        rw [if_pos (by omega), if_pos (by omega), if_pos (by omega), if_pos c1]
      by_cases c2 : mx (rd_T39 l1 (j : Int)).f0 (rd_T39 l1 (j : Int)).f1 ≥ n
      · refine .inl ⟨2, by omega, (Ev.const _).succ (fun k => ?_)⟩
        simp only [oneway_read.l0]
        rw [if_pos (by omega), if_pos (by omega), if_pos (by omega), if_neg c1, if_pos c2]
      by_cases c3 : (rd_T39 l1 (j : Int)).f0 = (rd_T39 l1 (j : Int)).f1
      · refine .inl ⟨2, by omega, (Ev.const _).succ (fun k => ?_)⟩
        simp only [oneway_read.l0]
        rw [if_pos (by omega), if_pos (by omega), if_pos (by omega), if_neg c1, if_neg c2, if_pos c3]
      have e : ∀ k, oneway_read.l0 (k + 1) n l1 l1 (l1.length : Int) (j : Int) = oneway_read.l0 k n l1 l1 (l1.length : Int) ((j + 1 : Nat) : Int) := fun k => by
        simp only [oneway_read.l0]
        rw [if_pos (by omega), if_pos (by omega), if_pos (by omega), if_neg c1, if_neg c2, if_neg c3, succ_is (by omega)]
      rcases ih (j + 1) (by omega) with ⟨x, hx, h⟩ | ⟨h, hh⟩
      · exact .inl ⟨x, hx, h.succ e⟩
      · refine .inr ⟨h.succ e, fun i h1 h2 => ?_⟩
        by_cases hij : i = j
        · subst hij
          unfold mn at c1
          unfold mx at c2
          split at c1 <;> split at c2 <;> omega
        · exact hh i (by omega) h2
  have lift : ∀ r, Ev (fun k => oneway_read.l0 k n l1 l1 (l1.length : Int) ((0 : Nat) : Int)) r → Ev (fun k => oneway_read.f k n l1) r := by
    intro r h
    have h : Ev (fun k => oneway_read.j0 k n l1 false) r := h.succ (fun k => by
      simp only [oneway_read.j0]
      rw [if_neg (by simp), if_neg (by omega)]; rfl)
    refine h.eq (fun k => ?_)
    simp only [oneway_read.f]
    rw [if_neg (by omega), decide_eq_false h7]
  rcases go l1.length 0 (by omega) with ⟨e, he, h⟩ | ⟨h, hh⟩
  · exact .inl ⟨e, he, lift _ h⟩
  · refine .inr ⟨lift _ h, by omega, fun x hx => ?_⟩
    obtain ⟨i, hi, rfl⟩ := List.getElem_of_mem hx
    have := hh i (by omega) hi
    have e : rd_T39 l1 (i : Int) = l1[i] := by
      unfold rd_T39
      rw [Int.toNat_natCast, List.getD_eq_getElem?_getD, List.getElem?_eq_getElem hi]; rfl
    rw [e] at this
    exact this
/-! ### The streets along their signs -/
def fl (s : ByteArray) (j : Nat) (x : S39) : S39 := if bt s (j : Int) = 60 then ⟨x.f1, x.f0⟩ else x
def alg (s : ByteArray) (i : Nat) (l : List S39) : List S39 := l.mapIdx (fun j x => if j < i then fl s j x else x)
theorem alg_len (s : ByteArray) (i : Nat) (l : List S39) : (alg s i l).length = l.length := by simp [alg]
theorem alg_at {s : ByteArray} {i : Nat} {l : List S39} {j : Nat} (h : j < (alg s i l).length) : (alg s i l)[j] = if j < i then fl s j (l[j]'(by rw [alg_len] at h; exact h)) else l[j]'(by rw [alg_len] at h; exact h) := by
  simp only [alg, List.getElem_mapIdx]
theorem rdT {l : List S39} {j : Nat} (h : j < l.length) : rd_T39 l (j : Int) = l[j] := by
  unfold rd_T39
  rw [Int.toNat_natCast, List.getD_eq_getElem?_getD, List.getElem?_eq_getElem h]; rfl
theorem alg_zero (s : ByteArray) (l : List S39) : alg s 0 l = l := by
  refine List.ext_getElem (alg_len _ _ _) (fun j h1 h2 => ?_)
  rw [alg_at h1, if_neg (by omega)]
theorem alg_set {s : ByteArray} {l : List S39} {j : Nat} (h : j < l.length) : (alg s j l).set j (fl s j l[j]) = alg s (j + 1) l := by
  refine List.ext_getElem (by rw [List.length_set, alg_len, alg_len]) (fun i h1 h2 => ?_)
  rw [List.getElem_set, alg_at h2]
  by_cases e : j = i
  · subst e
    rw [if_pos rfl, if_pos (by omega)]
  · rw [if_neg e, alg_at (by rw [List.length_set] at h1; exact h1)]
    by_cases c : i < j
    · rw [if_pos c, if_pos (by omega)]
    · rw [if_neg c, if_neg (by omega)]
theorem along_is {s : ByteArray} {l : List S39} (hs : s.size = l.length) (hl : l.length ≤ 14) : Ev (fun k => trishawtop_along.f k l s) (alg s l.length l) := by
  have hA := alg_len s l.length l
  have go : ∀ (d j : Nat), j + d = l.length → Ev (fun k => trishawtop_along.l0 k l s ((alg s l.length l).take j) (j : Int)) (alg s l.length l) := by
    intro d
    induction d with
    | zero =>
      intro j hj
      have e : Ev (fun k => trishawtop_along.j1 k l s ((alg s l.length l).take j) (j : Int) false) (alg s l.length l) := (Ev.const _).succ (fun k => by
        simp only [trishawtop_along.j1]
        rw [if_neg (by decide), List.take_of_length_le (by omega)])
      refine e.succ (fun k => ?_)
      simp only [trishawtop_along.l0]
      rw [if_neg (by omega)]
    | succ d ih =>
      intro j hj
      have hjl : j < l.length := by omega
      have ih := ih (j + 1) (by omega)
      rw [← List.take_append_getElem (by omega : j < (alg s l.length l).length), alg_at (by omega), if_pos hjl] at ih
      have e : Ev (fun k => trishawtop_along.j1 k l s ((alg s l.length l).take j) (j : Int) true) (alg s l.length l) := by
        refine ih.succ (fun k => ?_)
        simp only [trishawtop_along.j1]
        have hlt : ((alg s l.length l).take j).length ≤ 14 := by rw [List.length_take]; omega
        rw [if_pos trivial, if_pos (by omega), if_pos (by omega), if_pos (by omega), rdT hjl, succ_is (by omega)]
        unfold fl
        by_cases c : bt s (j : Int) = 60
        · rw [if_pos c, if_pos c, if_pos (by omega)]
        · rw [if_neg c, if_neg c, if_pos (by omega)]
      refine e.succ (fun k => ?_)
      simp only [trishawtop_along.l0]
      rw [if_pos (by omega), decide_eq_true (by omega)]
  exact (go l.length 0 (by omega)).eq (fun k => rfl)
theorem signed_any (n : Int) (l : List S39) (hl : l.length ≤ 14) (s : ByteArray) :
    Ev (fun k => oneway_quarter_signed.f k n l s) ([], false) ∨ (s.size = l.length ∧ Ev (fun k => oneway_quarter_signed.f k n l s) (alg s l.length l, true)) := by
  have no : Ev (fun k => oneway_quarter_signed.j0 k s true n l) ([], false) := (Ev.const _).succ (fun k => by simp only [oneway_quarter_signed.j0]; rw [if_pos trivial])
  by_cases hs : s.size = l.length
  · obtain ⟨t, ht⟩ : ∃ t, strings_Trim.f s (⟨#[60, 62]⟩ : ByteArray) = some t := by
      unfold strings_Trim.f
      rw [if_pos ⟨by omega, by decide, by decide⟩]
      exact ⟨_, rfl⟩
    have lift : ∀ r, Ev (fun k => oneway_quarter_signed.j0 k s (t.toList != ([] : List UInt8)) n l) r → Ev (fun k => oneway_quarter_signed.f k n l s) r := fun r h => h.eq (fun k => by
      simp only [oneway_quarter_signed.f]
      rw [if_pos (by omega), ht, Option.bind_some])
    by_cases c : (t.toList != ([] : List UInt8)) = true
    · rw [c] at lift
      exact .inl (lift _ no)
    · rw [Bool.not_eq_true] at c
      rw [c] at lift
      refine .inr ⟨hs, lift _ ?_⟩
      have go : ∀ (d j : Nat), j + d = l.length → Ev (fun k => oneway_quarter_signed.l0 k (alg s j l) s (j : Int) (s.size : Int)) (alg s l.length l, true) := by
        intro d
        induction d with
        | zero =>
          intro j hj
          obtain rfl : j = l.length := by omega
          refine (Ev.const _).succ (fun k => ?_)
          simp only [oneway_quarter_signed.l0]
          rw [if_neg (by omega)]
        | succ d ih =>
          intro j hj
          have hjl : j < l.length := by omega
          have hja : j < (alg s j l).length := by rw [alg_len]; exact hjl
          have ih := ih (j + 1) (by omega)
          rw [← alg_set hjl] at ih
          refine ih.succ (fun k => ?_)
          simp only [oneway_quarter_signed.l0]
          have e1 : rd_T39 (alg s j l) (j : Int) = l[j] := by rw [rdT hja, alg_at hja, if_neg (by omega)]
          rw [if_pos (by omega), if_pos (by omega), if_pos (by omega), succ_is (by omega), Int.toNat_natCast]
          by_cases c : bt s (j : Int) = 60
          · rw [if_pos c, if_pos (by omega), Option.bind_some, e1]
            have e2 : rd_T39 ((alg s j l).set j (⟨l[j].f1, l[j].f1⟩ : S39)) (j : Int) = ⟨l[j].f1, l[j].f1⟩ := by
              rw [rdT (by rw [List.length_set]; exact hja), List.getElem_set_self]
            rw [e2, List.set_set]
            unfold fl
            rw [if_pos c]
          · rw [if_neg c]
            unfold fl
            rw [if_neg c]
            have e3 : (alg s j l).set j l[j] = alg s j l := by
              refine List.ext_getElem (by rw [List.length_set]) (fun i h1 h2 => ?_)
              rw [List.getElem_set]
              by_cases e : j = i
              · subst e; rw [if_pos rfl, alg_at hja, if_neg (by omega)]
              · rw [if_neg e]
            rw [e3]
      refine (go l.length 0 (by omega)).succ (fun k => ?_)
      simp only [oneway_quarter_signed.j0, api_Pair.f]
      rw [if_neg (by decide), if_pos (by omega), Option.bind_some, alg_zero]; rfl
  · refine .inl (no.eq (fun k => ?_))
    simp only [oneway_quarter_signed.f]
    rw [if_neg (by omega)]
/-- What oneway.Strong makes of any signs. -/
theorem strong_any (n : Int) (h2 : 2 ≤ n) (l : List S39) (hl : l.length ≤ 14) (s : ByteArray) :
    (∃ e : Int, e ≠ 0 ∧ Ev (fun k => oneway_Strong.f k n l s) (false, e)) ∨
    (∃ (m : Nat) (ws : List (Nat × Nat)) (b : Bool), n = ((m + 1 : Nat) : Int) ∧ 1 ≤ m ∧ m ≤ 6 ∧ s.size = l.length ∧ alg s l.length l = ws.map s39 ∧ Fair (m + 1) ws ∧ ws.length ≤ 14 ∧ (b = true ↔ All ws (m + 1)) ∧ Ev (fun k => oneway_Strong.f k n l s) (b, 0)) := by
  have top : ∀ (r : Int × List S39 × List (List S39) × Int) (q : Bool × Int), Ev (fun k => oneway_drawn.f k n l [s]) r → Ev (fun k => (if r.2.2.2 = 0 then (if 0 < (r.2.2.1.length : Int) then ((oneway_arcs_strong.f k (rd_L4 r.2.2.1 0) n).bind fun t275 => (some (t275, 0))) else (none)) else (some (false, r.2.2.2)))) q → Ev (fun k => oneway_Strong.f k n l s) q := fun r q h1 h3 =>
    (h1.bind (f := fun k bt265 => (if bt265.2.2.2 = 0 then (if 0 < (bt265.2.2.1.length : Int) then ((oneway_arcs_strong.f k (rd_L4 bt265.2.2.1 0) n).bind fun t275 => (some (t275, 0))) else (none)) else (some (false, bt265.2.2.2)))) h3).eq (fun k => rfl)
  rcases read_any n h2 l hl with ⟨e, he, h⟩ | ⟨h, h7, hv⟩
  · left
    refine ⟨e, he, top (0, [], [], e) _ ?_ ((Ev.const _).eq (fun k => if_neg he))⟩
    exact (h.bind (f := fun k bt238 => (if bt238.2.2 = 0 then (oneway_drawn.l0 k ([] : List (List (S39))) [s] (([s] : List ByteArray).length : Int) 0 bt238.1 bt238.2.1) else (some (bt238.1, bt238.2.1, ([] : List (List (S39))), bt238.2.2)))) ((Ev.const _).eq (fun k => if_neg he))).eq (fun k => rfl)
  · have dr : ∀ r, Ev (fun k => oneway_drawn.l0 k ([] : List (List (S39))) [s] 1 0 n l) r → Ev (fun k => oneway_drawn.f k n l [s]) r := fun r hr =>
      (h.bind (f := fun k bt238 => (if bt238.2.2 = 0 then (oneway_drawn.l0 k ([] : List (List (S39))) [s] (([s] : List ByteArray).length : Int) 0 bt238.1 bt238.2.1) else (some (bt238.1, bt238.2.1, ([] : List (List (S39))), bt238.2.2)))) (hr.eq (fun k => if_pos rfl))).eq (fun k => rfl)
    have one : ∀ (x : List S39 × Bool) r, Ev (fun k => oneway_quarter_signed.f k n l s) x → Ev (fun k => (if x.2 = true then (if ([] : List (List S39)).length < 5864062014805 then (oneway_drawn.l0 k (([] : List (List S39)) ++ [x.1]) [s] 1 (wrap64 (0 + 1)) n l) else (none)) else (some (n, l, ([] : List (List (S39))), 5)))) r → Ev (fun k => oneway_drawn.f k n l [s]) r := fun x r hx hr => dr r (by
      refine (hx.bind (f := fun k bt245 => (if bt245.2 = true then (if ([] : List (List S39)).length < 5864062014805 then (oneway_drawn.l0 k (([] : List (List S39)) ++ [bt245.1]) [s] 1 (wrap64 (0 + 1)) n l) else (none)) else (some (n, l, ([] : List (List (S39))), 5)))) hr).succ (fun k => ?_)
      simp only [oneway_drawn.l0]
      rw [if_pos (by decide), if_pos (by decide), if_pos (by simp)]; rfl)
    rcases signed_any n l hl s with hx | ⟨hs, hx⟩
    · left
      refine ⟨5, by decide, top (n, l, [], 5) _ (one _ _ hx ((Ev.const _).eq (fun k => if_neg (by decide)))) ((Ev.const _).eq (fun k => if_neg (show ¬ (5 : Int) = 0 by decide)))⟩
    · right
      obtain ⟨m, rfl⟩ : ∃ m : Nat, n = ((m + 1 : Nat) : Int) := ⟨(n - 1).toNat, by omega⟩
      have hA := alg_len s l.length l
      have hvA : ∀ x ∈ alg s l.length l, 0 ≤ x.f0 ∧ 0 ≤ x.f1 ∧ x.f0 < ((m + 1 : Nat) : Int) ∧ x.f1 < ((m + 1 : Nat) : Int) ∧ x.f0 ≠ x.f1 := by
        intro x hx
        obtain ⟨j, hj, rfl⟩ := List.getElem_of_mem hx
        rw [alg_at hj, if_pos (by omega)]
        have := hv l[j] (List.getElem_mem (by omega))
        unfold fl
        split
        · exact ⟨this.2.1, this.1, this.2.2.2.1, this.2.2.1, Ne.symm this.2.2.2.2⟩
        · exact this
      generalize alg s l.length l = A at hA hvA hx ⊢
      have e : A = (A.map (fun x => (x.f0.toNat, x.f1.toNat))).map s39 := by
        rw [List.map_map]
        conv => lhs; rw [← List.map_id A]
        refine List.map_congr_left (fun x hx => ?_)
        have := hvA x hx
        obtain ⟨p, q⟩ := x
        simp only [id, Function.comp, s39, S39.mk.injEq]
        simp only at this
        omega
      have hf : Fair (m + 1) (A.map (fun x => (x.f0.toNat, x.f1.toNat))) := by
        intro y hy
        obtain ⟨x, hx, rfl⟩ := List.mem_map.1 hy
        have := hvA x hx
        simp only
        omega
      have hlen : (A.map (fun x => (x.f0.toNat, x.f1.toNat))).length ≤ 14 := by rw [List.length_map]; omega
      generalize A.map (fun x => (x.f0.toNat, x.f1.toNat)) = ws at e hf hlen
      subst e
      obtain ⟨b, hb, hE⟩ := strong_is (m := m) (by omega) hf hlen
      refine ⟨m, ws, b, rfl, by omega, by omega, hs, rfl, hf, hlen, hb, ?_⟩
      refine top (((m + 1 : Nat) : Int), l, [ws.map s39], 0) _ (one _ _ hx ?_) ?_
      · refine ((Ev.const (((m + 1 : Nat) : Int), l, [ws.map s39], (0 : Int))).succ (g := fun k => oneway_drawn.l0 k [ws.map s39] [s] 1 1 ((m + 1 : Nat) : Int) l) (fun k => ?_)).eq (fun k => ?_)
        · simp only [oneway_drawn.l0]
          rw [if_neg (by decide)]
        · rw [if_pos rfl, if_pos (by decide), show wrap64 (0 + 1) = 1 from by unfold wrap64; omega]; rfl
      · refine (hE.bind (f := fun _ t275 => some (t275, (0 : Int))) (Ev.const _)).eq (fun k => ?_)
        simp only
        rw [if_pos trivial, if_pos (by simp)]; rfl
theorem top_strong (a0 : Int) (l1 : List S39) (a2 : ByteArray) : ∃ k, trishawtop_TopStrong.f k a0 l1 a2 = some true := by
  have fin : ∀ b, Ev (fun k => trishawtop_TopStrong.j0 k a0 l1 a2 b) true → (∀ k, trishawtop_TopStrong.f k a0 l1 a2 = trishawtop_TopStrong.j0 k a0 l1 a2 b) → ∃ k, trishawtop_TopStrong.f k a0 l1 a2 = some true := by
    intro b ⟨K, hK⟩ e
    exact ⟨K, by rw [e]; exact hK K (Nat.le_refl _)⟩
  have guard : Ev (fun k => trishawtop_TopStrong.j0 k a0 l1 a2 true) true :=
    (true_ev (g := fun _ t => some t) (fun _ _ => rfl)).succ (fun k => by simp only [trishawtop_TopStrong.j0]; rw [if_pos trivial])
  by_cases c1 : (l1.length : Int) > 14
  · exact fin true guard (fun k => by simp only [trishawtop_TopStrong.f]; rw [if_pos c1])
  by_cases c2 : a0 < 2
  · exact fin true guard (fun k => by simp only [trishawtop_TopStrong.f]; rw [if_neg c1, decide_eq_true c2])
  refine fin false ?_ (fun k => by simp only [trishawtop_TopStrong.f]; rw [if_neg c1, decide_eq_false c2])
  have strs : Ev (fun k => (trishawtop_streets.f k).bind fun t => (some t)) true := true_ev (g := fun _ t => some t) (fun _ _ => rfl)
  rcases strong_any a0 (by omega) l1 (by omega) a2 with ⟨e, he, h⟩ | ⟨m, ws, b, rfl, hm1, hm6, hs, hA, hf, hlen, hb, h⟩
  · refine (h.bind (f := fun k bt308 => (if bt308.2 = 0 then ((trishawtop_along.f k l1 a2).bind fun t311 => ((fetch_Strong.f k a0 t311).bind fun bt314 => ((trishawtop_along.f k l1 a2).bind fun t316 => ((fetch_Mend.f k a0 t316).bind fun bt319 => (if bt314.2 = 0 then (if bt319.2 = 0 then (if (bt308.1 == bt314.1) = true then (if (bt308.1 == ((bt319.1.length : Int) == 0)) = true then ((trishawtop_streets.f k).bind fun t323 => (some t323)) else (some false)) else (some false)) else (some false)) else (if bt314.2 = 9 then (if bt319.2 = bt314.2 then (if bt308.1 = true then (some false) else ((trishawtop_streets.f k).bind fun t324 => (some t324))) else (some false)) else (some false))))))) else (if bt308.1 = true then (some false) else ((trishawtop_streets.f k).bind fun t310 => (some t310))))) (strs.eq (fun k => ?_))).succ (fun k => ?_)
    · simp only
      rw [if_neg he, if_neg (by decide)]
    · simp only [trishawtop_TopStrong.j0]
      rw [if_neg (by decide)]
  · have hal := along_is hs (by omega : l1.length ≤ 14)
    rw [hA] at hal
    obtain ⟨x, hx, hS⟩ := fstrong_is (n := m + 1) (by omega) (by omega) hf hlen
    obtain ⟨best, hbest, hM⟩ := mend_is (n := m + 1) (by omega) (by omega) hf hlen
    have last : Ev (fun k => ((trishawtop_along.f k l1 a2).bind fun t311 => ((fetch_Strong.f k ((m + 1 : Nat) : Int) t311).bind fun bt314 => ((trishawtop_along.f k l1 a2).bind fun t316 => ((fetch_Mend.f k ((m + 1 : Nat) : Int) t316).bind fun bt319 => (if bt314.2 = 0 then (if bt319.2 = 0 then (if (b == bt314.1) = true then (if (b == ((bt319.1.length : Int) == 0)) = true then ((trishawtop_streets.f k).bind fun t323 => (some t323)) else (some false)) else (some false)) else (some false)) else (if bt314.2 = 9 then (if bt319.2 = bt314.2 then (if b = true then (some false) else ((trishawtop_streets.f k).bind fun t324 => (some t324))) else (some false)) else (some false)))))))) true := by
      refine hal.bind (f := fun k t311 => ((fetch_Strong.f k ((m + 1 : Nat) : Int) t311).bind fun bt314 => ((trishawtop_along.f k l1 a2).bind fun t316 => ((fetch_Mend.f k ((m + 1 : Nat) : Int) t316).bind fun bt319 => (if bt314.2 = 0 then (if bt319.2 = 0 then (if (b == bt314.1) = true then (if (b == ((bt319.1.length : Int) == 0)) = true then ((trishawtop_streets.f k).bind fun t323 => (some t323)) else (some false)) else (some false)) else (some false)) else (if bt314.2 = 9 then (if bt319.2 = bt314.2 then (if b = true then (some false) else ((trishawtop_streets.f k).bind fun t324 => (some t324))) else (some false)) else (some false))))))) ?_
      refine hS.bind (f := fun k bt314 => ((trishawtop_along.f k l1 a2).bind fun t316 => ((fetch_Mend.f k ((m + 1 : Nat) : Int) t316).bind fun bt319 => (if bt314.2 = 0 then (if bt319.2 = 0 then (if (b == bt314.1) = true then (if (b == ((bt319.1.length : Int) == 0)) = true then ((trishawtop_streets.f k).bind fun t323 => (some t323)) else (some false)) else (some false)) else (some false)) else (if bt314.2 = 9 then (if bt319.2 = bt314.2 then (if b = true then (some false) else ((trishawtop_streets.f k).bind fun t324 => (some t324))) else (some false)) else (some false)))))) ?_
      generalize hSr : (if con ws (m + 1) = 2 ^ (m + 1) - 1 then (x, (0 : Int)) else (false, 9)) = sr
      refine hal.bind (f := fun k t316 => ((fetch_Mend.f k ((m + 1 : Nat) : Int) t316).bind fun bt319 => (if sr.2 = 0 then (if bt319.2 = 0 then (if (b == sr.1) = true then (if (b == ((bt319.1.length : Int) == 0)) = true then ((trishawtop_streets.f k).bind fun t323 => (some t323)) else (some false)) else (some false)) else (some false)) else (if sr.2 = 9 then (if bt319.2 = sr.2 then (if b = true then (some false) else ((trishawtop_streets.f k).bind fun t324 => (some t324))) else (some false)) else (some false))))) ?_
      refine hM.bind (f := fun k bt319 => (if sr.2 = 0 then (if bt319.2 = 0 then (if (b == sr.1) = true then (if (b == ((bt319.1.length : Int) == 0)) = true then ((trishawtop_streets.f k).bind fun t323 => (some t323)) else (some false)) else (some false)) else (some false)) else (if sr.2 = 9 then (if bt319.2 = sr.2 then (if b = true then (some false) else ((trishawtop_streets.f k).bind fun t324 => (some t324))) else (some false)) else (some false)))) (strs.eq (fun k => ?_))
      subst hSr
      by_cases c : con ws (m + 1) = 2 ^ (m + 1) - 1
      · rw [if_pos c, if_pos c]
        have e1 : b = x := by
          have : b = true ↔ x = true := hb.trans hx.symm
          cases b <;> cases x <;> simp at this ⊢
        have e2 : b = ((best.length : Int) == 0) := by
          have h3 := hbest c
          have h4 : ((best.length : Int) == 0) = true ↔ best.length = 0 := by rw [beq_iff_eq]; omega
          have : b = true ↔ ((best.length : Int) == 0) = true := hb.trans (h3.symm.trans h4.symm)
          cases h5 : ((best.length : Int) == 0) <;> rw [h5] at this <;> cases b <;> simp at this ⊢
        simp only
        rw [if_pos trivial, if_pos trivial, if_pos (by rw [e1, beq_self_eq_true]), if_pos (by rw [← e2, beq_self_eq_true])]
      · rw [if_neg c, if_neg c]
        have e1 : ¬ b = true := fun h => c (con_full hf.good (by omega) (hb.1 h))
        simp only
        rw [if_neg (by decide), if_pos trivial, if_pos trivial, if_neg e1]
    refine (h.bind (f := fun k bt308 => (if bt308.2 = 0 then ((trishawtop_along.f k l1 a2).bind fun t311 => ((fetch_Strong.f k ((m + 1 : Nat) : Int) t311).bind fun bt314 => ((trishawtop_along.f k l1 a2).bind fun t316 => ((fetch_Mend.f k ((m + 1 : Nat) : Int) t316).bind fun bt319 => (if bt314.2 = 0 then (if bt319.2 = 0 then (if (bt308.1 == bt314.1) = true then (if (bt308.1 == ((bt319.1.length : Int) == 0)) = true then ((trishawtop_streets.f k).bind fun t323 => (some t323)) else (some false)) else (some false)) else (some false)) else (if bt314.2 = 9 then (if bt319.2 = bt314.2 then (if bt308.1 = true then (some false) else ((trishawtop_streets.f k).bind fun t324 => (some t324))) else (some false)) else (some false))))))) else (if bt308.1 = true then (some false) else ((trishawtop_streets.f k).bind fun t310 => (some t310))))) (last.eq (fun k => ?_))).succ (fun k => ?_)
    · simp only
      rw [if_pos trivial]
    · simp only [trishawtop_TopStrong.j0]
      rw [if_neg (by decide)]
end Go.Proofs.YtlcgoacmlbeliaaDoor.Str
