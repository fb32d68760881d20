/- What fetch.Mend computes: a list that is empty if every corner is reached from every one. Conditions: two to seven corners, at most 14 arcs, each arc joins two corners. -/
import Derived.Test.YtlcgoacmlbeliaaDoorLkRead
namespace Go.Proofs.YtlcgoacmlbeliaaDoor.Str
set_option linter.unusedVariables false
set_option linter.unusedSimpArgs false
open Go.RowKit Go.Proofs.YtlcgoacmlbeliaaDoorW.PrintWords Go.Proofs.YtlcgoacmlbeliaaDoorW.PrintLast Go.Proofs.YtlcgoacmlbeliaaDoorW.PrintMore P
def ints (l : List Nat) : List Int := l.map (fun c : Nat => (c : Int))
theorem ints_len (l : List Nat) : (ints l).length = l.length := by simp [ints]
theorem rd_ints {l : List Nat} {j : Nat} (h : j < l.length) : rd (ints l) (j : Int) = (l[j] : Int) := by
  unfold rd ints
  rw [Int.toNat_natCast, List.getD_eq_getElem?_getD, List.getElem?_eq_getElem (by rw [List.length_map]; exact h), Option.getD_some, List.getElem_map]
section
variable {n : Nat} {ws : List (Nat × Nat)}
theorem kind_is (h7 : n ≤ 7) (hv : Fair n ws) (hl : ws.length ≤ 14) {S : Nat} (hS : S < 2 ^ n) :
    ∃ t : Int, Ev (fun k => fetch_quarter_kind.f k (n : Int) (ws.map s39) (S : Int)) t ∧ (t = 1 ↔ IsCut ws n S) := by
  have h62 : S < 2 ^ 62 := lt62 hS (by omega)
  have go : ∀ (d j : Nat), j + d = ws.length → ∃ t : Int, Ev (fun k => fetch_quarter_kind.l0 k (S : Int) (ws.map s39) (ws.length : Int) (j : Int)) t ∧ (t = 1 ↔ ∀ e ∈ ws.drop j, ¬ (S.testBit e.1 = false ∧ S.testBit e.2 = true)) := by
    intro d
    induction d with
    | zero =>
      intro j hj
      refine ⟨1, (Ev.const _).succ (fun k => ?_), ?_⟩
      · simp only [fetch_quarter_kind.l0]
        rw [if_neg (by omega)]
      · rw [List.drop_eq_nil_of_le (by omega)]; simp
    | succ d ih =>
      intro j hj
      have hjl : j < ws.length := by omega
      have he := hv ws[j] (List.getElem_mem hjl)
      rw [List.drop_eq_getElem_cons hjl]
      obtain ⟨t, h1, h2⟩ := ih (j + 1) (by omega)
      by_cases c1 : S.testBit ws[j].1 = false
      · by_cases c2 : S.testBit ws[j].2 = true
        · refine ⟨0, (Ev.const _).succ (fun k => ?_), ⟨fun h => absurd h (by decide), fun h => absurd ⟨c1, c2⟩ (h _ List.mem_cons_self)⟩⟩
          simp only [fetch_quarter_kind.l0]
          rw [if_pos (by omega), if_pos (by omega), if_pos (by rw [List.length_map]; omega), rd39_0 hjl, rd39_1 hjl, if_pos (by omega), if_pos ((bit0 h62).2 c1), if_pos (by omega), if_pos ((bit1 h62).2 c2)]
        · refine ⟨t, h1.succ (fun k => ?_), ?_⟩
          · simp only [fetch_quarter_kind.l0]
            rw [if_pos (by omega), if_pos (by omega), if_pos (by rw [List.length_map]; omega), rd39_0 hjl, rd39_1 hjl, if_pos (by omega), if_pos ((bit0 h62).2 c1), if_pos (by omega), if_neg (fun h => c2 ((bit1 h62).1 h)), succ_is (by omega)]
          · rw [h2]
            exact ⟨fun h e he' => (List.mem_cons.1 he').elim (fun e1 => by rw [e1]; exact fun h3 => c2 h3.2) (h e), fun h e he' => h e (List.mem_cons_of_mem _ he')⟩
      · refine ⟨t, h1.succ (fun k => ?_), ?_⟩
        · simp only [fetch_quarter_kind.l0]
          rw [if_pos (by omega), if_pos (by omega), if_pos (by rw [List.length_map]; omega), rd39_0 hjl, if_pos (by omega), if_neg (fun h => c1 ((bit0 h62).1 h)), succ_is (by omega)]
        · rw [h2]
          exact ⟨fun h e he' => (List.mem_cons.1 he').elim (fun e1 => by rw [e1]; exact fun h3 => c1 h3.1) (h e), fun h e he' => h e (List.mem_cons_of_mem _ he')⟩
  have two : Ev (fun k => fetch_quarter_kind.j0 k (S : Int) true (n : Int) (ws.map s39)) 2 := (Ev.const _).succ (fun k => by simp only [fetch_quarter_kind.j0]; rw [if_pos trivial])
  by_cases c0 : S = 0
  · refine ⟨2, two.eq (fun k => ?_), ⟨fun h => absurd h (by decide), fun h => by have := h.1; omega⟩⟩
    simp only [fetch_quarter_kind.f]
    rw [if_pos (by omega)]
  by_cases c1 : 2 ^ n - 1 ≤ S
  · refine ⟨2, two.eq (fun k => ?_), ⟨fun h => absurd h (by decide), fun h => by have := h.2.1; omega⟩⟩
    simp only [fetch_quarter_kind.f]
    rw [if_neg (by omega), every_is h7, Option.bind_some, decide_eq_true (by omega)]
  obtain ⟨t, h1, h2⟩ := go ws.length 0 (by omega)
  have h3 : Ev (fun k => fetch_quarter_kind.j0 k (S : Int) false (n : Int) (ws.map s39)) t := h1.succ (fun k => by
    simp only [fetch_quarter_kind.j0]
    rw [if_neg (by decide), List.length_map]; rfl)
  refine ⟨t, h3.eq (fun k => ?_), ?_⟩
  · simp only [fetch_quarter_kind.f]
    rw [if_neg (by omega), every_is h7, Option.bind_some, decide_eq_false (by omega)]
  · rw [h2, List.drop_zero]
    exact ⟨fun h => ⟨by omega, by omega, h⟩, fun h => h.2.2⟩
theorem cuts_is (h7 : n ≤ 7) (hv : Fair n ws) (hl : ws.length ≤ 14) :
    ∃ L : List Nat, Ev (fun k => fetch_quarter_cuts.f k (n : Int) (ws.map s39)) (ints L) ∧ (∀ S, S ∈ L ↔ IsCut ws n S) ∧ L.length ≤ 128 := by
  have hp := pow7 h7
  have go : ∀ (d S : Nat) (acc : List Nat), S + d = 2 ^ n - 1 → acc.length ≤ S → ∃ L : List Nat, Ev (fun k => fetch_quarter_cuts.l0 k (ints acc) ((2 ^ n - 1 : Nat) : Int) (S : Int) (n : Int) (ws.map s39)) (ints L) ∧ (∀ T, T ∈ L ↔ T ∈ acc ∨ (S ≤ T ∧ IsCut ws n T)) ∧ L.length ≤ 2 ^ n - 1 := by
    intro d
    induction d with
    | zero =>
      intro S acc hS ha
      refine ⟨acc, (Ev.const _).succ (fun k => ?_), fun T => ⟨.inl, fun h => h.elim id (fun h => by have := h.2.2.1; omega)⟩, by omega⟩
      simp only [fetch_quarter_cuts.l0]
      rw [if_neg (by omega)]
    | succ d ih =>
      intro S acc hS ha
      obtain ⟨t, h1, h2⟩ := kind_is h7 hv hl (S := S) (by omega)
      by_cases c : t = 1
      · obtain ⟨L, h3, h4, h5⟩ := ih (S + 1) (acc ++ [S]) (by omega) (by simp; omega)
        refine ⟨L, (h1.bind (f := fun k t115 => (if t115 = 1 then (if (ints acc).length < 17592186044416 then (fetch_quarter_cuts.l0 k ((ints acc) ++ [(S : Int)]) ((2 ^ n - 1 : Nat) : Int) (wrap64 ((S : Int) + 1)) (n : Int) (ws.map s39)) else (none)) else (fetch_quarter_cuts.l0 k (ints acc) ((2 ^ n - 1 : Nat) : Int) (wrap64 ((S : Int) + 1)) (n : Int) (ws.map s39)))) (h3.eq (fun k => ?_))).succ (fun k => ?_), fun T => ?_, h5⟩
        · rw [if_pos c, if_pos (by rw [ints_len]; omega), succ_is (by omega)]
          simp [ints]
        · simp only [fetch_quarter_cuts.l0]
          rw [if_pos (by omega)]
        · rw [h4, List.mem_append, List.mem_singleton]
          constructor
          · rintro ((h | rfl) | h)
            · exact .inl h
            · exact .inr ⟨Nat.le_refl _, h2.1 c⟩
            · exact .inr ⟨by omega, h.2⟩
          · rintro (h | h)
            · exact .inl (.inl h)
            · by_cases e : T = S
              · exact .inl (.inr e)
              · exact .inr ⟨by omega, h.2⟩
      · obtain ⟨L, h3, h4, h5⟩ := ih (S + 1) acc (by omega) (by omega)
        refine ⟨L, (h1.bind (f := fun k t115 => (if t115 = 1 then (if (ints acc).length < 17592186044416 then (fetch_quarter_cuts.l0 k ((ints acc) ++ [(S : Int)]) ((2 ^ n - 1 : Nat) : Int) (wrap64 ((S : Int) + 1)) (n : Int) (ws.map s39)) else (none)) else (fetch_quarter_cuts.l0 k (ints acc) ((2 ^ n - 1 : Nat) : Int) (wrap64 ((S : Int) + 1)) (n : Int) (ws.map s39)))) (h3.eq (fun k => ?_))).succ (fun k => ?_), fun T => ?_, h5⟩
        · rw [if_neg c, succ_is (by omega)]
        · simp only [fetch_quarter_cuts.l0]
          rw [if_pos (by omega)]
        · rw [h4]
          constructor
          · rintro (h | h)
            · exact .inl h
            · exact .inr ⟨by omega, h.2⟩
          · rintro (h | h)
            · exact .inl h
            · by_cases e : T = S
              · subst e; exact absurd (h2.2 h.2) c
              · exact .inr ⟨by omega, h.2⟩
  obtain ⟨L, h1, h2, h3⟩ := go (2 ^ n - 1) 0 [] (by omega) (by simp)
  refine ⟨L, h1.eq (fun k => ?_), fun S => by rw [h2]; simp, by omega⟩
  simp only [fetch_quarter_cuts.f]
  rw [every_is h7, Option.bind_some]; rfl
theorem crossing_is (h7 : n ≤ 7) (hv : Fair n ws) (hl : ws.length ≤ 14) {S : Nat} (hS : S < 2 ^ n) :
    ∃ y : Nat, Ev (fun k => fetch_quarter_crossing.f k (n : Int) (ws.map s39) (S : Int)) (y : Int) ∧ y < 2 ^ ws.length ∧ ((∃ e ∈ ws, S.testBit e.1 = true ∧ S.testBit e.2 = false) → 0 < y) := by
  have h62 : S < 2 ^ 62 := lt62 hS (by omega)
  have go : ∀ (d j y : Nat), j + d = ws.length → y < 2 ^ ws.length → ∃ z : Nat, Ev (fun k => fetch_quarter_crossing.l0 k (S : Int) (y : Int) (ws.map s39) (ws.length : Int) (j : Int)) (z : Int) ∧ z < 2 ^ ws.length ∧ (0 < y → 0 < z) ∧ ((∃ e ∈ ws.drop j, S.testBit e.1 = true ∧ S.testBit e.2 = false) → 0 < z) := by
    intro d
    induction d with
    | zero =>
      intro j y hj hy
      refine ⟨y, (Ev.const _).succ (fun k => ?_), hy, id, ?_⟩
      · simp only [fetch_quarter_crossing.l0]
        rw [if_neg (by omega)]
      · rw [List.drop_eq_nil_of_le (by omega)]; simp
    | succ d ih =>
      intro j y hj hy
      have hjl : j < ws.length := by omega
      have he := hv ws[j] (List.getElem_mem hjl)
      have hy62 : y < 2 ^ 62 := lt62 hy (by omega)
      rw [List.drop_eq_getElem_cons hjl]
      by_cases c1 : S.testBit ws[j].1 = true
      · by_cases c2 : S.testBit ws[j].2 = false
        · have hpos : 0 < y ||| 2 ^ j := by
            rcases Nat.eq_zero_or_pos (y ||| 2 ^ j) with h0 | h0
            · have h1 : (y ||| 2 ^ j).testBit j = true := by rw [Nat.testBit_or, (two_bit j j).2 rfl, Bool.or_true]
              rw [h0, Nat.zero_testBit] at h1; exact absurd h1 (by decide)
            · exact h0
          obtain ⟨z, h1, h2, h3, h4⟩ := ih (j + 1) (y ||| 2 ^ j) (by omega) (Nat.or_lt_two_pow hy (Nat.pow_lt_pow_right (by decide) hjl))
          refine ⟨z, h1.succ (fun k => ?_), h2, fun _ => h3 hpos, fun _ => h3 hpos⟩
          simp only [fetch_quarter_crossing.l0]
          rw [if_pos (by omega), if_pos (by omega), if_pos (by rw [List.length_map]; omega), rd39_0 hjl, rd39_1 hjl, if_pos (by omega), if_pos ((bit1 h62).2 c1), if_pos (by omega), if_pos ((bit0 h62).2 c2), succ_is (by omega), shl_is (by omega), or_is hy62 (Nat.pow_lt_pow_right (by decide) (by omega))]
        · obtain ⟨z, h1, h2, h3, h4⟩ := ih (j + 1) y (by omega) hy
          refine ⟨z, h1.succ (fun k => ?_), h2, h3, ?_⟩
          · simp only [fetch_quarter_crossing.l0]
            rw [if_pos (by omega), if_pos (by omega), if_pos (by rw [List.length_map]; omega), rd39_0 hjl, rd39_1 hjl, if_pos (by omega), if_pos ((bit1 h62).2 c1), if_pos (by omega), if_neg (fun h => c2 ((bit0 h62).1 h)), succ_is (by omega)]
          · rintro ⟨e, hm, ha, hb⟩
            rcases List.mem_cons.1 hm with rfl | hm
            · exact absurd hb c2
            · exact h4 ⟨e, hm, ha, hb⟩
      · obtain ⟨z, h1, h2, h3, h4⟩ := ih (j + 1) y (by omega) hy
        refine ⟨z, h1.succ (fun k => ?_), h2, h3, ?_⟩
        · simp only [fetch_quarter_crossing.l0]
          rw [if_pos (by omega), if_pos (by omega), if_pos (by rw [List.length_map]; omega), rd39_0 hjl, if_pos (by omega), if_neg (fun h => c1 ((bit1 h62).1 h)), succ_is (by omega)]
        · rintro ⟨e, hm, ha, hb⟩
          rcases List.mem_cons.1 hm with rfl | hm
          · exact absurd ha c1
          · exact h4 ⟨e, hm, ha, hb⟩
  obtain ⟨z, h1, h2, _, h4⟩ := go ws.length 0 0 (by omega) (Nat.two_pow_pos _)
  refine ⟨z, h1.eq (fun k => ?_), h2, fun h => h4 (by rw [List.drop_zero]; exact h)⟩
  simp only [fetch_quarter_crossing.f, List.length_map]; rfl
end
/-! ### The finder -/
theorem refused_is {all : List Nat} (hl : all.length ≤ 128) (h62 : ∀ y ∈ all, y < 2 ^ 62) {s : Nat} (hs : s < 2 ^ 62) :
    ∃ b : Bool, Ev (fun k => slices_ContainsFunc_int_int.f k (ints all) (s : Int)) b ∧ (b = true ↔ ∃ y ∈ all, y &&& s = 0) := by
  have go : ∀ (d j : Nat), j + d = all.length → ∃ i : Int, Ev (fun k => slices_IndexFunc_int_int.l0 k (ints all) (s : Int) (all.length : Int) (j : Int)) i ∧ (0 ≤ i ↔ ∃ y ∈ all.drop j, y &&& s = 0) := by
    intro d
    induction d with
    | zero =>
      intro j hj
      refine ⟨-1, (Ev.const _).succ (fun k => ?_), ?_⟩
      · simp only [slices_IndexFunc_int_int.l0]
        rw [if_neg (by omega)]
      · rw [List.drop_eq_nil_of_le (by omega)]; simp
    | succ d ih =>
      intro j hj
      have hjl : j < all.length := by omega
      have hy := h62 all[j] (List.getElem_mem hjl)
      rw [List.drop_eq_getElem_cons hjl]
      by_cases c : all[j] &&& s = 0
      · refine ⟨(j : Int), (Ev.const _).succ (fun k => ?_), iff_of_true (by omega) ⟨_, List.mem_cons_self, c⟩⟩
        simp only [slices_IndexFunc_int_int.l0, fetch_finder_1_1.f]
        rw [if_pos (by omega), if_pos (by omega), if_pos (by rw [ints_len]; omega), rd_ints hjl, and_is hy hs, c, Option.bind_some, if_pos (by decide)]
      · obtain ⟨i, h1, h2⟩ := ih (j + 1) (by omega)
        refine ⟨i, h1.succ (fun k => ?_), ?_⟩
        · simp only [slices_IndexFunc_int_int.l0, fetch_finder_1_1.f]
          rw [if_pos (by omega), if_pos (by omega), if_pos (by rw [ints_len]; omega), rd_ints hjl, and_is hy hs, Option.bind_some, if_neg (by rw [beq_iff_eq]; omega), succ_is (by omega)]
        · rw [h2]
          constructor
          · rintro ⟨y, hm, e⟩; exact ⟨y, List.mem_cons_of_mem _ hm, e⟩
          · rintro ⟨y, hm, e⟩
            rcases List.mem_cons.1 hm with rfl | hm
            · exact absurd e c
            · exact ⟨y, hm, e⟩
  obtain ⟨i, h1, h2⟩ := go all.length 0 (by omega)
  refine ⟨decide (i ≥ 0), ?_, ?_⟩
  · have h3 : Ev (fun k => slices_IndexFunc_int_int.f k (ints all) (s : Int)) i := h1.eq (fun k => by simp only [slices_IndexFunc_int_int.f, ints_len]; rfl)
    exact (h3.bind (f := fun _ t => some (decide (t ≥ 0))) (Ev.const _)).eq (fun k => rfl)
  · rw [decide_eq_true_eq, ge_iff_le, h2, List.drop_zero]
theorem cmp_ev (a b : Int) : ∃ t, cmp_Compare_int.f a b = some t := by
  simp only [cmp_Compare_int.f, cmp_isNaN_int.f, Option.bind_some, bne_self_eq_false]
  rw [if_neg (by decide), if_neg (by decide)]
  split
  · exact ⟨_, rfl⟩
  · split
    · exact ⟨_, rfl⟩
    · exact ⟨_, rfl⟩
theorem compare_ev {a b : List Int} (ha : a.length ≤ 14) : ∃ t : Int, Ev (fun k => slices_Compare_int_int.f k a b) t := by
  have go : ∀ (d j : Nat), j + d = a.length → ∃ t : Int, Ev (fun k => slices_Compare_int_int.l0 k a b a (a.length : Int) (j : Int)) t := by
    intro d
    induction d with
    | zero =>
      intro j hj
      by_cases c : (a.length : Int) < (b.length : Int)
      · refine ⟨-1, (Ev.const _).succ (fun k => ?_)⟩
        simp only [slices_Compare_int_int.l0]
        rw [if_neg (by omega), if_pos c]
      · refine ⟨0, (Ev.const _).succ (fun k => ?_)⟩
        simp only [slices_Compare_int_int.l0]
        rw [if_neg (by omega), if_neg c]
    | succ d ih =>
      intro j hj
      by_cases c1 : (j : Int) ≥ (b.length : Int)
      · refine ⟨1, (Ev.const _).succ (fun k => ?_)⟩
        simp only [slices_Compare_int_int.l0]
        rw [if_pos (by omega), if_pos (by omega), if_pos (by omega), if_pos c1]
      · obtain ⟨t, ht⟩ := cmp_ev (rd a (j : Int)) (rd b (j : Int))
        by_cases c2 : t = 0
        · obtain ⟨y, hy⟩ := ih (j + 1) (by omega)
          refine ⟨y, hy.succ (fun k => ?_)⟩
          simp only [slices_Compare_int_int.l0]
          rw [if_pos (by omega), if_pos (by omega), if_pos (by omega), if_neg c1, if_pos (by omega), ht, Option.bind_some, if_pos c2, succ_is (by omega)]
        · refine ⟨t, (Ev.const _).succ (fun k => ?_)⟩
          simp only [slices_Compare_int_int.l0]
          rw [if_pos (by omega), if_pos (by omega), if_pos (by omega), if_neg c1, if_pos (by omega), ht, Option.bind_some, if_neg c2]
  obtain ⟨t, h⟩ := go a.length 0 (by omega)
  exact ⟨t, h.eq (fun k => rfl)⟩
/-- One set is told. -/
theorem tell_is {q : Nat} (hq : q ≤ 14) {all : List Nat} (hl : all.length ≤ 128) (hall : ∀ y ∈ all, 0 < y ∧ y < 2 ^ q) {s : Nat} (hs : s < 2 ^ q) (found : Bool) (best : List Int) (many : Int) (hb : best.length ≤ 14) :
    ∃ (best' : List Int) (many' : Int) (found' : Bool), Ev (fun k => fetch_finder_1.f k (s : Int) (ints all) found best many) (best', many', found') ∧ best'.length ≤ 14 ∧
      (((∃ y ∈ all, y &&& s = 0) ∧ best' = best ∧ found' = found) ∨
       ((¬ ∃ y ∈ all, y &&& s = 0) ∧ found' = true ∧ (best' = lst s q ∨ (found = true ∧ best' = best)) ∧ (found = true → best = [] → best' = []))) := by
  have hs62 : s < 2 ^ 62 := lt62 hs (by omega)
  obtain ⟨b, h1, h2⟩ := refused_is hl (fun y hy => lt62 (hall y hy).2 (by omega)) hs62
  have hL := list_is hq hs
  have hLl := lst_len s q
  cases b with
  | true =>
    refine ⟨best, many, found, ?_, hb, .inl ⟨h2.1 rfl, rfl, rfl⟩⟩
    exact (h1.bind (f := fun k t133 => (if t133 = true then (some (best, many, found)) else ((fetch_list.f k (s : Int)).bind fun t134 => (if found = true then (fetch_finder_1.j0 k found best many t134 (decide ((t134.length : Int) < (best.length : Int)))) else (fetch_finder_1.j0 k found best many t134 true))))) ((Ev.const _).eq (fun k => if_pos rfl))).eq (fun k => rfl)
  | false =>
    have hno : ¬ ∃ y ∈ all, y &&& s = 0 := fun h => absurd (h2.2 h) (by decide)
    have wrap : ∀ r, Ev (fun k => (if found = true then (fetch_finder_1.j0 k found best many (lst s q) (decide (((lst s q).length : Int) < (best.length : Int)))) else (fetch_finder_1.j0 k found best many (lst s q) true))) r → Ev (fun k => fetch_finder_1.f k (s : Int) (ints all) found best many) r := by
      intro r hr
      exact (h1.bind (f := fun k t133 => (if t133 = true then (some (best, many, found)) else ((fetch_list.f k (s : Int)).bind fun t134 => (if found = true then (fetch_finder_1.j0 k found best many t134 (decide ((t134.length : Int) < (best.length : Int)))) else (fetch_finder_1.j0 k found best many t134 true))))) ((hL.bind (f := fun k t134 => (if found = true then (fetch_finder_1.j0 k found best many t134 (decide ((t134.length : Int) < (best.length : Int)))) else (fetch_finder_1.j0 k found best many t134 true))) hr).eq (fun k => if_neg (by decide)))).eq (fun k => rfl)
    have take : Ev (fun k => fetch_finder_1.j0 k found best many (lst s q) true) (lst s q, 1, true) := (Ev.const _).succ (fun k => by simp only [fetch_finder_1.j0]; rw [if_pos trivial])
    cases found with
    | false =>
      refine ⟨lst s q, 1, true, wrap _ (take.eq (fun k => if_neg (by decide))), by omega, .inr ⟨hno, rfl, .inl rfl, fun h => absurd h (by decide)⟩⟩
    | true =>
      by_cases c1 : ((lst s q).length : Int) < (best.length : Int)
      · refine ⟨lst s q, 1, true, wrap _ (take.eq (fun k => by rw [if_pos rfl, decide_eq_true c1])), by omega, .inr ⟨hno, rfl, .inl rfl, fun _ e => ?_⟩⟩
        rw [e] at c1; simp at c1
        omega
      · have lift : ∀ r, Ev (fun k => fetch_finder_1.j0 k true best many (lst s q) false) r → Ev (fun k => fetch_finder_1.f k (s : Int) (ints all) true best many) r := fun r hr => wrap r (hr.eq (fun k => by rw [if_pos rfl, decide_eq_false c1]))
        by_cases c2 : ((lst s q).length : Int) = (best.length : Int)
        · obtain ⟨t, ht⟩ := compare_ev (a := lst s q) (b := best) (by omega)
          by_cases c3 : t < 0
          · refine ⟨lst s q, wrap64 (many + 1), true, lift _ ?_, by omega, .inr ⟨hno, rfl, .inl rfl, fun _ e => ?_⟩⟩
            · refine (ht.bind (f := fun _ t137 => (if t137 < 0 then (some (lst s q, wrap64 (many + 1), true)) else (some (best, wrap64 (many + 1), true)))) ((Ev.const _).eq (fun k => if_pos c3))).succ (fun k => ?_)
              simp only [fetch_finder_1.j0]
              rw [if_neg (by decide), if_pos c2]
            · rw [e] at c2
              exact List.eq_nil_of_length_eq_zero (by simpa using c2)
          · refine ⟨best, wrap64 (many + 1), true, lift _ ?_, hb, .inr ⟨hno, rfl, .inr ⟨rfl, rfl⟩, fun _ e => e⟩⟩
            refine (ht.bind (f := fun _ t137 => (if t137 < 0 then (some (lst s q, wrap64 (many + 1), true)) else (some (best, wrap64 (many + 1), true)))) ((Ev.const _).eq (fun k => if_neg c3))).succ (fun k => ?_)
            simp only [fetch_finder_1.j0]
            rw [if_neg (by decide), if_pos c2]
        · refine ⟨best, many, true, lift _ ((Ev.const _).succ (fun k => ?_)), hb, .inr ⟨hno, rfl, .inr ⟨rfl, rfl⟩, fun _ e => e⟩⟩
          simp only [fetch_finder_1.j0]
          rw [if_neg (by decide), if_neg c2]
/-- All sets are told. -/
theorem told_is {q : Nat} (hq : q ≤ 14) {all : List Nat} (hl : all.length ≤ 128) (hall : ∀ y ∈ all, 0 < y ∧ y < 2 ^ q) :
    ∃ r : List Int × Int, Ev (fun k => fetch_quarter_fewest.l1 k (ints all) ((2 ^ q : Nat) : Int) 0 ([] : List Int) 0 false) r ∧ (r.1.length = 0 ↔ all = []) := by
  have hp : 2 ^ q ≤ 2 ^ 14 := Nat.pow_le_pow_right (by decide) hq
  have h0 := Nat.two_pow_pos q
  have go : ∀ (d s : Nat) (best : List Int) (many : Int) (found : Bool), s + d = 2 ^ q → best.length ≤ 14 → (all = [] → (s = 0 ∧ found = false) ∨ (found = true ∧ best = [])) → (all ≠ [] → (found = true → best ≠ []) ∧ (s = 2 ^ q → found = true)) →
      ∃ r : List Int × Int, Ev (fun k => fetch_quarter_fewest.l1 k (ints all) ((2 ^ q : Nat) : Int) (s : Int) best many found) r ∧ (r.1.length = 0 ↔ all = []) := by
    intro d
    induction d with
    | zero =>
      intro s best many found hs hb i1 i2
      refine ⟨(best, many), (Ev.const _).succ (fun k => ?_), ?_⟩
      · simp only [fetch_quarter_fewest.l1]
        rw [if_neg (by omega)]
      · constructor
        · intro h
          refine Classical.byContradiction (fun hn => ?_)
          have := i2 hn
          exact this.1 (this.2 (by omega)) (List.eq_nil_of_length_eq_zero h)
        · intro h
          rcases i1 h with h1 | h1
          · omega
          · show best.length = 0
            rw [h1.2]; rfl
    | succ d ih =>
      intro s best many found hs hb i1 i2
      have hsq : s < 2 ^ q := by omega
      obtain ⟨best', many', found', h1, h2, h3⟩ := tell_is hq hl hall hsq found best many hb
      obtain ⟨r, h4, h5⟩ := ih (s + 1) best' many' found' (by omega) h2 (fun e => by
        rcases h3 with h3 | h3
        · obtain ⟨⟨y, hy, _⟩, _⟩ := h3
          rw [e] at hy; simp at hy
        · obtain ⟨_, hf, hc, hk⟩ := h3
          refine .inr ⟨hf, ?_⟩
          rcases i1 e with ⟨e0, e1⟩ | ⟨e0, e1⟩
          · rcases hc with hc | hc
            · rw [hc, e0]
              have : (lst 0 q).length = 0 := by
                unfold lst; simp
              exact List.eq_nil_of_length_eq_zero this
            · rw [e1] at hc; exact absurd hc.1 (by decide)
          · exact hk e0 e1) (fun hn => by
        have hne := i2 hn
        rcases h3 with ⟨⟨y, hy, hz⟩, hbe, hfe⟩ | ⟨hno, hf, hc, hk⟩
        · refine ⟨by rw [hbe, hfe]; exact hne.1, fun e => ?_⟩
          exfalso
          have e2 : s = 2 ^ q - 1 := by omega
          rw [e2, Nat.and_two_pow_sub_one_eq_mod, Nat.mod_eq_of_lt (hall y hy).2] at hz
          have := (hall y hy).1; omega
        · refine ⟨fun _ => ?_, fun _ => hf⟩
          have hspos : 0 < s := by
            rcases Nat.eq_zero_or_pos s with e | e
            · exfalso
              obtain ⟨y, hy⟩ := List.exists_mem_of_ne_nil all hn
              exact hno ⟨y, hy, by rw [e, Nat.and_zero]⟩
            · exact e
          rcases hc with hc | ⟨hc1, hc2⟩
          · rw [hc]
            intro e
            have := lst_pos hspos hsq
            rw [e] at this; simp at this
          · rw [hc2]; exact hne.1 hc1)
      refine ⟨r, (h1.bind (f := fun k bt147 => fetch_quarter_fewest.l1 k (ints all) ((2 ^ q : Nat) : Int) (wrap64 ((s : Int) + 1)) bt147.1 bt147.2.1 bt147.2.2) (h4.eq (fun k => by rw [succ_is (by omega)]))).succ (fun k => ?_), h5⟩
      simp only [fetch_quarter_fewest.l1]
      rw [if_pos (by omega)]
  obtain ⟨r, h1, h2⟩ := go (2 ^ q) 0 [] 0 false (by omega) (by simp) (fun _ => .inl ⟨rfl, rfl⟩) (fun _ => ⟨fun h => absurd h (by decide), fun h => by omega⟩)
  exact ⟨r, h1.eq (fun k => rfl), h2⟩
/-- fetch.Mend, where the streets hang together and where they don't. -/
theorem mend_is {n : Nat} (h2 : 2 ≤ n) (h7 : n ≤ 7) {ws : List (Nat × Nat)} (hv : Fair n ws) (hl : ws.length ≤ 14) :
    ∃ best : List Int, (con ws n = 2 ^ n - 1 → (best.length = 0 ↔ All ws n)) ∧ Ev (fun k => fetch_Mend.f k (n : Int) (ws.map s39)) (if con ws n = 2 ^ n - 1 then (best, 0) else ([], 9)) := by
  have hr := fread_is h2 h7 hv hl
  by_cases c : con ws n = 2 ^ n - 1
  · obtain ⟨L, hL, hLc, hLl⟩ := cuts_is h7 hv hl
    have crs : ∀ (d j : Nat) (acc : List Nat), j + d = L.length → acc.length = j → (∀ y ∈ acc, 0 < y ∧ y < 2 ^ ws.length) →
        ∃ r : List Int × Int, Ev (fun k => fetch_quarter_fewest.l0 k (ints acc) (ints L) (L.length : Int) (j : Int) (n : Int) (ws.map s39)) r ∧ (r.1.length = 0 ↔ L = []) := by
      intro d
      induction d with
      | zero =>
        intro j acc hj ha hall
        obtain ⟨r, h1, h3⟩ := told_is hl (all := acc) (by omega) hall
        refine ⟨r, h1.succ (fun k => ?_), ?_⟩
        · simp only [fetch_quarter_fewest.l0]
          rw [if_neg (by omega), List.length_map, shl_is (by omega)]
        · rw [h3]
          constructor
          · intro e; rw [e] at ha; exact List.eq_nil_of_length_eq_zero (by simp at ha; omega)
          · intro e; rw [e] at hj; exact List.eq_nil_of_length_eq_zero (by simp at hj; omega)
      | succ d ih =>
        intro j acc hj ha hall
        have hjl : j < L.length := by omega
        have hcut := (hLc L[j]).1 (List.getElem_mem hjl)
        obtain ⟨y, h1, h3, h4⟩ := crossing_is h7 hv hl (S := L[j]) (by have := hcut.2.1; omega)
        have hy := h4 (cut_leaves hv.good (by omega) c hcut)
        obtain ⟨r, h5, h6⟩ := ih (j + 1) (acc ++ [y]) (by omega) (by simp; omega) (fun z hz => by
          rcases List.mem_append.1 hz with hz | hz
          · exact hall z hz
          · rw [List.mem_singleton.1 hz]; exact ⟨hy, h3⟩)
        refine ⟨r, (h1.bind (f := fun k t143 => (if (ints acc).length < 17592186044416 then (fetch_quarter_fewest.l0 k ((ints acc) ++ [t143]) (ints L) (L.length : Int) (wrap64 ((j : Int) + 1)) (n : Int) (ws.map s39)) else (none))) (h5.eq (fun k => ?_))).succ (fun k => ?_), h6⟩
        · rw [if_pos (by rw [ints_len]; omega), succ_is (by omega)]
          simp [ints]
        · simp only [fetch_quarter_fewest.l0]
          rw [if_pos (by omega), if_pos (by omega), if_pos (by rw [ints_len]; omega), rd_ints hjl]
    obtain ⟨r, h1, h3⟩ := crs L.length 0 [] (by omega) rfl (by simp)
    refine ⟨r.1, fun _ => ?_, ?_⟩
    · rw [h3]
      constructor
      · intro e
        refine Classical.byContradiction (fun hn => ?_)
        obtain ⟨S, hS⟩ := has_cut hv.good hn
        have := (hLc S).2 hS
        rw [e] at this; simp at this
      · intro hA
        cases hL' : L with
        | nil => rfl
        | cons S t => exact absurd ((hLc S).1 (by rw [hL']; exact List.mem_cons_self)) (no_cut hv.good hA S)
    · rw [if_pos c] at hr ⊢
      have hF : Ev (fun k => fetch_quarter_fewest.f k (n : Int) (ws.map s39)) r := by
        refine (hL.bind (f := fun k t139 => fetch_quarter_fewest.l0 k ([] : List Int) t139 (t139.length : Int) 0 (n : Int) (ws.map s39)) (h1.eq (fun k => ?_))).eq (fun k => rfl)
        rw [ints_len]; rfl
      refine (hr.bind (f := fun k bt152 => (if bt152.2.2 = 0 then ((fetch_quarter_fewest.f k bt152.1 bt152.2.1).bind fun bt158 => (some (bt158.1, 0))) else (some (([] : List Int), bt152.2.2)))) ((hF.bind (f := fun _ bt158 => some (bt158.1, (0 : Int))) (Ev.const _)).eq (fun k => ?_))).eq (fun k => rfl)
      simp only
      rw [if_pos trivial]
  · refine ⟨[], fun h => absurd h c, ?_⟩
    rw [if_neg c] at hr ⊢
    refine (hr.bind (f := fun k bt152 => (if bt152.2.2 = 0 then ((fetch_quarter_fewest.f k bt152.1 bt152.2.1).bind fun bt158 => (some (bt158.1, 0))) else (some (([] : List Int), bt152.2.2)))) ((Ev.const _).eq (fun k => ?_))).eq (fun k => rfl)
    simp only
    rw [if_neg (by decide)]
end Go.Proofs.YtlcgoacmlbeliaaDoor.Str
