/- What fetch.read, reach, parts and Strong compute. Conditions: two to seven corners, at most 14 arcs, each arc joins two corners. -/
import Derived.Test.YtlcgoacmlbeliaaDoorBts
namespace Go.Proofs.YtlcgoacmlbeliaaDoor.Str
set_option linter.unusedVariables false
set_option linter.unusedSimpArgs false
open Go.RowKit Go.Proofs.YtlcgoacmlbeliaaDoorW.PrintWords Go.Proofs.YtlcgoacmlbeliaaDoorW.PrintLast Go.Proofs.YtlcgoacmlbeliaaDoorW.PrintMore P
def Fair (n : Nat) (ws : List (Nat × Nat)) : Prop := ∀ e ∈ ws, e.1 < n ∧ e.2 < n ∧ e.1 ≠ e.2
theorem Fair.good {n : Nat} {ws : List (Nat × Nat)} (h : Fair n ws) : Good ws n := fun e he => ⟨(h e he).1, (h e he).2.1⟩
theorem pow7 {n : Nat} (h : n ≤ 7) : 1 ≤ 2 ^ n ∧ 2 ^ n ≤ 128 := ⟨Nat.two_pow_pos n, show 2 ^ n ≤ 2 ^ 7 from Nat.pow_le_pow_right (by decide) h⟩
theorem every_is {n : Nat} (h : n ≤ 7) (ws : List S39) : fetch_quarter_everybody.f (n : Int) ws = some ((2 ^ n - 1 : Nat) : Int) := by
  have hp := pow7 h
  simp only [fetch_quarter_everybody.f]
  rw [if_pos (by omega), shl_is (by omega), wrap_id (by omega)]
  congr 1; omega
theorem fread_is {n : Nat} (h2 : 2 ≤ n) (h7 : n ≤ 7) {ws : List (Nat × Nat)} (hv : Fair n ws) (hl : ws.length ≤ 14) :
    Ev (fun k => fetch_read.f k (n : Int) (ws.map s39)) (if con ws n = 2 ^ n - 1 then ((n : Int), ws.map s39, 0) else (0, [], 9)) := by
  have hp := pow7 h7
  have hlt62 : ∀ {x : Nat}, x < 2 ^ n → x < 2 ^ 62 := fun h => lt62 h (by omega)
  have rounds : ∀ (d i x : Nat), i + d = n → x < 2 ^ n → Ev (fun k => fetch_read.l1 k (ws.map s39) (x : Int) (n : Int) (i : Int) (n : Int) (ws.map s39)) (if its cst ws d x = 2 ^ n - 1 then ((n : Int), ws.map s39, 0) else (0, [], 9)) := by
    intro d
    induction d with
    | zero =>
      intro i x hi hx
      refine (Ev.const _).succ (fun k => ?_)
      simp only [fetch_read.l1]
      rw [if_neg (by omega), every_is h7, Option.bind_some]
      by_cases e : x = 2 ^ n - 1
      · rw [if_pos (by rw [e]), its, if_pos e]
      · rw [if_neg (by omega), its, if_neg e]
    | succ d ih =>
      intro i x hi hx
      have ways : ∀ (d' j x : Nat), j + d' = ws.length → x < 2 ^ n → Ev (fun k => fetch_read.l2 k (ws.map s39) (x : Int) (n : Int) (i : Int) (ws.map s39) (ws.length : Int) (j : Int) (n : Int) (ws.map s39)) (if its cst ws d ((ws.drop j).foldl (fun x e => cst e x) x) = 2 ^ n - 1 then ((n : Int), ws.map s39, 0) else (0, [], 9)) := by
        intro d'
        induction d' with
        | zero =>
          intro j x hj hx
          obtain rfl : j = ws.length := by omega
          rw [List.drop_length, List.foldl_nil]
          refine (ih (i + 1) x (by omega) hx).succ (fun k => ?_)
          simp only [fetch_read.l2]
          rw [if_neg (by omega), succ_is (by omega)]
        | succ d' ihw =>
          intro j x hj hx
          have hjl : j < ws.length := by omega
          have he := hv ws[j] (List.getElem_mem hjl)
          rw [List.drop_eq_getElem_cons hjl, List.foldl_cons]
          refine (ihw (j + 1) (cst ws[j] x) (by omega) (cst_lt he.1 he.2.1 hx)).succ (fun k => ?_)
          simp only [fetch_read.l2]
          rw [if_pos (by omega), if_pos (by omega), if_pos (by rw [List.length_map]; omega), rd39_0 hjl, rd39_1 hjl, if_pos (by omega), succ_is (by omega)]
          have hor : Go.bits .or .i64 (x : Int) (Go.bits .or .i64 (shl .i64 1 (ws[j].1 : Int)) (shl .i64 1 (ws[j].2 : Int))) = ((x ||| (2 ^ ws[j].1 ||| 2 ^ ws[j].2) : Nat) : Int) := by
            have a1 : 2 ^ ws[j].1 < 2 ^ 62 := Nat.pow_lt_pow_right (by decide) (by omega)
            have a2 : 2 ^ ws[j].2 < 2 ^ 62 := Nat.pow_lt_pow_right (by decide) (by omega)
            rw [shl_is (by omega), shl_is (by omega), or_is a1 a2, or_is (hlt62 hx) (Nat.or_lt_two_pow a1 a2)]
          by_cases c1 : x.testBit ws[j].1 = true
          · rw [if_pos ((bit1 (hlt62 hx)).2 c1), if_pos (by omega), hor]
            unfold cst
            rw [if_pos (.inl c1)]
          · rw [if_neg (fun h => c1 ((bit1 (hlt62 hx)).1 h)), if_pos (by omega)]
            by_cases c2 : x.testBit ws[j].2 = true
            · rw [if_pos ((bit1 (hlt62 hx)).2 c2), hor]
              unfold cst
              rw [if_pos (.inr c2)]
            · rw [if_neg (fun h => c2 ((bit1 (hlt62 hx)).1 h))]
              unfold cst
              rw [if_neg (fun h => h.elim c1 c2)]
      refine (ways ws.length 0 x (by omega) hx).succ (fun k => ?_)
      simp only [fetch_read.l1]
      rw [if_pos (by omega), List.length_map]; rfl
  have look : ∀ (d j : Nat), j + d = ws.length → Ev (fun k => fetch_read.l0 k (n : Int) (ws.map s39) (ws.map s39) (ws.length : Int) (j : Int) (n : Int) (ws.map s39)) (if con ws n = 2 ^ n - 1 then ((n : Int), ws.map s39, 0) else (0, [], 9)) := by
    intro d
    induction d with
    | zero =>
      intro j hj
      refine (rounds n 0 1 (by omega) (Nat.one_lt_two_pow (by omega))).succ (fun k => ?_)
      simp only [fetch_read.l0]
      rw [if_neg (by omega)]; rfl
    | succ d ih =>
      intro j hj
      have hjl : j < ws.length := by omega
      have he := hv ws[j] (List.getElem_mem hjl)
      refine (ih (j + 1) (by omega)).succ (fun k => ?_)
      simp only [fetch_read.l0]
      rw [if_pos (by omega), if_pos (by omega), if_pos (by rw [List.length_map]; omega), rd39_0 hjl, rd39_1 hjl, if_neg (by unfold mn; split <;> omega), if_neg (by unfold mx; split <;> omega), if_neg (by omega), succ_is (by omega)]
  have h0 : Ev (fun k => fetch_read.j0 k (n : Int) (ws.map s39) false) (if con ws n = 2 ^ n - 1 then ((n : Int), ws.map s39, 0) else (0, [], 9)) := by
    refine (look ws.length 0 (by omega)).succ (fun k => ?_)
    simp only [fetch_read.j0]
    rw [if_neg (by simp), if_neg (by rw [List.length_map]; omega), List.length_map]; rfl
  refine h0.eq (fun k => ?_)
  simp only [fetch_read.f]
  rw [if_neg (by omega), decide_eq_false (by omega)]
theorem reach_is {n : Nat} (h7 : n ≤ 7) {ws : List (Nat × Nat)} (hv : Fair n ws) (hl : ws.length ≤ 14) {a : Nat} (ha : a < n) :
    Ev (fun k => fetch_quarter_reach.f k (n : Int) (ws.map s39) (a : Int)) ((rs ws n a : Nat) : Int) := by
  have hlt62 : ∀ {x : Nat}, x < 2 ^ n → x < 2 ^ 62 := fun h => lt62 h (by omega)
  have rounds : ∀ (d i x : Nat), i + d = n → x < 2 ^ n → Ev (fun k => fetch_quarter_reach.l0 k (x : Int) (n : Int) (i : Int) (n : Int) (ws.map s39)) ((its rst ws d x : Nat) : Int) := by
    intro d
    induction d with
    | zero =>
      intro i x hi hx
      refine (Ev.const _).succ (fun k => ?_)
      simp only [fetch_quarter_reach.l0]
      rw [if_neg (by omega)]; rfl
    | succ d ih =>
      intro i x hi hx
      have ways : ∀ (d' j x : Nat), j + d' = ws.length → x < 2 ^ n → Ev (fun k => fetch_quarter_reach.l1 k (x : Int) (n : Int) (i : Int) (ws.map s39) (ws.length : Int) (j : Int) (n : Int) (ws.map s39)) ((its rst ws d ((ws.drop j).foldl (fun x e => rst e x) x) : Nat) : Int) := by
        intro d'
        induction d' with
        | zero =>
          intro j x hj hx
          obtain rfl : j = ws.length := by omega
          rw [List.drop_length, List.foldl_nil]
          refine (ih (i + 1) x (by omega) hx).succ (fun k => ?_)
          simp only [fetch_quarter_reach.l1]
          rw [if_neg (by omega), succ_is (by omega)]
        | succ d' ihw =>
          intro j x hj hx
          have hjl : j < ws.length := by omega
          have he := hv ws[j] (List.getElem_mem hjl)
          rw [List.drop_eq_getElem_cons hjl, List.foldl_cons]
          refine (ihw (j + 1) (rst ws[j] x) (by omega) (rst_lt he.2.1 hx)).succ (fun k => ?_)
          simp only [fetch_quarter_reach.l1]
          rw [if_pos (by omega), if_pos (by omega), if_pos (by rw [List.length_map]; omega), rd39_0 hjl, rd39_1 hjl, if_pos (by omega), succ_is (by omega)]
          by_cases c1 : x.testBit ws[j].1 = true
          · rw [if_pos ((bit1 (hlt62 hx)).2 c1), if_pos (by omega), shl_is (by omega), or_is (hlt62 hx) (Nat.pow_lt_pow_right (by decide) (by omega))]
            unfold rst
            rw [if_pos c1]
          · rw [if_neg (fun h => c1 ((bit1 (hlt62 hx)).1 h))]
            unfold rst
            rw [if_neg c1]
      refine (ways ws.length 0 x (by omega) hx).succ (fun k => ?_)
      simp only [fetch_quarter_reach.l0]
      rw [if_pos (by omega), List.length_map]; rfl
  refine (rounds n 0 (2 ^ a) (by omega) (Nat.pow_lt_pow_right (by decide) ha)).eq (fun k => ?_)
  simp only [fetch_quarter_reach.f]
  rw [if_pos (by omega), shl_is (by omega)]; rfl
/-- A set as a list. -/
def lst (x n : Nat) : List Int := ((List.range n).filter (fun c => x.testBit c)).map (fun c : Nat => (c : Int))
theorem lst_succ (x n : Nat) : lst x (n + 1) = lst x n ++ (if x.testBit n = true then [(n : Int)] else []) := by
  unfold lst
  rw [List.range_succ, List.filter_append, List.map_append]
  congr 1
  by_cases h : x.testBit n = true
  · rw [if_pos h]; simp [h]
  · rw [if_neg h]; simp [h]
theorem lst_len (x n : Nat) : (lst x n).length ≤ n := by
  unfold lst
  rw [List.length_map]
  refine Nat.le_trans (List.length_filter_le _ _) ?_
  rw [List.length_range]; exact Nat.le_refl _
theorem lst_pos {x n : Nat} (h : 0 < x) (hx : x < 2 ^ n) : 0 < (lst x n).length := by
  obtain ⟨c, hc⟩ := some_bit h
  refine List.length_pos_of_mem (a := (c : Int)) ?_
  unfold lst
  exact List.mem_map.2 ⟨c, List.mem_filter.2 ⟨List.mem_range.2 (bit_lt hx hc), by simpa using hc⟩, rfl⟩
theorem lst_more {x n : Nat} (hx : x < 2 ^ n) : ∀ d, lst x (n + d) = lst x n
  | 0 => rfl
  | d + 1 => by
    rw [show n + (d + 1) = (n + d) + 1 from rfl, lst_succ, lst_more hx d, Nat.testBit_lt_two_pow (Nat.lt_of_lt_of_le hx (Nat.pow_le_pow_right (by decide) (by omega))), if_neg (by decide), List.append_nil]
theorem list_is {n : Nat} (hn : n ≤ 14) {x : Nat} (hx : x < 2 ^ n) : Ev (fun k => fetch_list.f k (x : Int)) (lst x n) := by
  have h62 : x < 2 ^ 62 := lt62 hx (by omega)
  have go : ∀ (d i : Nat), i + d = n → Ev (fun k => fetch_list.l0 k (x : Int) (lst x i) (i : Int)) (lst x n) := by
    intro d
    induction d with
    | zero =>
      intro i hi
      obtain rfl : i = n := by omega
      refine (Ev.const _).succ (fun k => ?_)
      simp only [fetch_list.l0]
      have h0 : x >>> i = 0 := by rw [Nat.shiftRight_eq_div_pow]; exact Nat.div_eq_of_lt hx
      rw [if_pos (by omega), shr_is h62, h0, if_neg (by simp)]
    | succ d ih =>
      intro i hi
      by_cases h0 : x >>> i = 0
      · have hlt : x < 2 ^ i := by
          rw [Nat.shiftRight_eq_div_pow] at h0
          rcases Nat.lt_or_ge x (2 ^ i) with h | h
          · exact h
          · have := Nat.div_pos h (Nat.two_pow_pos i); omega
        refine (Ev.const _).succ (fun k => ?_)
        simp only [fetch_list.l0]
        rw [if_pos (by omega), shr_is h62, h0, if_neg (by simp), ← hi, lst_more hlt]
      · refine (ih (i + 1) (by omega)).succ (fun k => ?_)
        simp only [fetch_list.l0]
        have hb := bit1 (x := x) (c := i) h62
        have hpos : (((x >>> i : Nat) : Int)) > 0 := Int.natCast_pos.2 (Nat.pos_of_ne_zero h0)
        rw [lst_succ]
        rw [if_pos (by omega), if_pos (by rw [shr_is h62]; exact hpos), succ_is (by omega)]
        have hlen := lst_len x i
        by_cases c1 : x.testBit i = true
        · rw [if_pos (hb.2 c1), if_pos c1, if_pos (by omega)]
        · rw [if_neg (fun h => c1 (hb.1 h)), if_neg c1, List.append_nil]
  exact (go n 0 (by omega)).eq (fun k => rfl)
end Go.Proofs.YtlcgoacmlbeliaaDoor.Str
