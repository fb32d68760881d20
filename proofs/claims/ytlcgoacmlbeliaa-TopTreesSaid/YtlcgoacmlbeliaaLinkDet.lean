/- What branch.determinant computes is the determinant along the first row, for tables of at most 6 rows with entries of at most 28; with a word for 'from some bound on'. Conditions: as the theorem says. -/
import Derived.Test.YtlcgoacmlbeliaaPx7
import Derived.Test.YtlcgoacmlbeliaaDet
namespace Go.Proofs.Ytlcgoacmlbeliaa.Det
set_option linter.unusedVariables false
set_option linter.unusedSimpArgs false
open Go.RowKit Go.Proofs.YtlcgoacmlbeliaaW.PrintWords Go.Proofs.YtlcgoacmlbeliaaW.PrintMore P
theorem wrap_id {n : Int} (h : -9223372036854775808 ≤ n ∧ n < 9223372036854775808) : wrap64 n = n := by unfold wrap64; omega
/-- From some bound on, g hands out r. -/
def Ev {α : Type} (g : Nat → Option α) (r : α) : Prop := ∃ K, ∀ k, K ≤ k → g k = some r
theorem Ev.const {α : Type} (r : α) : Ev (fun _ => some r) r := ⟨0, fun _ _ => rfl⟩
theorem Ev.eq {α : Type} {g h : Nat → Option α} {r : α} (he : Ev h r) (e : ∀ k, g k = h k) : Ev g r := by
  obtain ⟨K, hK⟩ := he; exact ⟨K, fun k hk => by rw [e, hK k hk]⟩
theorem Ev.succ {α : Type} {g h : Nat → Option α} {r : α} (he : Ev h r) (e : ∀ k, g (k + 1) = h k) : Ev g r := by
  obtain ⟨K, hK⟩ := he
  refine ⟨K + 1, fun k hk => ?_⟩
  match k, hk with
  | k + 1, hk => rw [e, hK k (by omega)]
theorem Ev.bind {α β : Type} {g : Nat → Option α} {f : Nat → α → Option β} {a : α} {r : β} (h1 : Ev g a) (h2 : Ev (fun k => f k a) r) : Ev (fun k => (g k).bind (f k)) r := by
  obtain ⟨K1, h1⟩ := h1; obtain ⟨K2, h2⟩ := h2
  exact ⟨max K1 K2, fun k hk => by show (g k).bind (f k) = some r; rw [h1 k (by omega)]; exact h2 k (by omega)⟩
def row (n : Nat) (f : Nat → Int) : List Int := (List.range n).map f
def tab (m n : Nat) (M : Nat → Nat → Int) : List (List Int) := (List.range m).map (fun r => row n (M r))
theorem row_length (n : Nat) (f : Nat → Int) : (row n f).length = n := by simp [row]
theorem tab_length (m n : Nat) (M : Nat → Nat → Int) : (tab m n M).length = m := by simp [tab]
theorem rd_row {n j : Nat} {f : Nat → Int} (h : j < n) : rd (row n f) j = f j := by
  simp [rd, row, List.getD, h]
theorem rd_tab {m n j : Nat} {M : Nat → Nat → Int} (h : j < m) : rd_L3 (tab m n M) j = row n (M j) := by
  simp [rd_L3, tab, List.getD, h]
theorem tab_drop (m n : Nat) (M : Nat → Nat → Int) : (tab (m + 1) n M).drop 1 = tab m n (fun r => M (r + 1)) := by
  simp [tab, List.range_succ_eq_map, Function.comp_def]
theorem row_skip {n j : Nat} (hj : j < n + 1) (f : Nat → Int) : (row (n + 1) f).take j ++ (row (n + 1) f).drop (j + 1) = row n (fun c => f (skip j c)) := by
  apply List.ext_getElem
  · simp [row]; omega
  · intro i h1 h2
    simp only [row, List.length_map, List.length_range] at h2
    rw [List.getElem_append]
    split
    · next h =>
      simp only [row, List.length_take, List.length_map, List.length_range] at h
      simp [row, skip]
      rw [if_pos (by omega)]
    · next h =>
      simp only [row, List.length_take, List.length_map, List.length_range] at h
      simp [row, skip]
      rw [if_neg (by omega)]
      congr 1; omega
def Bd : Nat → Nat
  | 0 => 1
  | n + 1 => (n + 1) * (28 * Bd n)
theorem sg_abs (j : Nat) : (sg j).natAbs = 1 := by unfold sg; split <;> rfl
theorem sumTo_bound {n : Nat} {f : Nat → Int} {B : Nat} (h : ∀ j, j < n → (f j).natAbs ≤ B) : (sumTo n f).natAbs ≤ n * B := by
  induction n with
  | zero => simp [sumTo]
  | succ n ih =>
    simp only [sumTo]
    have h1 := ih (fun j hj => h j (by omega))
    have h2 := h n (by omega)
    have := Int.natAbs_add_le (sumTo n f) (f n)
    rw [Nat.add_mul]; omega
theorem D_bound : ∀ {n : Nat} {M : Nat → Nat → Int}, (∀ r c, r < n → c < n → (M r c).natAbs ≤ 28) → (D n M).natAbs ≤ Bd n
  | 0, _, _ => by simp [D, Bd]
  | n + 1, M, h => by
    refine sumTo_bound (fun j hj => ?_)
    rw [Int.natAbs_mul, Int.natAbs_mul, sg_abs, Nat.one_mul]
    exact Nat.mul_le_mul (h 0 j (by omega) hj) (D_bound (fun r c hr hc => h _ _ (by omega) (skip_lt hc)))
theorem Bd_le {n : Nat} (h : n ≤ 5) : Bd n ≤ 2065244160 := by
  match n, h with
  | 0, _ | 1, _ | 2, _ | 3, _ | 4, _ | 5, _ => simp [Bd]
theorem det_rows (n : Nat) (M : Nat → Nat → Int) (j : Nat) (hj : j < n + 1) (x0 : List (List Int)) (x3 x4 x6 : Int) (x15 : List Int) (x16 x17 r : Int) (hn : n ≤ 5)
    (he : Ev (fun k => (branch_determinant.f k (tab n n (minor M j))).bind fun t255 => (branch_determinant.l0 k x0 (wrap64 (x3 + (wrap64 ((wrap64 (x4 * x6)) * t255)))) (wrap64 (-x4)) x15 x16 (wrap64 (x17 + 1)))) r) :
    ∀ d i, i + d = n → Ev (fun k => branch_determinant.l1 k x0 x3 x4 j x6 (tab i n (minor M j)) x15 x16 x17 (tab n (n + 1) (fun r => M (r + 1))) n i) r
  | 0, i, hi => by
    obtain rfl : i = n := by omega
    refine he.succ (fun k => ?_)
    simp only [branch_determinant.l1]
    rw [if_neg (by omega)]
  | d + 1, i, hi => by
    refine (det_rows n M j hj x0 x3 x4 x6 x15 x16 x17 r hn he d (i + 1) (by omega)).succ (fun k => ?_)
    simp only [branch_determinant.l1]
    have e1 : wrap64 ((i : Int) + 1) = ((i + 1 : Nat) : Int) := by rw [wrap_id (by omega)]; omega
    have e2 : wrap64 ((j : Int) + 1) = ((j + 1 : Nat) : Int) := by rw [wrap_id (by omega)]; omega
    rw [if_pos (by omega), if_pos (by omega), if_pos (by rw [tab_length]; omega), if_pos (by omega), rd_tab (by omega), if_pos (by rw [row_length]; omega)]
    have c1 : ∀ l : List Int, l.length < 17592186044416 → slices_Clone_int_int.f l = some l := fun l h => by unfold slices_Clone_int_int.f; rw [if_pos h]
    rw [c1 _ (by rw [List.length_take, row_length]; omega), Option.bind_some, e2, if_pos (by omega), if_pos (by rw [row_length]; omega), Int.toNat_natCast, Int.toNat_natCast, if_pos (by rw [List.length_take, List.length_drop, row_length]; omega), if_pos (by rw [tab_length]; omega), row_skip hj, e1]
    have : tab i n (minor M j) ++ [row n (fun c => M (i + 1) (skip j c))] = tab (i + 1) n (minor M j) := by
      simp [tab, List.range_succ]; rfl
    rw [this]
theorem det_is : ∀ (n : Nat) (M : Nat → Nat → Int), n ≤ 6 → (∀ r c, r < n → c < n → (M r c).natAbs ≤ 28) → Ev (fun k => branch_determinant.f k (tab n n M)) (D n M)
  | 0, M, _, _ => (Ev.const 1).succ (fun k => by simp [branch_determinant.f, tab])
  | n + 1, M, hn, hM => by
    have hB := Bd_le (n := n) (by omega)
    have hm : ∀ j, j < n + 1 → ∀ r c, r < n → c < n → (minor M j r c).natAbs ≤ 28 := fun j _ r c hr hc => hM _ _ (by omega) (skip_lt hc)
    have hterm : ∀ j, j < n + 1 → (sg j * M 0 j * D n (minor M j)).natAbs ≤ 28 * Bd n := fun j hj => by
      rw [Int.natAbs_mul, Int.natAbs_mul, sg_abs, Nat.one_mul]
      exact Nat.mul_le_mul (hM 0 j (by omega) hj) (D_bound (hm j hj))
    have go : ∀ d j, j + d = n + 1 → Ev (fun k => branch_determinant.l0 k (tab (n + 1) (n + 1) M) (sumTo j (fun j => sg j * M 0 j * D n (minor M j))) (sg j) (row (n + 1) (M 0)) ((n + 1 : Nat) : Int) j) (D (n + 1) M) := by
      intro d
      induction d with
      | zero =>
        intro j hj
        obtain rfl : j = n + 1 := by omega
        refine (Ev.const _).succ (fun k => ?_)
        simp only [branch_determinant.l0]
        rw [if_neg (by omega)]; rfl
      | succ d ih =>
        intro j hj
        have ih := ih (j + 1) (by omega)
        have e1 : wrap64 ((j : Int) + 1) = ((j + 1 : Nat) : Int) := by rw [wrap_id (by omega)]; omega
        have e2 : wrap64 (- sg j) = sg (j + 1) := by rw [sg_succ, wrap_id (by unfold sg; split <;> omega)]
        have hs := sumTo_bound (n := j) (f := fun j => sg j * M 0 j * D n (minor M j)) (B := 28 * Bd n) (fun i hi => hterm i (by omega))
        have hs' : j * (28 * Bd n) ≤ 6 * (28 * Bd n) := Nat.mul_le_mul_right _ (by omega)
        have ht := hterm j (by omega)
        have hMj := hM 0 j (by omega) (by omega)
        by_cases h0 : M 0 j = 0
        · refine ih.succ (fun k => ?_)
          simp only [branch_determinant.l0]
          rw [if_pos (by omega), if_pos (by omega), if_pos (by rw [row_length]; omega), rd_row (by omega), if_pos h0, e1, e2]
          have : sumTo (j + 1) (fun j => sg j * M 0 j * D n (minor M j)) = sumTo j (fun j => sg j * M 0 j * D n (minor M j)) := by
            simp only [sumTo]; rw [h0, Int.mul_zero, Int.zero_mul, Int.add_zero]
          rw [this]
        · have hx : wrap64 (sumTo j (fun j => sg j * M 0 j * D n (minor M j)) + wrap64 (wrap64 (sg j * M 0 j) * D n (minor M j))) = sumTo (j + 1) (fun j => sg j * M 0 j * D n (minor M j)) := by
            have w1 : wrap64 (sg j * M 0 j) = sg j * M 0 j := wrap_id (by
              have : (sg j * M 0 j).natAbs ≤ 28 := by rw [Int.natAbs_mul, sg_abs, Nat.one_mul]; exact hMj
              omega)
            rw [w1, wrap_id (n := sg j * M 0 j * D n (minor M j)) (by omega), wrap_id (by omega)]
            rfl
          have he := det_rows n M j (by omega) (tab (n + 1) (n + 1) M) (sumTo j (fun j => sg j * M 0 j * D n (minor M j))) (sg j) (M 0 j) (row (n + 1) (M 0)) ((n + 1 : Nat) : Int) j (D (n + 1) M) (by omega) ((det_is n (minor M j) (by omega) (hm j (by omega))).bind (by
            rw [hx, e1, e2]; exact ih)) n 0 (by omega)
          refine he.succ (fun k => ?_)
          simp only [branch_determinant.l0]
          rw [if_pos (by omega), if_pos (by omega), if_pos (by rw [row_length]; omega), rd_row (by omega), if_neg h0, if_pos (by rw [tab_length]; omega), Option.bind_some, tab_drop, tab_length]
          rfl
    refine (go (n + 1) 0 (by omega)).succ (fun k => ?_)
    simp only [branch_determinant.f]
    rw [if_neg (by rw [tab_length]; omega), if_pos (by rw [tab_length]; omega)]
    have e : rd_L3 (tab (n + 1) (n + 1) M) 0 = row (n + 1) (M 0) := rd_tab (j := 0) (by omega)
    rw [e, row_length]
    rfl
end Go.Proofs.Ytlcgoacmlbeliaa.Det
