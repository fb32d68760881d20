/- What branch.Count computes of ways without length is the determinant of the table of their Laplacian; what the top's trees computes is the count T of the streets kept. Conditions: at most seven corners and 14 streets, each street joins two corners. -/
import Derived.Test.YtlcgoacmlbeliaaPx9
import Derived.Test.YtlcgoacmlbeliaaLinkDet
import Derived.Test.YtlcgoacmlbeliaaStreet
namespace Go.Proofs.Ytlcgoacmlbeliaa.Det
set_option linter.unusedVariables false
set_option linter.unusedSimpArgs false
open Go.RowKit Go.Proofs.YtlcgoacmlbeliaaW.PrintWords Go.Proofs.YtlcgoacmlbeliaaW.PrintMore P
def s34 (e : Nat × Nat) : S34 := ⟨e.1, e.2, 0⟩
def s37 (e : Nat × Nat) : S37 := ⟨e.1, e.2⟩
theorem rd34 {ws : List (Nat × Nat)} {j : Nat} (h : j < ws.length) : rd_T34 (ws.map s34) j = s34 ws[j] := by
  simp [rd_T34, List.getD, h]
theorem rd34_0 {ws : List (Nat × Nat)} {j : Nat} (h : j < ws.length) : (rd_T34 (ws.map s34) j).f0 = ws[j].1 := by rw [rd34 h]; rfl
theorem rd34_1 {ws : List (Nat × Nat)} {j : Nat} (h : j < ws.length) : (rd_T34 (ws.map s34) j).f1 = ws[j].2 := by rw [rd34 h]; rfl
theorem rd34_2 {ws : List (Nat × Nat)} {j : Nat} (h : j < ws.length) : (rd_T34 (ws.map s34) j).f2 = 0 := by rw [rd34 h]; rfl
theorem rd37 {ws : List (Nat × Nat)} {j : Nat} (h : j < ws.length) : rd_T37 (ws.map s37) j = s37 ws[j] := by
  simp [rd_T37, List.getD, h]
theorem succ_is {j : Nat} (h : j < 1000) : wrap64 ((j : Int) + 1) = ((j + 1 : Nat) : Int) := by rw [wrap_id (by omega)]; omega
theorem pred_is {j : Nat} (h : 1 ≤ j ∧ j < 1000) : wrap64 ((j : Int) - 1) = ((j - 1 : Nat) : Int) := by rw [wrap_id (by omega)]; omega
theorem row_congr {n : Nat} {f g : Nat → Int} (h : ∀ c, c < n → f c = g c) : row n f = row n g :=
  List.map_congr_left (fun c hc => h c (List.mem_range.1 hc))
theorem tab_congr {m n : Nat} {M N : Nat → Nat → Int} (h : ∀ r c, r < m → c < n → M r c = N r c) : tab m n M = tab m n N :=
  List.map_congr_left (fun r hr => row_congr (fun c hc => h r c (List.mem_range.1 hr) hc))
theorem range_set {α : Type} {n p : Nat} {f : Nat → α} {v : α} : ((List.range n).map f).set p v = (List.range n).map (fun i => if i = p then v else f i) := by
  apply List.ext_getElem
  · simp
  · intro i h1 h2
    simp only [List.getElem_set, List.getElem_map, List.getElem_range]
    by_cases h : p = i
    · rw [if_pos h, if_pos h.symm]
    · rw [if_neg h, if_neg (fun e => h e.symm)]
theorem tab_set {m n p q : Nat} {M : Nat → Nat → Int} {v : Int} (hp : p < m) : (tab m n M).set p ((rd_L3 (tab m n M) p).set q v) = tab m n (fun r c => if r = p ∧ c = q then v else M r c) := by
  rw [rd_tab hp]
  unfold tab row
  rw [range_set, range_set]
  refine List.map_congr_left (fun r _ => ?_)
  by_cases h : r = p
  · subst h
    rw [if_pos rfl]
    exact List.map_congr_left (fun c _ => by simp)
  · rw [if_neg h]
    exact List.map_congr_left (fun c _ => by simp [h])
/-- A way from a to b counts in column b. -/
def wy (a b : Nat) (r c : Nat) : Int := if c + 1 = b then dl r b - dl r a else 0
def cnt (ws : List (Nat × Nat)) (r c : Nat) : Int := lsum (fun e => wy e.1 e.2 r c) ws
theorem wy_abs (a b : Nat) (r c : Nat) : -1 ≤ wy a b r c ∧ wy a b r c ≤ 1 := by unfold wy dl; (repeat' split) <;> omega
theorem cnt_abs (ws : List (Nat × Nat)) (r c : Nat) : - (ws.length : Int) ≤ cnt ws r c ∧ cnt ws r c ≤ ws.length := by
  induction ws with
  | nil => simp [cnt, lsum]
  | cons e ws ih =>
    have := wy_abs e.1 e.2 r c
    unfold cnt at ih ⊢
    simp only [lsum, List.length_cons]
    omega
theorem read_is {m : Nat} (h1 : 1 ≤ m) (h2 : m ≤ 6) {ws : List (Nat × Nat)} (hf : Fair m ws) (hl : ws.length ≤ 28) : Ev (fun k => branch_read.f k ((m + 1 : Nat) : Int) (ws.map s34)) 0 := by
  have go : ∀ d j, j + d = ws.length → Ev (fun k => branch_read.l0 k ((m + 1 : Nat) : Int) (ws.map s34) (ws.length : Int) (j : Int)) 0 := by
    intro d
    induction d with
    | zero =>
      intro j hj
      refine (Ev.const _).succ (fun k => ?_)
      simp only [branch_read.l0]
      rw [if_neg (by omega)]
    | succ d ih =>
      intro j hj
      refine (ih (j + 1) (by omega)).succ (fun k => ?_)
      simp only [branch_read.l0]
      have he := hf ws[j] (List.getElem_mem (by omega))
      rw [if_pos (by omega), if_pos (by omega), if_pos (by rw [List.length_map]; omega), rd34_0 (by omega), rd34_1 (by omega), rd34_2 (by omega)]
      rw [if_neg (by unfold mn; split <;> omega), if_neg (by unfold mx; split <;> omega), if_neg (by omega), if_neg (by omega), if_neg (by omega), succ_is (by omega)]
  have h := go ws.length 0 (by omega)
  have h : Ev (fun k => branch_read.j0 k ((m + 1 : Nat) : Int) (ws.map s34) false) 0 := h.succ (fun k => by
    simp only [branch_read.j0]
    rw [if_neg (by simp), if_neg (by rw [List.length_map]; omega), List.length_map]; rfl)
  refine h.eq (fun k => ?_)
  simp only [branch_read.f]
  rw [if_neg (by omega)]
  have : decide (((m + 1 : Nat) : Int) > 7) = false := decide_eq_false (by omega)
  rw [this]
theorem count_ways {m : Nat} (h1 : 1 ≤ m) (h2 : m ≤ 6) {ws : List (Nat × Nat)} (hf : Fair m ws) (hl : ws.length ≤ 28) :
    ∀ d j (M : Nat → Nat → Int), j + d = ws.length → (∀ r c, - (j : Int) ≤ M r c ∧ M r c ≤ j) → Ev (fun k => branch_Count.l1 k (tab m m M) (ws.map s34) (ws.length : Int) (j : Int)) (D m (fun r c => M r c + cnt (ws.drop j) r c), 0)
  | 0, j, M, hj, hM => by
    obtain rfl : j = ws.length := by omega
    have e : D m (fun r c => M r c + cnt (ws.drop ws.length) r c) = D m M := D_congr (fun r c _ _ => by rw [List.drop_length]; simp [cnt, lsum])
    rw [e]
    have hd := det_is m M h2 (fun r c _ _ => by have := hM r c; omega)
    refine (hd.bind (f := fun _ t => some (t, 0)) (Ev.const _)).succ (fun k => ?_)
    simp only [branch_Count.l1]
    rw [if_neg (by omega)]
  | d + 1, j, M, hj, hM => by
    have he := hf ws[j] (List.getElem_mem (by omega))
    have hdrop : ws.drop j = ws[j] :: ws.drop (j + 1) := List.drop_eq_getElem_cons (by omega)
    have ih := count_ways h1 h2 hf hl d (j + 1) (fun r c => M r c + wy ws[j].1 ws[j].2 r c) (by omega) (fun r c => by have := hM r c; have := wy_abs ws[j].1 ws[j].2 r c; omega)
    have e : D m (fun r c => M r c + cnt (ws.drop j) r c) = D m (fun r c => M r c + wy ws[j].1 ws[j].2 r c + cnt (ws.drop (j + 1)) r c) := D_congr (fun r c _ _ => by
      rw [hdrop]; unfold cnt; simp only [lsum]; omega)
    rw [e]
    refine ih.succ (fun k => ?_)
    simp only [branch_Count.l1]
    rw [if_pos (by omega), if_pos (by omega), if_pos (by rw [List.length_map]; omega), rd34_0 (by omega), rd34_1 (by omega), succ_is (by omega)]
    generalize ws[j].1 = a at he ⊢
    generalize ws[j].2 = b at he ⊢
    have hMb := fun r c => hM r c
    by_cases hb : b = 0
    · subst hb
      rw [if_neg (by omega)]
      congr 1
      exact tab_congr (fun r c _ _ => by unfold wy; rw [if_neg (by simp)]; omega)
    · have hp := pred_is (j := b) (by omega)
      rw [if_pos (by omega), hp, if_pos (by omega), if_pos (by rw [tab_length]; omega), if_pos (by rw [rd_tab (by omega), row_length]; omega), Option.bind_some, Int.toNat_natCast, tab_set (by omega), rd_tab (by omega), rd_row (by omega)]
      have w1 := hM (b - 1) (b - 1)
      rw [wrap_id (n := M (b - 1) (b - 1) + 1) (by omega)]
      by_cases ha : a = 0
      · subst ha
        rw [if_neg (by omega)]
        congr 1
        refine tab_congr (fun r c _ _ => ?_)
        unfold wy dl
        by_cases hc : c = b - 1
        · subst hc
          by_cases hr : r = b - 1
          · subst hr; (repeat' split) <;> omega
          · (repeat' split) <;> omega
        · (repeat' split) <;> omega
      · have hp2 := pred_is (j := a) (by omega)
        rw [if_pos (by omega), hp2, if_pos (by omega), if_pos (by rw [tab_length]; omega), if_pos (by rw [rd_tab (by omega), row_length]; omega), Int.toNat_natCast, tab_set (by omega), rd_tab (by omega), rd_row (by omega)]
        have w2 := hM (a - 1) (b - 1)
        rw [if_neg (by omega), wrap_id (n := M (a - 1) (b - 1) - 1) (by omega)]
        congr 1
        refine tab_congr (fun r c _ _ => ?_)
        unfold wy dl
        by_cases hc : c = b - 1
        · subst hc
          by_cases hr : r = b - 1
          · subst hr; (repeat' split) <;> omega
          · by_cases hra : r = a - 1
            · subst hra; (repeat' split) <;> omega
            · (repeat' split) <;> omega
        · (repeat' split) <;> omega
theorem count_is {m : Nat} (h1 : 1 ≤ m) (h2 : m ≤ 6) {ws : List (Nat × Nat)} (hf : Fair m ws) (hl : ws.length ≤ 28) : Ev (fun k => branch_Count.f k ((m + 1 : Nat) : Int) (ws.map s34)) (D m (cnt ws), 0) := by
  have hp : wrap64 (((m + 1 : Nat) : Int) - 1) = (m : Int) := pred_is (j := m + 1) (by omega)
  have go : ∀ d j, j + d = m → Ev (fun k => branch_Count.l0 k ((m + 1 : Nat) : Int) (ws.map s34) (List.replicate j (List.replicate m 0) ++ List.replicate d []) (m : Int) (j : Int)) (D m (cnt ws), 0) := by
    intro d
    induction d with
    | zero =>
      intro j hj
      obtain rfl : j = m := by omega
      have h := count_ways h1 h2 hf hl ws.length 0 (fun _ _ => 0) (by omega) (fun _ _ => by omega)
      have e : D j (fun r c => 0 + cnt (ws.drop 0) r c) = D j (cnt ws) := D_congr (fun r c _ _ => by simp)
      rw [e] at h
      refine h.succ (fun k => ?_)
      simp only [branch_Count.l0]
      rw [if_neg (by omega), List.length_map]
      congr 1
      simp [tab, row, List.map_const']
    | succ d ih =>
      intro j hj
      refine (ih (j + 1) (by omega)).succ (fun k => ?_)
      simp only [branch_Count.l0]
      rw [if_pos (by omega), hp, if_pos (by omega), if_pos (by omega), if_pos (by omega), if_pos (by simp; omega), succ_is (by omega), Int.toNat_natCast, Int.toNat_natCast]
      congr 1
      rw [List.set_append_right _ _ (by simp), List.length_replicate, Nat.sub_self, List.replicate_succ, List.set_cons_zero, List.replicate_succ', List.append_assoc]; rfl
  have h := go m 0 (by omega)
  refine ((read_is h1 h2 hf hl).bind (f := fun k t => (if t = 0 then (if 0 ≤ (wrap64 (((m + 1 : Nat) : Int) - 1)) then (if (wrap64 (((m + 1 : Nat) : Int) - 1) : Int).toNat ≤ 11728124029610 then ((some (List.replicate (wrap64 (((m + 1 : Nat) : Int) - 1) : Int).toNat [] : List (List Int))).bind fun y258 => (branch_Count.l0 k ((m + 1 : Nat) : Int) (ws.map s34) y258 (y258.length : Int) 0)) else (none)) else (none)) else (some (0, t)))) (h.eq (fun k => ?_))).eq (fun k => rfl)
  simp only [hp]
  rw [if_pos trivial, if_pos (by omega), if_pos (by omega), Option.bind_some, List.length_replicate, Int.toNat_natCast]
  simp
/-- Streets kept: all but the one whose number is s. -/
def keep (s : Int) : Nat → List (Nat × Nat) → List (Nat × Nat)
  | _, [] => []
  | j, e :: l => if (j : Int) = s then keep s (j + 1) l else e :: keep s (j + 1) l
theorem keep_out {s : Int} {l : List (Nat × Nat)} : ∀ j : Nat, s < j → keep s j l = l := by
  induction l with
  | nil => intro j _; rfl
  | cons e l ih => intro j h; simp only [keep]; rw [if_neg (by omega), ih (j + 1) (by omega)]
theorem keep_at {l : List (Nat × Nat)} {i : Nat} : ∀ j : Nat, keep ((j + i : Nat) : Int) j l = l.eraseIdx i := by
  induction l generalizing i with
  | nil => intro j; rfl
  | cons e l ih =>
    intro j
    simp only [keep]
    match i with
    | 0 => rw [if_pos (by omega), keep_out (j + 1) (by omega)]; rfl
    | i + 1 =>
      rw [if_neg (by omega), show j + (i + 1) = (j + 1) + i by omega, ih]; rfl
theorem keep_sub {s : Int} {l : List (Nat × Nat)} : ∀ j, (keep s j l).Sublist l := by
  induction l with
  | nil => intro j; exact List.Sublist.refl _
  | cons e l ih =>
    intro j; simp only [keep]; split
    · exact (ih _).cons e
    · exact (ih _).cons_cons e
def both (l : List (Nat × Nat)) : List (Nat × Nat) := l.flatMap (fun e => [e, (e.2, e.1)])
theorem both_len (l : List (Nat × Nat)) : (both l).length = 2 * l.length := by
  induction l with
  | nil => rfl
  | cons e l ih => unfold both at ih ⊢; rw [List.flatMap_cons, List.length_append, ih]; simp; omega
theorem both_fair {m : Nat} {l : List (Nat × Nat)} (h : Fair m l) : Fair m (both l) := by
  intro e he
  obtain ⟨d, hd, h1⟩ := List.mem_flatMap.1 he
  have := h d hd
  simp at h1
  rcases h1 with rfl | rfl
  · exact this
  · exact ⟨this.2.1, this.1, fun e => this.2.2 e.symm⟩
theorem lsum_append {α : Type} (f : α → Int) (a b : List α) : lsum f (a ++ b) = lsum f a + lsum f b := by
  induction a with
  | nil => simp [lsum]
  | cons x a ih => simp only [List.cons_append, lsum]; rw [ih]; omega
theorem cnt_mat {m : Nat} {l : List (Nat × Nat)} (h : Fair m l) (r c : Nat) : cnt (both l) r c = mat (nbs l) r c := by
  unfold cnt mat both nbs
  induction l with
  | nil => rfl
  | cons e l ih =>
    have he := h e (by simp)
    rw [List.flatMap_cons, List.flatMap_cons, lsum_append, lsum_append, ih (fun d hd => h d (by simp [hd]))]
    congr 1
    obtain ⟨a, b⟩ := e
    simp only at he
    unfold nb wy dl
    by_cases h1 : a = r + 1
    · have h2 : ¬ b = r + 1 := by omega
      subst h1
      simp only [if_pos trivial, if_neg h2, lsum, List.append_nil]
      (repeat' split) <;> omega
    · by_cases h2 : b = r + 1
      · subst h2
        simp only [if_pos trivial, if_neg h1, lsum, List.nil_append]
        (repeat' split) <;> omega
      · simp only [if_neg h1, if_neg h2, lsum, List.append_nil]
        (repeat' split) <;> omega
theorem trees_is {m : Nat} (h1 : 1 ≤ m) (h2 : m ≤ 6) {l : List (Nat × Nat)} (hf : Fair m l) (hl : l.length ≤ 14) (s : Int) : Ev (fun k => trishawtop_trees.f k ((m + 1 : Nat) : Int) (l.map s37) s) ((T m (nbs (keep s 0 l)) : Int), 0) := by
  have hfk : Fair m (keep s 0 l) := fun e he => hf e ((keep_sub 0).subset he)
  have hlk : (keep s 0 l).length ≤ 14 := Nat.le_trans (keep_sub 0).length_le hl
  have hc := count_is h1 h2 (both_fair hfk) (by rw [both_len]; omega)
  have e : D m (cnt (both (keep s 0 l))) = (T m (nbs (keep s 0 l)) : Int) := by
    rw [D_congr (fun r c _ _ => cnt_mat hfk r c), D_T m _ (fun v a b => hfk.le v a b)]
  rw [e] at hc
  have go : ∀ d j (acc : List (Nat × Nat)), j + d = l.length → acc ++ both (keep s j (l.drop j)) = both (keep s 0 l) → Ev (fun k => trishawtop_trees.l0 k ((m + 1 : Nat) : Int) (l.map s37) s (acc.map s34) (j : Int)) ((T m (nbs (keep s 0 l)) : Int), 0) := by
    intro d
    induction d with
    | zero =>
      intro j acc hj ha
      obtain rfl : j = l.length := by omega
      rw [List.drop_length] at ha
      have ha : acc = both (keep s 0 l) := by rw [← ha]; simp [keep, both]
      subst ha
      refine (hc.bind (f := fun _ t => some (t.1, t.2)) (Ev.const _)).succ (fun k => ?_)
      simp only [trishawtop_trees.l0]
      rw [if_neg (by rw [List.length_map]; omega)]
    | succ d ih =>
      intro j acc hj ha
      rw [List.drop_eq_getElem_cons (by omega)] at ha
      simp only [keep] at ha
      by_cases hs : (j : Int) = s
      · rw [if_pos hs] at ha
        refine (ih (j + 1) acc (by omega) ha).succ (fun k => ?_)
        simp only [trishawtop_trees.l0]
        rw [if_pos (by rw [List.length_map]; omega), if_pos hs, succ_is (by omega)]
      · rw [if_neg hs] at ha
        have ha : (acc ++ [l[j], (l[j].2, l[j].1)]) ++ both (keep s (j + 1) (l.drop (j + 1))) = both (keep s 0 l) := by
          rw [← ha, List.append_assoc]; rfl
        refine (ih (j + 1) _ (by omega) ha).succ (fun k => ?_)
        have hlen : acc.length ≤ 28 := by
          have := congrArg List.length ha
          rw [both_len (keep s 0 l)] at this
          simp only [List.length_append] at this
          omega
        simp only [trishawtop_trees.l0]
        rw [if_pos (by rw [List.length_map]; omega), if_neg hs, if_pos (by omega), Option.bind_some, if_pos (by simp; omega), succ_is (by omega), rd37 (by omega)]
        simp [s37, s34]
  exact (go l.length 0 [] (by omega) (by simp)).eq (fun k => rfl)
end Go.Proofs.Ytlcgoacmlbeliaa.Det
