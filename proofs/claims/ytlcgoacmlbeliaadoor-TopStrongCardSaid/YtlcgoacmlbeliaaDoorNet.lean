/- Sets of corners as bits: passes over arcs, what is reached, cuts in one direction. Conditions: as each says. -/
import Derived.Test.YtlcgoacmlbeliaaDoorProg
namespace Go.Proofs.YtlcgoacmlbeliaaDoor.Str
set_option linter.unusedVariables false
set_option linter.unusedSimpArgs false
/-- v is reached from u along arcs. -/
inductive Rc (ws : List (Nat × Nat)) (u : Nat) : Nat → Prop
  | refl : Rc ws u u
  | step {v x : Nat} (h : (v, x) ∈ ws) (hu : Rc ws u v) : Rc ws u x
theorem Rc.trans {ws : List (Nat × Nat)} {u v x : Nat} (h1 : Rc ws u v) (h2 : Rc ws v x) : Rc ws u x := by
  induction h2 with
  | refl => exact h1
  | step h _ ih => exact .step h ih
/-- Every corner is reached from every corner. -/
def All (ws : List (Nat × Nat)) (n : Nat) : Prop := ∀ u v, u < n → v < n → Rc ws u v
def Sub (x y : Nat) : Prop := ∀ c, x.testBit c = true → y.testBit c = true
theorem Sub.trans {x y z : Nat} (h1 : Sub x y) (h2 : Sub y z) : Sub x z := fun c h => h2 c (h1 c h)
theorem Sub.eq {x y : Nat} (h1 : Sub x y) (h2 : Sub y x) : x = y := by
  refine Nat.eq_of_testBit_eq (fun c => ?_)
  cases hx : x.testBit c with
  | true => exact (h1 c hx).symm
  | false =>
    cases hy : y.testBit c with
    | false => rfl
    | true => rw [h2 c hy] at hx; exact absurd hx (by decide)
/-- How many of the first n bits are set. -/
def card : Nat → Nat → Nat
  | 0, _ => 0
  | n + 1, x => card n x + (if x.testBit n = true then 1 else 0)
theorem card_le : ∀ n x, card n x ≤ n
  | 0, _ => Nat.le_refl _
  | n + 1, x => by have := card_le n x; unfold card; split <;> omega
theorem card_mono {x y : Nat} (h : Sub x y) : ∀ n, card n x ≤ card n y
  | 0 => Nat.le_refl _
  | n + 1 => by
    have := card_mono h n
    unfold card
    by_cases hx : x.testBit n = true
    · rw [if_pos hx, if_pos (h n hx)]; omega
    · rw [if_neg hx]; omega
theorem card_lt {x y c : Nat} (h : Sub x y) (hx : x.testBit c = false) (hy : y.testBit c = true) : ∀ n, c < n → card n x < card n y
  | 0, hc => by omega
  | n + 1, hc => by
    unfold card
    by_cases e : c = n
    · subst e
      have := card_mono h c
      rw [hx, hy, if_neg (by decide), if_pos rfl]; omega
    · have := card_lt h hx hy n (by omega)
      by_cases hxn : x.testBit n = true
      · rw [if_pos hxn, if_pos (h n hxn)]; omega
      · rw [if_neg hxn]; omega
theorem card_pos {x c : Nat} (hx : x.testBit c = true) : ∀ n, c < n → 1 ≤ card n x
  | 0, hc => by omega
  | n + 1, hc => by
    unfold card
    by_cases e : c = n
    · subst e; rw [if_pos hx]; omega
    · have := card_pos hx n (by omega); omega
/-- The steps over the arcs, one after the other; and that again and again. -/
def pass (st : Nat × Nat → Nat → Nat) (ws : List (Nat × Nat)) (x : Nat) : Nat := ws.foldl (fun x e => st e x) x
def its (st : Nat × Nat → Nat → Nat) (ws : List (Nat × Nat)) : Nat → Nat → Nat
  | 0, x => x
  | d + 1, x => its st ws d (pass st ws x)
section
variable {st : Nat × Nat → Nat → Nat} {ws : List (Nat × Nat)}
theorem pass_ind {P : Nat → Prop} : ∀ {ws : List (Nat × Nat)} (hP : ∀ e ∈ ws, ∀ x, P x → P (st e x)) {x : Nat}, P x → P (pass st ws x)
  | [], _, _, h => h
  | e :: ws, hP, x, h => by
    show P (pass st ws (st e x))
    exact pass_ind (fun e' he => hP e' (List.mem_cons_of_mem _ he)) (hP e List.mem_cons_self x h)
theorem its_ind {P : Nat → Prop} (hP : ∀ e ∈ ws, ∀ x, P x → P (st e x)) : ∀ (d : Nat) {x : Nat}, P x → P (its st ws d x)
  | 0, _, h => h
  | d + 1, x, h => by
    show P (its st ws d (pass st ws x))
    exact its_ind hP d (pass_ind hP h)
theorem pass_sub (hS : ∀ e x, Sub x (st e x)) : ∀ (ws : List (Nat × Nat)) (x : Nat), Sub x (pass st ws x)
  | [], _ => fun _ h => h
  | e :: ws, x => (hS e x).trans (pass_sub hS ws (st e x))
theorem pass_fix (hS : ∀ e x, Sub x (st e x)) : ∀ {ws : List (Nat × Nat)} {x : Nat}, pass st ws x = x → ∀ e ∈ ws, st e x = x
  | [], _, _, e, he => by simp at he
  | e0 :: ws, x, h, e, he => by
    have h : pass st ws (st e0 x) = x := h
    have h1 := pass_sub hS ws (st e0 x)
    rw [h] at h1
    have h2 : st e0 x = x := Sub.eq h1 (hS e0 x)
    rw [h2] at h
    rcases List.mem_cons.mp he with rfl | he
    · exact h2
    · exact pass_fix hS h e he
theorem its_id {x : Nat} (h : pass st ws x = x) : ∀ d, its st ws d x = x
  | 0 => rfl
  | d + 1 => by show its st ws d (pass st ws x) = x; rw [h]; exact its_id h d
theorem its_grow {n : Nat} (hS : ∀ e x, Sub x (st e x)) (hB : ∀ e ∈ ws, ∀ x, x < 2 ^ n → st e x < 2 ^ n) : ∀ (d x : Nat), x < 2 ^ n → pass st ws (its st ws d x) = its st ws d x ∨ card n x + d ≤ card n (its st ws d x)
  | 0, x, _ => .inr (Nat.le_refl _)
  | d + 1, x, hx => by
    by_cases h : pass st ws x = x
    · left; rw [its_id h]; exact h
    · have hy : pass st ws x < 2 ^ n := pass_ind (P := fun x => x < 2 ^ n) hB hx
      have hs := pass_sub hS ws x
      have hc : card n x + 1 ≤ card n (pass st ws x) := by
        obtain ⟨c, hc⟩ : ∃ c, x.testBit c ≠ (pass st ws x).testBit c := Nat.exists_testBit_ne_of_ne (Ne.symm h)
        have h1 : x.testBit c = false := by
          cases e : x.testBit c with
          | false => rfl
          | true => rw [e, hs c e] at hc; exact absurd rfl hc
        have h2 : (pass st ws x).testBit c = true := by
          cases e : (pass st ws x).testBit c with
          | true => rfl
          | false => rw [e, h1] at hc; exact absurd rfl hc
        refine card_lt hs h1 h2 n ?_
        rcases Nat.lt_or_ge c n with h3 | h3
        · exact h3
        · have := Nat.testBit_lt_two_pow (x := pass st ws x) (i := c) (Nat.lt_of_lt_of_le hy (Nat.pow_le_pow_right (by decide) h3))
          rw [h2] at this; exact absurd this (by decide)
      rcases its_grow hS hB d (pass st ws x) hy with h1 | h1
      · exact .inl h1
      · right; show card n x + (d + 1) ≤ card n (its st ws d (pass st ws x)); omega
theorem its_fix {n a x : Nat} (hS : ∀ e x, Sub x (st e x)) (hB : ∀ e ∈ ws, ∀ x, x < 2 ^ n → st e x < 2 ^ n) (hx : x < 2 ^ n) (ha : a < n) (hxa : x.testBit a = true) : ∀ e ∈ ws, st e (its st ws n x) = its st ws n x := by
  refine pass_fix hS ?_
  rcases its_grow hS hB n x hx with h | h
  · exact h
  · have := card_le n (its st ws n x)
    have := card_pos hxa n ha
    omega
end
/-- A step along an arc; a step along it either way. -/
def rst (e : Nat × Nat) (x : Nat) : Nat := if x.testBit e.1 = true then x ||| 2 ^ e.2 else x
def cst (e : Nat × Nat) (x : Nat) : Nat := if x.testBit e.1 = true ∨ x.testBit e.2 = true then x ||| (2 ^ e.1 ||| 2 ^ e.2) else x
theorem rst_bit {e : Nat × Nat} {x c : Nat} : (rst e x).testBit c = true ↔ x.testBit c = true ∨ (x.testBit e.1 = true ∧ c = e.2) := by
  unfold rst
  by_cases h : x.testBit e.1 = true
  · rw [if_pos h, Nat.testBit_or, Nat.testBit_two_pow]
    simp [h]
    constructor <;> (rintro (h1 | h1); exact .inl h1; exact .inr h1.symm)
  · rw [if_neg h]; simp [h]
theorem cst_bit {e : Nat × Nat} {x c : Nat} : (cst e x).testBit c = true ↔ x.testBit c = true ∨ ((x.testBit e.1 = true ∨ x.testBit e.2 = true) ∧ (c = e.1 ∨ c = e.2)) := by
  unfold cst
  by_cases h : x.testBit e.1 = true ∨ x.testBit e.2 = true
  · rw [if_pos h, Nat.testBit_or, Nat.testBit_or, Nat.testBit_two_pow, Nat.testBit_two_pow]
    simp only [Bool.or_eq_true, decide_eq_true_eq, h, true_and]
    constructor
    · rintro (h1 | h1 | h1)
      · exact .inl h1
      · exact .inr (.inl h1.symm)
      · exact .inr (.inr h1.symm)
    · rintro (h1 | h1 | h1)
      · exact .inl h1
      · exact .inr (.inl h1.symm)
      · exact .inr (.inr h1.symm)
  · rw [if_neg h]
    constructor
    · exact .inl
    · rintro (h1 | h1)
      · exact h1
      · exact absurd h1.1 h
theorem rst_sub (e : Nat × Nat) (x : Nat) : Sub x (rst e x) := fun c h => rst_bit.2 (.inl h)
theorem cst_sub (e : Nat × Nat) (x : Nat) : Sub x (cst e x) := fun c h => cst_bit.2 (.inl h)
theorem rst_lt {n : Nat} {e : Nat × Nat} (he : e.2 < n) {x : Nat} (hx : x < 2 ^ n) : rst e x < 2 ^ n := by
  unfold rst
  split
  · exact Nat.or_lt_two_pow hx (Nat.pow_lt_pow_right (by decide) he)
  · exact hx
theorem cst_lt {n : Nat} {e : Nat × Nat} (h1 : e.1 < n) (h2 : e.2 < n) {x : Nat} (hx : x < 2 ^ n) : cst e x < 2 ^ n := by
  unfold cst
  split
  · exact Nat.or_lt_two_pow hx (Nat.or_lt_two_pow (Nat.pow_lt_pow_right (by decide) h1) (Nat.pow_lt_pow_right (by decide) h2))
  · exact hx
/-- What is reached from a, as bits. -/
def rs (ws : List (Nat × Nat)) (n a : Nat) : Nat := its rst ws n (2 ^ a)
/-- What hangs together with corner 0. -/
def con (ws : List (Nat × Nat)) (n : Nat) : Nat := its cst ws n 1
def Good (ws : List (Nat × Nat)) (n : Nat) : Prop := ∀ e ∈ ws, e.1 < n ∧ e.2 < n
section
variable {ws : List (Nat × Nat)} {n : Nat}
theorem rs_lt (hw : Good ws n) {a : Nat} (ha : a < n) : rs ws n a < 2 ^ n :=
  its_ind (P := fun x => x < 2 ^ n) (fun e he x hx => rst_lt (hw e he).2 hx) n (Nat.pow_lt_pow_right (by decide) ha)
theorem two_bit (a c : Nat) : (2 ^ a).testBit c = true ↔ c = a := by
  rw [Nat.testBit_two_pow]; simp; exact eq_comm
theorem rs_iff (hw : Good ws n) {a : Nat} (ha : a < n) (c : Nat) : (rs ws n a).testBit c = true ↔ Rc ws a c := by
  constructor
  · refine its_ind (P := fun x => ∀ c, x.testBit c = true → Rc ws a c) (fun e he x hx c hc => ?_) n (fun c hc => ?_) c
    · rcases rst_bit.1 hc with h | ⟨h, rfl⟩
      · exact hx c h
      · exact .step (v := e.1) he (hx e.1 h)
    · rw [(two_bit a c).1 hc]; exact .refl
  · intro h
    have hfix := its_fix (st := rst) (x := 2 ^ a) (a := a) rst_sub (fun e he x hx => rst_lt (hw e he).2 hx) (Nat.pow_lt_pow_right (by decide) ha) ha ((two_bit a a).2 rfl)
    induction h with
    | refl => exact its_ind (P := fun x => x.testBit a = true) (fun e _ x hx => rst_sub e x a hx) n ((two_bit a a).2 rfl)
    | @step v x h _ ih =>
      have := hfix _ h
      show (its rst ws n (2 ^ a)).testBit x = true
      rw [← this]
      exact rst_bit.2 (.inr ⟨ih, rfl⟩)
theorem con_lt (hw : Good ws n) (hn : 0 < n) : con ws n < 2 ^ n :=
  its_ind (P := fun x => x < 2 ^ n) (fun e he x hx => cst_lt (hw e he).1 (hw e he).2 hx) n (Nat.pow_lt_pow_right (by decide) hn)
theorem con_zero : (con ws n).testBit 0 = true :=
  its_ind (P := fun x => x.testBit 0 = true) (fun e _ x hx => cst_sub e x 0 hx) n (by decide)
theorem con_shut (hw : Good ws n) (hn : 0 < n) : ∀ e ∈ ws, (con ws n).testBit e.1 = true ↔ (con ws n).testBit e.2 = true := by
  intro e he
  have hfix := its_fix (st := cst) (x := 1) (a := 0) cst_sub (fun e he x hx => cst_lt (hw e he).1 (hw e he).2 hx) (Nat.pow_lt_pow_right (by decide) hn : 2 ^ 0 < 2 ^ n) hn (by decide) e he
  have hc : cst e (con ws n) = con ws n := hfix
  constructor
  · intro h; rw [← hc]; exact cst_bit.2 (.inr ⟨.inl h, .inr rfl⟩)
  · intro h; rw [← hc]; exact cst_bit.2 (.inr ⟨.inr h, .inl rfl⟩)
theorem con_in {S : Nat → Prop} (hS : ∀ e ∈ ws, S e.1 ↔ S e.2) (h0 : S 0) : ∀ c, (con ws n).testBit c = true → S c :=
  its_ind (P := fun x => ∀ c, x.testBit c = true → S c) (fun e he x hx c hc => by
    rcases cst_bit.1 hc with h | ⟨h1, h2⟩
    · exact hx c h
    · have hb : S e.1 := h1.elim (fun h => hx _ h) (fun h => (hS e he).2 (hx _ h))
      rcases h2 with rfl | rfl
      · exact hb
      · exact (hS e he).1 hb) n (fun c hc => by
    have : c = 0 := (two_bit 0 c).1 (by simpa using hc)
    rw [this]; exact h0)
theorem full_iff {x : Nat} (hx : x < 2 ^ n) : x = 2 ^ n - 1 ↔ ∀ c, c < n → x.testBit c = true := by
  constructor
  · rintro rfl c hc; rw [Nat.testBit_two_pow_sub_one]; simpa using hc
  · intro h
    refine Nat.eq_of_testBit_eq (fun c => ?_)
    rw [Nat.testBit_two_pow_sub_one]
    by_cases hc : c < n
    · rw [h c hc]; simp [hc]
    · rw [Nat.testBit_lt_two_pow (Nat.lt_of_lt_of_le hx (Nat.pow_le_pow_right (by decide) (by omega)))]; simp [hc]
theorem bit_lt {x c : Nat} (hx : x < 2 ^ n) (h : x.testBit c = true) : c < n := by
  rcases Nat.lt_or_ge c n with h1 | h1
  · exact h1
  · rw [Nat.testBit_lt_two_pow (Nat.lt_of_lt_of_le hx (Nat.pow_le_pow_right (by decide) h1))] at h
    exact absurd h (by decide)
theorem some_bit {x : Nat} (h : 0 < x) : ∃ c, x.testBit c = true := by
  obtain ⟨c, hc⟩ := Nat.exists_testBit_ne_of_ne (x := x) (y := 0) (by omega)
  refine ⟨c, ?_⟩
  rw [Nat.zero_testBit] at hc
  simpa using hc
/-- Where every corner is reached from every one, the streets hang together. -/
theorem con_full (hw : Good ws n) (hn : 0 < n) (h : All ws n) : con ws n = 2 ^ n - 1 := by
  refine (full_iff (con_lt hw hn)).2 (fun c hc => ?_)
  have : ∀ v, Rc ws 0 v → (con ws n).testBit v = true := by
    intro v hv
    induction hv with
    | refl => exact con_zero
    | @step v x hx _ ih => exact (con_shut hw hn _ hx).1 ih
  exact this c (h 0 c hn hc)
/-- A cut: some corners, not all, that no arc enters. -/
def IsCut (ws : List (Nat × Nat)) (n S : Nat) : Prop := 0 < S ∧ S < 2 ^ n - 1 ∧ ∀ e ∈ ws, ¬ (S.testBit e.1 = false ∧ S.testBit e.2 = true)
theorem not_full {S : Nat} (h : S < 2 ^ n - 1) : ∃ d, d < n ∧ S.testBit d = false := by
  refine Classical.byContradiction (fun hn => ?_)
  have := (full_iff (x := S) (n := n) (by omega)).2 (fun c hc => by
    cases e : S.testBit c with
    | true => rfl
    | false => exact absurd ⟨c, hc, e⟩ hn)
  omega
theorem no_cut (hw : Good ws n) (h : All ws n) (S : Nat) : ¬ IsCut ws n S := by
  rintro ⟨h0, h1, h2⟩
  obtain ⟨c, hc⟩ := some_bit h0
  obtain ⟨d, hd, hdS⟩ := not_full h1
  have hcn : c < n := bit_lt (x := S) (by omega) hc
  have : ∀ v, Rc ws d v → S.testBit v = false := by
    intro v hv
    induction hv with
    | refl => exact hdS
    | @step v x hx _ ih =>
      cases e : S.testBit x with
      | false => rfl
      | true => exact absurd ⟨ih, e⟩ (h2 _ hx)
  rw [this c (h d c hd hcn)] at hc
  exact absurd hc (by decide)
theorem has_cut (hw : Good ws n) (h : ¬ All ws n) : ∃ S, IsCut ws n S := by
  obtain ⟨u, v, hu, hv, huv⟩ : ∃ u v, u < n ∧ v < n ∧ ¬ Rc ws u v := by
    refine Classical.byContradiction (fun hn => h (fun u v hu hv => Classical.byContradiction (fun hr => hn ⟨u, v, hu, hv, hr⟩)))
  have hlt := rs_lt hw hu
  have hpow : 2 ^ n - 1 < 2 ^ n := by have := Nat.two_pow_pos n; omega
  have hS : (2 ^ n - 1) ^^^ rs ws n u < 2 ^ n := Nat.xor_lt_two_pow hpow hlt
  have hb : ∀ c, c < n → (((2 ^ n - 1) ^^^ rs ws n u).testBit c = true ↔ ¬ Rc ws u c) := by
    intro c hc
    rw [Nat.testBit_xor, Nat.testBit_two_pow_sub_one, ← rs_iff hw hu c]
    simp [hc]
  refine ⟨(2 ^ n - 1) ^^^ rs ws n u, ?_, ?_, fun e he hh => ?_⟩
  · have := (hb v hv).2 huv
    rcases Nat.eq_zero_or_pos ((2 ^ n - 1) ^^^ rs ws n u) with h0 | h0
    · rw [h0, Nat.zero_testBit] at this; exact absurd this (by decide)
    · exact h0
  · have h1 : ¬ ((2 ^ n - 1) ^^^ rs ws n u).testBit u = true := fun h2 => (hb u hu).1 h2 .refl
    have h2 : (2 ^ n - 1) ^^^ rs ws n u ≠ 2 ^ n - 1 := fun h3 => h1 ((full_iff hS).1 h3 u hu)
    omega
  · have he1 := (hw e he).1; have he2 := (hw e he).2
    have h1 : Rc ws u e.1 := by
      refine Classical.byContradiction (fun hn => ?_)
      rw [(hb _ he1).2 hn] at hh
      exact absurd hh.1 (by decide)
    exact (hb _ he2).1 hh.2 (.step (v := e.1) (x := e.2) he h1)
/-- Where the streets hang together, some arc leaves a cut. -/
theorem cut_leaves (hw : Good ws n) (hn : 0 < n) (hc : con ws n = 2 ^ n - 1) {S : Nat} (h : IsCut ws n S) : ∃ e ∈ ws, S.testBit e.1 = true ∧ S.testBit e.2 = false := by
  refine Classical.byContradiction (fun hno => ?_)
  have same : ∀ e ∈ ws, S.testBit e.1 = S.testBit e.2 := by
    intro e he
    cases h1 : S.testBit e.1 with
    | true =>
      cases h2 : S.testBit e.2 with
      | true => rfl
      | false => exact absurd ⟨e, he, h1, h2⟩ hno
    | false =>
      cases h2 : S.testBit e.2 with
      | false => rfl
      | true => exact absurd ⟨h1, h2⟩ (h.2.2 e he)
  have hall := con_in (ws := ws) (n := n) (S := fun c => S.testBit c = S.testBit 0) (fun e he => by rw [same e he]) rfl
  have hf : ∀ c, c < n → S.testBit c = S.testBit 0 := fun c hc' => hall c ((full_iff (con_lt hw hn)).1 hc c hc')
  obtain ⟨c, hcS⟩ := some_bit h.1
  obtain ⟨d, hd, hdS⟩ := not_full h.2.1
  have hcn : c < n := bit_lt (x := S) (by have := h.2.1; omega) hcS
  rw [hf c hcn] at hcS
  rw [hf d hd, hcS] at hdS
  exact absurd hdS (by decide)
end
end Go.Proofs.YtlcgoacmlbeliaaDoor.Str
