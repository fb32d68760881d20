/- The document's whole numbers of any size: what its functions compute. Conditions: digits, lists of at most 100 of them. -/
import Derived.Test.YtgobffgogmnmpaaDoorPx35
import Derived.Test.YtgobffgogmnmpaaDoorPx36
import Derived.Test.YtgobffgogmnmpaaDoorPx38
import Derived.Test.YtgobffgogmnmpaaDoorBase
namespace Go.Proofs.YtgobffgogmnmpaaDoor.Pure
open Go.RowKit Go.Proofs.YtgobffgogmnmpaaDoor.P Go.Proofs.YtgobffgogmnmpaaDoorW.PrintWords Go.Proofs.YtgobffgogmnmpaaDoorW.PrintLast Go.Proofs.YtgobffgogmnmpaaDoorW.PrintMore

/-- The value of digits, the lowest first. -/
def vl : List Int → Int
  | [] => 0
  | x :: r => x + 10000 * vl r
/-- A power of the base. -/
def bp : Nat → Int
  | 0 => 1
  | n + 1 => 10000 * bp n
theorem bp_pos : ∀ n, 0 < bp n := by
  intro n
  induction n with
  | zero => exact (by decide : (0 : Int) < 1)
  | succ n ih => show 0 < 10000 * bp n; omega
theorem bp_add (m : Nat) : ∀ n, bp (m + n) = bp m * bp n := by
  intro n
  induction n with
  | zero => show bp m = bp m * 1; omega
  | succ n ih => show 10000 * bp (m + n) = bp m * (10000 * bp n); rw [ih]; grind
def Dg (d : List Int) : Prop := ∀ x ∈ d, 0 ≤ x ∧ x < 10000
/-- No highest digit 0. -/
def Nm (d : List Int) : Prop := ∀ n, d.length = n + 1 → d.getD n 0 ≠ 0
theorem Dg.at_ {d : List Int} (h : Dg d) {i : Nat} (hi : i < d.length) : 0 ≤ d.getD i 0 ∧ d.getD i 0 < 10000 := h _ (getD_mem hi)
theorem Dg.nil : Dg [] := fun x h => by cases h
theorem Dg.app {a b : List Int} (ha : Dg a) (hb : Dg b) : Dg (a ++ b) := fun x h => by
  rcases List.mem_append.1 h with h | h
  · exact ha x h
  · exact hb x h
theorem Dg.one {x : Int} (h0 : 0 ≤ x) (h1 : x < 10000) : Dg [x] := fun y h => by
  obtain rfl := List.mem_singleton.1 h; exact ⟨h0, h1⟩
theorem Dg.take {a : List Int} (ha : Dg a) (n : Nat) : Dg (a.take n) := fun x h => ha x (List.mem_of_mem_take h)
theorem Dg.drop {a : List Int} (ha : Dg a) (n : Nat) : Dg (a.drop n) := fun x h => ha x (List.mem_of_mem_drop h)
theorem Dg.set {a : List Int} (ha : Dg a) (n : Nat) {v : Int} (h0 : 0 ≤ v) (h1 : v < 10000) : Dg (a.set n v) := fun x h => by
  rcases List.mem_or_eq_of_mem_set h with h | h
  · exact ha x h
  · subst h; exact ⟨h0, h1⟩
theorem vl_app : ∀ (a b : List Int), vl (a ++ b) = vl a + bp a.length * vl b := by
  intro a b
  induction a with
  | nil => show vl b = 0 + 1 * vl b; omega
  | cons x a ih => show x + 10000 * vl (a ++ b) = x + 10000 * vl a + 10000 * bp a.length * vl b; rw [ih]; grind
theorem vl_snoc (a : List Int) (x : Int) : vl (a ++ [x]) = vl a + bp a.length * x := by
  rw [vl_app]; show _ + _ * (x + 10000 * 0) = _; grind
theorem vl_nonneg : ∀ {a : List Int}, Dg a → 0 ≤ vl a := by
  intro a
  induction a with
  | nil => intro _; exact Int.le_refl _
  | cons x a ih =>
    intro h
    have h1 := h x (List.mem_cons_self ..)
    have h2 := ih (fun y hy => h y (List.mem_cons_of_mem _ hy))
    show 0 ≤ x + 10000 * vl a
    omega
theorem vl_lt : ∀ {a : List Int}, Dg a → vl a < bp a.length := by
  intro a
  induction a with
  | nil => intro _; exact (by decide : (0 : Int) < 1)
  | cons x a ih =>
    intro h
    have h1 := h x (List.mem_cons_self ..)
    have h2 := ih (fun y hy => h y (List.mem_cons_of_mem _ hy))
    show x + 10000 * vl a < 10000 * bp a.length
    omega
theorem take_last {a : List Int} {n : Nat} (h : n < a.length) : a.take (n + 1) = a.take n ++ [a.getD n 0] := by
  rw [List.take_succ_eq_append_getElem h, List.getD_eq_getElem?_getD, List.getElem?_eq_getElem h]; rfl
theorem drop_head {a : List Int} {n : Nat} (h : n < a.length) : a.drop n = a.getD n 0 :: a.drop (n + 1) := by
  rw [List.drop_eq_getElem_cons h, List.getD_eq_getElem?_getD, List.getElem?_eq_getElem h]; rfl
theorem vl_take {a : List Int} {n : Nat} (h : n < a.length) : vl (a.take (n + 1)) = vl (a.take n) + bp n * a.getD n 0 := by
  rw [take_last h, vl_snoc, List.length_take, Nat.min_eq_left (by omega)]
theorem vl_drop {a : List Int} {n : Nat} (h : n < a.length) : vl (a.drop n) = a.getD n 0 + 10000 * vl (a.drop (n + 1)) := by
  rw [drop_head h]; rfl
theorem vl_set : ∀ {a : List Int} {n : Nat} (v : Int), n < a.length → vl (a.set n v) = vl a + bp n * (v - a.getD n 0) := by
  intro a
  induction a with
  | nil => intro n v h; exact absurd h (by simp)
  | cons x a ih =>
    intro n v h
    cases n with
    | zero => show v + 10000 * vl a = x + 10000 * vl a + 1 * (v - x); omega
    | succ n =>
      show x + 10000 * vl (a.set n v) = x + 10000 * vl a + 10000 * bp n * (v - a.getD n 0)
      rw [ih v (by simpa using h)]; grind
theorem vl_zeros : ∀ n, vl (List.replicate n 0) = 0 := by
  intro n
  induction n with
  | zero => rfl
  | succ n ih => show 0 + 10000 * vl (List.replicate n 0) = 0; rw [ih]; rfl
theorem Dg.zeros (n : Nat) : Dg (List.replicate n 0) := fun x h => by
  obtain rfl := (List.mem_replicate.1 h).2; omega
/-- A number without a highest digit 0 is as large as it is long. -/
theorem Nm.le {a : List Int} (h : Dg a) (hn : Nm a) {n : Nat} (hl : a.length = n + 1) : bp n ≤ vl a := by
  have e : a = a.take n ++ [a.getD n 0] := by rw [← take_last (by omega), ← hl, List.take_length]
  have h1 := h.at_ (i := n) (by omega)
  have h2 := hn n hl
  have h3 := vl_nonneg (h.take n)
  have h4 := bp_pos n
  have e2 : vl a = vl (a.take n) + bp n * a.getD n 0 := by
    conv => lhs; rw [e]
    rw [vl_snoc, List.length_take, Nat.min_eq_left (by omega)]
  have h5 : bp n * 1 ≤ bp n * a.getD n 0 := Int.mul_le_mul_of_nonneg_left (by omega) (by omega)
  omega
theorem Nm.nil : Nm [] := fun n h => by cases h
theorem Nm.len_le {a b : List Int} (ha : Dg a) (hn : Nm a) (hb : Dg b) (h : vl a ≤ vl b) : a.length ≤ b.length := by
  cases hl : a.length with
  | zero => omega
  | succ n =>
    have h1 := hn.le ha hl
    have h2 := vl_lt hb
    by_cases c : n + 1 ≤ b.length
    · exact c
    · exfalso
      obtain ⟨m, rfl⟩ : ∃ m, n = b.length + m := ⟨n - b.length, by omega⟩
      rw [bp_add] at h1
      have h3 : bp b.length * 1 ≤ bp b.length * bp m := Int.mul_le_mul_of_nonneg_left (bp_pos m) (Int.le_of_lt (bp_pos _))
      omega
/-- trim: the digits without the highest ones that are 0. -/
theorem trim_l1 {a : List Int} (hl : a.length ≤ 1000) {n : Nat} (hn : n ≤ a.length) : ∀ (d i : Nat), i + d = n → Ev (fun k => trishawref01_trim.l1 k a n (a.take i) i) (a.take n) := by
  intro d
  induction d with
  | zero =>
    intro i hi
    obtain rfl : i = n := by omega
    exact Ev.step (fun k => by rw [trishawref01_trim.l1]) (ev_neg (by omega) (Ev.now _))
  | succ d ih =>
    intro i hi
    have h := ih (i + 1) (by omega)
    rw [take_last (show i < a.length by omega)] at h
    refine Ev.step (fun k => by rw [trishawref01_trim.l1]) (ev_pos (by omega) (ev_pos (by omega) (ev_pos (by omega) (ev_pos (by rw [List.length_take]; omega) ?_))))
    rw [rd_nat, wrap_id (n := (i : Int) + 1) (by omega)]
    exact h
theorem trim_l0 {a : List Int} (hl : a.length ≤ 1000) : ∀ n, n ≤ a.length → vl (a.take n) = vl a → ∃ m, m ≤ a.length ∧ Ev (fun k => trishawref01_trim.l0 k a n) (a.take m) ∧ vl (a.take m) = vl a ∧ Nm (a.take m) := by
  intro n
  induction n with
  | zero =>
    intro hn hv
    refine ⟨0, hn, Ev.step (fun k => by rw [trishawref01_trim.l0]) (ev_neg (by omega) ?_), hv, Nm.nil⟩
    refine Ev.step (fun k => by rw [trishawref01_trim.j1]) ?_
    exact trim_l1 hl hn 0 0 (by omega)
  | succ n ih =>
    intro hn hv
    by_cases c : a.getD n 0 = 0
    · obtain ⟨m, h1, h2, h3, h4⟩ := ih (by omega) (by rw [← hv, vl_take (by omega), c]; omega)
      refine ⟨m, h1, Ev.step (fun k => by rw [trishawref01_trim.l0]) (ev_pos (by omega) ?_), h3, h4⟩
      rw [wrap_id (n := ((n + 1 : Nat) : Int) - 1) (by omega), show ((n + 1 : Nat) : Int) - 1 = (n : Int) by omega, rd_nat]
      exact ev_pos (by omega) (ev_pos (by omega) (ev_pos c h2))
    · refine ⟨n + 1, hn, Ev.step (fun k => by rw [trishawref01_trim.l0]) (ev_pos (by omega) ?_), hv, fun m hm => ?_⟩
      · rw [wrap_id (n := ((n + 1 : Nat) : Int) - 1) (by omega), show ((n + 1 : Nat) : Int) - 1 = (n : Int) by omega, rd_nat]
        refine ev_pos (by omega) (ev_pos (by omega) (ev_neg c ?_))
        refine Ev.step (fun k => by rw [trishawref01_trim.j1]) ?_
        exact trim_l1 hl hn (n + 1) 0 (by omega)
      · rw [List.length_take, Nat.min_eq_left hn] at hm
        obtain rfl : m = n := by omega
        rwa [List.getD_eq_getElem?_getD, List.getElem?_take, if_pos (by omega), ← List.getD_eq_getElem?_getD]
/-- Digits that tell a number, in the form that the document wants. -/
structure Is (d : List Int) (n : Int) : Prop where
  dg : Dg d
  nm : Nm d
  vl : vl d = n
theorem trim_f {a : List Int} (hl : a.length ≤ 1000) (h : Dg a) : ∃ r, Ev (fun k => trishawref01_trim.f k a) r ∧ Is r (vl a) ∧ r.length ≤ a.length := by
  obtain ⟨m, h1, h2, h3, h4⟩ := trim_l0 hl a.length (Nat.le_refl _) (by rw [List.take_length])
  exact ⟨a.take m, h2, ⟨h.take m, h4, h3⟩, by rw [List.length_take]; omega⟩
theorem whole_f {a : List Int} (hl : a.length ≤ 1000) (h : Dg a) : ∃ r, Ev (fun k => trishawref01_whole.f k false a) (false, r) ∧ Is r (vl a) ∧ r.length ≤ a.length := by
  obtain ⟨r, e, hr⟩ := trim_f hl h
  refine ⟨r, ?_, hr⟩
  unfold trishawref01_whole.f
  exact Ev.bind e (ev_neg Bool.false_ne_true (Ev.now _))
/-- Of: the digits of a number. -/
theorem Of_l0 : ∀ (n : Nat) (x : Int) (a : List Int), x.toNat ≤ n → 0 ≤ x → x ≤ 1000000000000 → Dg a → a.length + n ≤ 900 ∨ True → a.length ≤ 10 → (∀ j, a.length + j = 10 → x < bp j) →
    ∃ r, Ev (fun k => trishawref01_Of.l0 k x a false) (false, r) ∧ Is r (vl a + bp a.length * x) ∧ r.length ≤ 10 := by
  intro n
  induction n with
  | zero =>
    intro x a hx h0 h1 hd _ hl _
    obtain rfl : x = 0 := by omega
    obtain ⟨r, e, hr, hl2⟩ := whole_f (by omega) hd
    refine ⟨r, Ev.step (fun k => by rw [trishawref01_Of.l0]) (ev_pos rfl (Ev.bind e (Ev.now _))), by rw [Int.mul_zero, Int.add_zero]; exact hr, by omega⟩
  | succ n ih =>
    intro x a hx h0 h1 hd _ hl hb
    by_cases c : x = 0
    · subst c
      obtain ⟨r, e, hr, hl2⟩ := whole_f (by omega) hd
      exact ⟨r, Ev.step (fun k => by rw [trishawref01_Of.l0]) (ev_pos rfl (Ev.bind e (Ev.now _))), by rw [Int.mul_zero, Int.add_zero]; exact hr, by omega⟩
    · have hl9 : a.length ≤ 9 := by
        by_cases c2 : a.length = 10
        · have := hb 0 (by omega)
          have e : bp 0 = 1 := rfl
          omega
        · omega
      obtain ⟨r, e, hr, hl2⟩ := ih (x / 10000) (a ++ [x % 10000]) (by omega) (by omega) (by omega) (hd.app (Dg.one (by omega) (by omega))) (.inr trivial) (by rw [List.length_append, List.length_singleton]; omega) (fun j hj => by
        rw [List.length_append, List.length_singleton] at hj
        have := hb (j + 1) (by omega)
        have e : bp (j + 1) = 10000 * bp j := rfl
        omega)
      refine ⟨r, Ev.step (fun k => by rw [trishawref01_Of.l0]) (ev_neg c ?_), ?_, hl2⟩
      · rw [Int.tmod_eq_emod_of_nonneg h0, Int.tdiv_eq_ediv_of_nonneg h0, wrap_id (n := x / 10000) (by omega)]
        exact ev_neg (by omega) (ev_pos (by omega) e)
      · rw [vl_snoc, List.length_append, List.length_singleton] at hr
        have e : bp (a.length + 1) = 10000 * bp a.length := rfl
        have e2 : vl a + bp a.length * (x % 10000) + bp (a.length + 1) * (x / 10000) = vl a + bp a.length * x := by
          have e3 : x = x % 10000 + 10000 * (x / 10000) := by omega
          rw [e]
          conv => rhs; rw [e3]
          grind
        rw [e2] at hr
        exact hr
theorem Big_f {x : Int} (h0 : 0 ≤ x) (h1 : x ≤ 1000000000000) : ∃ r, Ev (fun k => trishawref01_Of.f k x) (false, r) ∧ Is r x ∧ r.length ≤ 10 := by
  obtain ⟨r, e, hr, hl⟩ := Of_l0 x.toNat x [] (Nat.le_refl _) h0 h1 Dg.nil (.inr trivial) (by simp) (fun j hj => by
    obtain rfl : j = 10 := by simpa using hj
    exact Int.lt_of_le_of_lt h1 (by decide))
  refine ⟨r, ?_, ?_, hl⟩
  · unfold trishawref01_Of.f
    rw [decide_eq_false (show ¬ x < 0 by omega)]
    exact e
  · have e2 : vl [] + bp ([] : List Int).length * x = x := by show 0 + 1 * x = x; omega
    rwa [e2] at hr
end Go.Proofs.YtgobffgogmnmpaaDoor.Pure
