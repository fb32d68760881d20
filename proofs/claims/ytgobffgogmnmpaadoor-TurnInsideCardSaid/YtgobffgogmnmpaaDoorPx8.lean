-- Written by wip/tools/myprint.py of this session's repo, over the kit's printer and hand texts.
import Derived.Test.YtgobffgogmnmpaaDoorPx0
import Derived.Test.YtgobffgogmnmpaaDoorPre
import Derived.Test.YtgobffgogmnmpaaDoorPx3
namespace Go.Proofs.YtgobffgogmnmpaaDoor.P
open Go.RowKit Go.Proofs.YtgobffgogmnmpaaDoorW.PrintWords Go.Proofs.YtgobffgogmnmpaaDoorW.PrintLast Go.Proofs.YtgobffgogmnmpaaDoorW.PrintMore
attribute [local go_sem] max2_int min2_int max_two min_two max_three min_three max_four min_four   -- for this text's walks alone
set_option linter.unusedVariables false
set_option linter.unusedSimpArgs false

/-! ### trishawlaw01_same: function 22 -/
def trishawlaw01_same.l0 : Nat → List Int → List Int → Int → Option (Bool)
  | 0, _, _, _ => none
  | k + 1, x0, x1, x5 => if x5 < (x0.length : Int) then (if 0 ≤ x5 then (if x5 < (x1.length : Int) then (if (rd x0 x5) = (rd x1 x5) then (trishawlaw01_same.l0 k x0 x1 (wrap64 (x5 + 1))) else (some false)) else (none)) else (none)) else (some true)
def trishawlaw01_same.f (k : Nat) (l0 : List Int) (l1 : List Int) : Option (Bool) := if (l0.length : Int) = (l1.length : Int) then (trishawlaw01_same.l0 k l0 l1 0) else (some false)
theorem trishawlaw01_same.mono_l : ∀ k, (∀ y0 y1 y2, LeO (trishawlaw01_same.l0 k y0 y1 y2) (trishawlaw01_same.l0 (k + 1) y0 y1 y2))
  | 0 => fun _ _ _ r h => by simp [trishawlaw01_same.l0] at h
  | k + 1 => by
    have ih0 := trishawlaw01_same.mono_l k
    · intro y0 y1 y2
      unfold trishawlaw01_same.l0
      with_reducible repeat' first | exact ih0 _ _ _ | exact LeO.refl _ | exact LeO.none _ | refine LeO.ite ?_ ?_ | refine LeO.bind ?_ (fun _ => ?_)
theorem trishawlaw01_same.mono : ∀ a0 a1 k, LeO (trishawlaw01_same.f k a0 a1) (trishawlaw01_same.f (k + 1) a0 a1) := by
  intro a0 a1 k
  have ih0 := trishawlaw01_same.mono_l k
  unfold trishawlaw01_same.f
  with_reducible repeat' first | exact ih0 _ _ _ | exact LeO.refl _ | exact LeO.none _ | refine LeO.ite ?_ ?_ | refine LeO.bind ?_ (fun _ => ?_)
set_option maxHeartbeats 8000000 in
set_option maxRecDepth 100000 in
theorem trishawlaw01_same.calls (k : Nat) (A0 : Option Addr) (c0 : Nat) (l0 : List Int) (A1 : Option Addr) (c1 : Nat) (l1 : List Int) (r : Bool) (w : World) (hr0 : Kd.C (Kd.int .i64) w A0 l0.length l0) (hc0 : l0.length ≤ c0) (hr1 : Kd.C (Kd.int .i64) w A1 l1.length l1) (hc1 : l1.length ≤ c1) (h : trishawlaw01_same.f k l0 l1 = some r) :
    Calls Tryd.prog 22 #[.slice A0 l0.length c0, .slice A1 l1.length c1] w fun e w' => e = .returned (.bool r) ∧ Drawn0 w w' := by
 have HR0 := Aside0.mk hr0
 have HC0 := Aside0.mk hc0
 clear hr0 hc0
 have HR1 := Aside0.mk hr1
 have HC1 := Aside0.mk hc1
 clear hr1 hc1
 have H : (if (l0.length : Int) = (l1.length : Int) then (trishawlaw01_same.l0 k l0 l1 0) else (some false)) = some r := h
 clear h
 by_cases c3 : (l0.length : Int) = (l1.length : Int)
 ·rw [if_pos c3] at H
  have c3b0 : ((l0.length : Int) == (l1.length : Int)) = true := beq_iff_eq.mpr c3
  have c3b1 : ((l0.length : Int) != (l1.length : Int)) = false := bne_eq_false_iff_eq.mpr c3
  have c3b2 : (l0.length == l1.length) = true := by first | simpa using c3 | (simp at c3 ⊢; omega)
  clear c3
  have H' := Aside0.mk H
  clear H
  go_enter Tryd.func22, Tryd.ntmps22
  go_wp2
  repeat (go_quiet (fail); try go_wp2)
  go_loopg [5] k (fun kq v5 w' => ∃ (x5_1 : Int), v5 = .int .i64 x5_1 ∧ Aside0 (trishawlaw01_same.l0 kq l0 l1 x5_1 = some r) ∧ Aside0 (kq ≤ k) ∧ Drawn0 w w')
  case atStart => exact ⟨(0), rs_, H', ⟨Nat.le_refl _⟩, by repeat (first | exact Drawn0.refl _ | apply Drawn0.step)⟩
  case round =>
   clear H'
   try clear c1
   try clear c2
   try clear p2
   try clear c3
   try clear c3b0
   try clear c3b1
   try clear c3b2
   obtain ⟨x5_1, rfl, HA, HK1, ⟨m1, rfl⟩⟩ := hrel
   cases gk with
   | zero => exact absurd HA.out (by simp [trishawlaw01_same.l0])
   | succ k1 =>
    have H := HA.out
    clear HA
    simp only [trishawlaw01_same.l0] at H
    by_cases c4 : x5_1 < (l0.length : Int)
    ·rw [if_pos c4] at H
     have c4b0 : decide (x5_1 < (l0.length : Int)) = true := decide_eq_true c4
     clear c4
     obtain ⟨c5b0, H⟩ := fp_ H
     obtain ⟨c6b0, H⟩ := fp_ H
     by_cases c7 : (rd l0 x5_1) = (rd l1 x5_1)
     ·rw [if_pos c7] at H
      have c7b0 : ((rd l0 x5_1) == (rd l1 x5_1)) = true := beq_iff_eq.mpr c7
      have c7b1 : ((rd l0 x5_1) != (rd l1 x5_1)) = false := bne_eq_false_iff_eq.mpr c7
      clear c7
      have H' := Aside0.mk H
      clear H
      obtain ⟨ad199, e199, hx199_0, p199, q199⟩ := ai_ HR0.out x5_1
      cases e199
      obtain ⟨ad200, e200, hx200_0, p200, q200⟩ := ai_ HR1.out x5_1
      cases e200
      go_wp2
      repeat (go_quiet (fail); try go_wp2)
      go_roundg k1
      case measure => have := HK1.out; omega
      case rel => exact ⟨(wrap64 (x5_1 + 1)), rs_, H', ⟨by have := HK1.out; omega⟩, by repeat (first | exact Drawn0.refl _ | apply Drawn0.step)⟩
     ·rw [if_neg c7] at H
      have c7b0 : ((rd l0 x5_1) == (rd l1 x5_1)) = false := beq_eq_false_iff_ne.mpr c7
      have c7b1 : ((rd l0 x5_1) != (rd l1 x5_1)) = true := bne_iff_ne.mpr c7
      obtain rfl := Option.some.inj H
      obtain ⟨ad199, e199, hx199_0, p199, q199⟩ := ai_ HR0.out x5_1
      cases e199
      obtain ⟨ad200, e200, hx200_0, p200, q200⟩ := ai_ HR1.out x5_1
      cases e200
      go_wp2
      repeat (go_quiet (fail); try go_wp2)
      go_ret
      exact ⟨by first | rfl | (simp; done) | (simp [*]; done), by repeat (first | exact Drawn0.refl _ | apply Drawn0.step)⟩
    ·rw [if_neg c4] at H
     have c4b0 : decide (x5_1 < (l0.length : Int)) = false := decide_eq_false c4
     clear c4
     obtain rfl := Option.some.inj H
     go_wp2
     repeat (go_quiet (fail); try go_wp2)
     go_ret
     exact ⟨by first | rfl | (simp; done) | (simp [*]; done), by repeat (first | exact Drawn0.refl _ | apply Drawn0.step)⟩
 ·rw [if_neg c3] at H
  have c3b0 : ((l0.length : Int) == (l1.length : Int)) = false := beq_eq_false_iff_ne.mpr c3
  have c3b1 : ((l0.length : Int) != (l1.length : Int)) = true := bne_iff_ne.mpr c3
  have c3b2 : (l0.length == l1.length) = false := by first | simpa using c3 | (simp at c3 ⊢; omega)
  obtain rfl := Option.some.inj H
  go_enter Tryd.func22, Tryd.ntmps22
  go_wp2
  repeat (go_quiet (fail); try go_wp2)
  go_ret
  exact ⟨by first | rfl | (simp; done) | (simp [*]; done), by repeat (first | exact Drawn0.refl _ | apply Drawn0.step)⟩

/-! ### turn_worked_1: function 73 -/
def turn_worked_1.f (a0 : Int) (l1 : List Int) : Option (Bool) := if a0 < 0 then (some true) else (some (decide (a0 ≥ (l1.length : Int))))
set_option maxHeartbeats 8000000 in
set_option maxRecDepth 100000 in
theorem turn_worked_1.calls (a0 : Int) (A1 : Option Addr) (c1 : Nat) (l1 : List Int) (r : Bool) (w : World) (p_ : Addr) (hp_ : w.cell? p_ = some (.slice A1 l1.length c1)) (hr1 : Kd.C (Kd.int .i64) w A1 l1.length l1) (hc1 : l1.length ≤ c1) (h : turn_worked_1.f a0 l1 = some r) :
    Calls Tryd.prog 73 #[.int .i64 a0, .pointer (some p_)] w fun e w' => e = .returned (.bool r) ∧ Drawn0 w w' := by
 have HR1 := Aside0.mk hr1
 have HC1 := Aside0.mk hc1
 clear hr1 hc1
 have H : (if a0 < 0 then (some true) else (some (decide (a0 ≥ (l1.length : Int))))) = some r := h
 clear h
 by_cases c3 : a0 < 0
 ·rw [if_pos c3] at H
  have c3b0 : decide (a0 < 0) = true := decide_eq_true c3
  clear c3
  obtain rfl := Option.some.inj H
  go_enter Tryd.func73, Tryd.ntmps73
  go_wp2
  go_ret
  exact ⟨by first | rfl | (simp; done) | (simp [*]; done), by repeat (first | exact Drawn0.refl _ | apply Drawn0.step)⟩
 ·rw [if_neg c3] at H
  have c3b0 : decide (a0 < 0) = false := decide_eq_false c3
  clear c3
  obtain rfl := Option.some.inj H
  go_enter Tryd.func73, Tryd.ntmps73
  go_wp2
  go_ret
  exact ⟨by first | rfl | (simp; done) | (simp [*]; done), by repeat (first | exact Drawn0.refl _ | apply Drawn0.step)⟩

/-! ### slices_IndexFunc_int_int_W: function 110 -/
def slices_IndexFunc_int_int_W.l0 : Nat → List Int → List Int → Int → Int → Option (Int)
  | 0, _, _, _, _ => none
  | k + 1, x0, x1, x7, x8 => if x8 < x7 then (if 0 ≤ x8 then (if x8 < (x0.length : Int) then ((turn_worked_1.f (rd x0 x8) x1).bind fun t202 => (if t202 = true then (some x8) else (slices_IndexFunc_int_int_W.l0 k x0 x1 x7 (wrap64 (x8 + 1))))) else (none)) else (none)) else (some (-1))
def slices_IndexFunc_int_int_W.f (k : Nat) (l0 : List Int) (l1 : List Int) : Option (Int) := slices_IndexFunc_int_int_W.l0 k l0 l1 (l0.length : Int) 0
theorem slices_IndexFunc_int_int_W.mono_l : ∀ k, (∀ y0 y1 y2 y3, LeO (slices_IndexFunc_int_int_W.l0 k y0 y1 y2 y3) (slices_IndexFunc_int_int_W.l0 (k + 1) y0 y1 y2 y3))
  | 0 => fun _ _ _ _ r h => by simp [slices_IndexFunc_int_int_W.l0] at h
  | k + 1 => by
    have ih0 := slices_IndexFunc_int_int_W.mono_l k
    · intro y0 y1 y2 y3
      unfold slices_IndexFunc_int_int_W.l0
      with_reducible repeat' first | exact ih0 _ _ _ _ | exact LeO.refl _ | exact LeO.none _ | refine LeO.ite ?_ ?_ | refine LeO.bind ?_ (fun _ => ?_)
theorem slices_IndexFunc_int_int_W.mono : ∀ a0 a1 k, LeO (slices_IndexFunc_int_int_W.f k a0 a1) (slices_IndexFunc_int_int_W.f (k + 1) a0 a1) := by
  intro a0 a1 k
  have ih0 := slices_IndexFunc_int_int_W.mono_l k
  unfold slices_IndexFunc_int_int_W.f
  with_reducible repeat' first | exact ih0 _ _ _ _ | exact LeO.refl _ | exact LeO.none _ | refine LeO.ite ?_ ?_ | refine LeO.bind ?_ (fun _ => ?_)
/-- A call of a function value, as an arm of go_wp2_with. -/
theorem goesY_ {P : Program} {ops : Array Oper} {Q : Exit → Act → World → Prop} {rest : List Oper} {oi : Oper} {a : Act} {w : World} (N : Option Tmp) (hd : oi.dst = N) (hg : oi.guard = none) {f : FuncId} {fn : Func} {op : Operand} {xs : Array Operand} {ts : Array TypeId} {cap : Array Value} (hop : oi.op = .call { callee := .value op, args := xs, argTypes := ts }) (hv : a.eval op = .func (.func f) #[] cap) (hf : P.funcs[f]? = some fn) (hname : (fn.name == "runtime.NumGoroutine") = false) (hb : fn.body.isSome = true) (args : Array Value)
    (hargs : xs.map a.eval ++ cap = args)
    (h : Calls P f args w fun e w' => ∃ v, e = .returned v ∧ wpList P ops Q rest (a.put N v) w') : wpList P ops Q (oi :: rest) a w := by
  refine wpList_plain hg fun K hK => ?_
  have he := enters_ hf hname hb args w
  have hrun : (execOp a.eval oi).run P w = .ok (.enter f args) w := by
    unfold execOp
    have hv' : a.eval op = .func (.func f) #[] cap := hv
    simp [hop, resolve, Deferred.ofValue, invoke, Act.eval, ← hargs, he] at hv' ⊢
    simp [hv', invoke, Act.eval, hargs, he]
  unfold Oper.wp
  rw [hrun, Oper.upon_enter]
  refine h.mono fun e w'' hh => ?_
  obtain ⟨v, rfl, hk⟩ := hh
  subst hd
  exact hK _ _ hk
set_option maxHeartbeats 8000000 in
set_option maxRecDepth 100000 in
theorem slices_IndexFunc_int_int_W.calls (k : Nat) (A0 : Option Addr) (c0 : Nat) (l0 : List Int) (A1 : Option Addr) (c1 : Nat) (l1 : List Int) (r : Int) (w : World) (p_ : Addr) (hp_ : w.cell? p_ = some (.slice A1 l1.length c1)) (hr0 : Kd.C (Kd.int .i64) w A0 l0.length l0) (hc0 : l0.length ≤ c0) (hr1 : Kd.C (Kd.int .i64) w A1 l1.length l1) (hc1 : l1.length ≤ c1) (h : slices_IndexFunc_int_int_W.f k l0 l1 = some r) :
    Calls Tryd.prog 78 #[.slice A0 l0.length c0, .func (.func 73) #[] #[.pointer (some p_)]] w fun e w' => e = .returned (.int .i64 r) ∧ Drawn0 w w' := by
 have HPp := Aside0.mk hp_
 clear hp_
 have HR0 := Aside0.mk hr0
 have HC0 := Aside0.mk hc0
 clear hr0 hc0
 have HR1 := Aside0.mk hr1
 have HC1 := Aside0.mk hc1
 clear hr1 hc1
 have H : (slices_IndexFunc_int_int_W.l0 k l0 l1 (l0.length : Int) 0) = some r := h
 clear h
 have H' := Aside0.mk H
 clear H
 go_enter Tryd.func78, Tryd.ntmps78
 go_wp2
 go_loopg [8] k (fun kq v8 w' => ∃ (x8_1 : Int), v8 = .int .i64 x8_1 ∧ Aside0 (slices_IndexFunc_int_int_W.l0 kq l0 l1 (l0.length : Int) x8_1 = some r) ∧ Aside0 (kq ≤ k) ∧ Drawn0 w w')
 case atStart => exact ⟨(0), rs_, H', ⟨Nat.le_refl _⟩, by repeat (first | exact Drawn0.refl _ | apply Drawn0.step)⟩
 case round =>
  clear H'
  try clear c1
  try clear p2
  obtain ⟨x8_1, rfl, HA, HK1, ⟨m1, rfl⟩⟩ := hrel
  cases gk with
  | zero => exact absurd HA.out (by simp [slices_IndexFunc_int_int_W.l0])
  | succ k1 =>
   have H := HA.out
   clear HA
   simp only [slices_IndexFunc_int_int_W.l0] at H
   by_cases c3 : x8_1 < (l0.length : Int)
   ·rw [if_pos c3] at H
    have c3b0 : decide (x8_1 < (l0.length : Int)) = true := decide_eq_true c3
    clear c3
    obtain ⟨c4b0, H⟩ := fp_ H
    obtain ⟨c5b0, H⟩ := fp_ H
    obtain ⟨t202, A6, H⟩ := bi_ H
    replace H : (if t202 = true then (some x8_1) else (slices_IndexFunc_int_int_W.l0 k1 l0 l1 (l0.length : Int) (wrap64 (x8_1 + 1)))) = some r := H
    by_cases c7 : t202 = true
    ·subst c7
     have H1 : (some x8_1) = some r := by rw [if_pos rfl] at H; exact H
     clear H
     have H := H1
     clear H1
     obtain rfl := Option.some.inj H
     obtain ⟨ad201, e201, hx201_0, p201, q201⟩ := ai_ HR0.out x8_1
     cases e201
     go_wp2_with (first | ((with_reducible refine gate_dst (N := 16) rfl ?_); refine goesY_ (some 16) rfl rfl rfl rfl Tryd.func73 (by kernel_rfl) rfl #[.int .i64 (rd l0 x8_1), .pointer (some p_)] (as_) ?_; (with_reducible refine (turn_worked_1.calls (rd l0 x8_1) _ _ l1 true _ p_ (by first | exact HPp.out | simpa using HPp.out) ?side1 ?side2 A6.out).mono ?_); (case side1 => repeat (first | exact HR1.out | (with_reducible refine Kd.C_alloc ?_ _) | (with_reducible refine Kd.C_drewN ?_ _) | (with_reducible refine Kd.C_drew ?_))); (case side2 => exact HC1.out); rintro e w' ⟨rfl, ⟨nd, rfl⟩⟩; refine ⟨_, rfl, ?_⟩))
     go_ret
     exact ⟨by first | rfl | (simp; done) | (simp [*]; done), by repeat (first | exact Drawn0.refl _ | apply Drawn0.step)⟩
    ·replace c7 := Bool.eq_false_iff.mpr c7
     subst c7
     have H1 : (slices_IndexFunc_int_int_W.l0 k1 l0 l1 (l0.length : Int) (wrap64 (x8_1 + 1))) = some r := by rw [if_neg (show ¬ (false = true) by decide)] at H; exact H
     clear H
     have H := H1
     clear H1
     have H' := Aside0.mk H
     clear H
     obtain ⟨ad201, e201, hx201_0, p201, q201⟩ := ai_ HR0.out x8_1
     cases e201
     go_wp2_with (first | ((with_reducible refine gate_dst (N := 16) rfl ?_); refine goesY_ (some 16) rfl rfl rfl rfl Tryd.func73 (by kernel_rfl) rfl #[.int .i64 (rd l0 x8_1), .pointer (some p_)] (as_) ?_; (with_reducible refine (turn_worked_1.calls (rd l0 x8_1) _ _ l1 false _ p_ (by first | exact HPp.out | simpa using HPp.out) ?side1 ?side2 A6.out).mono ?_); (case side1 => repeat (first | exact HR1.out | (with_reducible refine Kd.C_alloc ?_ _) | (with_reducible refine Kd.C_drewN ?_ _) | (with_reducible refine Kd.C_drew ?_))); (case side2 => exact HC1.out); rintro e w' ⟨rfl, ⟨nd, rfl⟩⟩; refine ⟨_, rfl, ?_⟩))
     go_roundg k1
     case measure => have := HK1.out; omega
     case rel => exact ⟨(wrap64 (x8_1 + 1)), rs_, H', ⟨by have := HK1.out; omega⟩, by repeat (first | exact Drawn0.refl _ | apply Drawn0.step)⟩
   ·rw [if_neg c3] at H
    have c3b0 : decide (x8_1 < (l0.length : Int)) = false := decide_eq_false c3
    clear c3
    obtain rfl := Option.some.inj H
    go_wp2
    go_ret
    exact ⟨by first | rfl | (simp; done) | (simp [*]; done), by repeat (first | exact Drawn0.refl _ | apply Drawn0.step)⟩

/-! ### slices_ContainsFunc_int_int_W: function 111 -/
def slices_ContainsFunc_int_int_W.f (k : Nat) (l0 : List Int) (l1 : List Int) : Option (Bool) := (slices_IndexFunc_int_int_W.f k l0 l1).bind fun t203 => (some (decide (t203 ≥ 0)))
theorem slices_ContainsFunc_int_int_W.mono : ∀ a0 a1 k, LeO (slices_ContainsFunc_int_int_W.f k a0 a1) (slices_ContainsFunc_int_int_W.f (k + 1) a0 a1) := by
  intro a0 a1 k
  unfold slices_ContainsFunc_int_int_W.f
  with_reducible repeat' first | exact slices_IndexFunc_int_int_W.mono _ _ _ | exact LeO.refl _ | exact LeO.none _ | refine LeO.ite ?_ ?_ | refine LeO.bind ?_ (fun _ => ?_)
set_option maxHeartbeats 8000000 in
set_option maxRecDepth 100000 in
theorem slices_ContainsFunc_int_int_W.calls (k : Nat) (A0 : Option Addr) (c0 : Nat) (l0 : List Int) (A1 : Option Addr) (c1 : Nat) (l1 : List Int) (r : Bool) (w : World) (p_ : Addr) (hp_ : w.cell? p_ = some (.slice A1 l1.length c1)) (hr0 : Kd.C (Kd.int .i64) w A0 l0.length l0) (hc0 : l0.length ≤ c0) (hr1 : Kd.C (Kd.int .i64) w A1 l1.length l1) (hc1 : l1.length ≤ c1) (h : slices_ContainsFunc_int_int_W.f k l0 l1 = some r) :
    Calls Tryd.prog 63 #[.slice A0 l0.length c0, .func (.func 73) #[] #[.pointer (some p_)]] w fun e w' => e = .returned (.bool r) ∧ Drawn0 w w' := by
 have HPp := Aside0.mk hp_
 clear hp_
 have HR0 := Aside0.mk hr0
 have HC0 := Aside0.mk hc0
 clear hr0 hc0
 have HR1 := Aside0.mk hr1
 have HC1 := Aside0.mk hc1
 clear hr1 hc1
 have H : ((slices_IndexFunc_int_int_W.f k l0 l1).bind fun t203 => (some (decide (t203 ≥ 0)))) = some r := h
 clear h
 obtain ⟨t203, A3, H⟩ := bi_ H
 replace H : (some (decide (t203 ≥ 0))) = some r := H
 obtain rfl := Option.some.inj H
 go_enter Tryd.func63, Tryd.ntmps63
 go_wp2_with (first | ((with_reducible refine gate_callee (f := 78) rfl ?_); refine goesL_ (some 7) rfl rfl Tryd.func78 (by kernel_rfl) rfl #[.slice A0 l0.length c0, .func (.func 73) #[] #[.pointer (some p_)]] rfl (as_) ?_; (with_reducible refine (slices_IndexFunc_int_int_W.calls k _ _ l0 _ _ l1 t203 _ p_ (by first | exact HPp.out | simpa using HPp.out) ?side1 ?side2 ?side3 ?side4 A3.out).mono ?_); (case side1 => repeat (first | exact HR0.out | (with_reducible refine Kd.C_alloc ?_ _) | (with_reducible refine Kd.C_drewN ?_ _) | (with_reducible refine Kd.C_drew ?_))); (case side2 => exact HC0.out); (case side3 => repeat (first | exact HR1.out | (with_reducible refine Kd.C_alloc ?_ _) | (with_reducible refine Kd.C_drewN ?_ _) | (with_reducible refine Kd.C_drew ?_))); (case side4 => exact HC1.out); rintro e w' ⟨rfl, ⟨nd, rfl⟩⟩; refine ⟨_, rfl, ?_⟩))
 go_ret
 exact ⟨by first | rfl | (simp; done) | (simp [*]; done), by repeat (first | exact Drawn0.refl _ | apply Drawn0.step)⟩

/-! ### turn_worked: function 50 -/
def turn_worked.f (k : Nat) (l0 : List Int) (l1 : List Int) : Option (List Int × Int × Int) := (turn_read.f k l0).bind fun bt205 => (if bt205.2.2 = 0 then (if (l1.length : Int) > 400 then (some (bt205.1, bt205.2.1, 3)) else ((slices_ContainsFunc_int_int_W.f k l1 l0).bind fun t211 => (if t211 = true then (some (bt205.1, bt205.2.1, 2)) else (some (bt205.1, bt205.2.1, 0))))) else (some (bt205.1, bt205.2.1, bt205.2.2)))
theorem turn_worked.mono : ∀ a0 a1 k, LeO (turn_worked.f k a0 a1) (turn_worked.f (k + 1) a0 a1) := by
  intro a0 a1 k
  unfold turn_worked.f
  with_reducible repeat' first | exact slices_ContainsFunc_int_int_W.mono _ _ _ | exact turn_read.mono _ _ | exact LeO.refl _ | exact LeO.none _ | refine LeO.ite ?_ ?_ | refine LeO.bind ?_ (fun _ => ?_)
set_option maxHeartbeats 8000000 in
set_option maxRecDepth 100000 in
theorem turn_worked.calls (k : Nat) (P0_ : Nat → Prop) (A0 : Option Addr) (c0 : Nat) (l0 : List Int) (A1 : Option Addr) (c1 : Nat) (l1 : List Int) (r1 : List Int) (r2 : Int) (r3 : Int) (w : World) (hs0 : Kd.V (Kd.int .i64) 3 w w.heap.size (fun k_ => P0_ k_) (.slice A0 l0.length c0) l0) (hr1 : Kd.C (Kd.int .i64) w A1 l1.length l1) (hc1 : l1.length ≤ c1) (h : turn_worked.f k l0 l1 = some (r1, r2, r3)) :
    Calls Tryd.prog 50 #[.slice A0 l0.length c0, .slice A1 l1.length c1] w fun e w' => ∃ v0_ : Value, e = .returned (.tuple #[.agg #[v0_, .int .i64 r2], .int .i64 r3]) ∧ Kd.V (Kd.int .i64) 3 w' w.heap.size (fun k_ => (P0_ k_ ∨ w.heap.size ≤ k_)) v0_ r1 ∧ Below w.heap.size w w' := by
 have hu60 := Tryd.underlying60
 have HO0 := Aside0.mk (show Kd.V (Kd.int .i64) 3 w w.heap.size (fun k_ => (P0_ k_ ∨ w.heap.size ≤ k_)) (.slice A0 l0.length c0) l0 from Kd.V_mono hs0 (fun k_ hk => .inl hk))
 have HR1 := Aside0.mk hr1
 have HC1 := Aside0.mk hc1
 clear hr1 hc1
 have HB := Aside0.mk (Below.refl w.heap.size w)
 have H : ((turn_read.f k l0).bind fun bt205 => (if bt205.2.2 = 0 then (if (l1.length : Int) > 400 then (some (bt205.1, bt205.2.1, 3)) else ((slices_ContainsFunc_int_int_W.f k l1 l0).bind fun t211 => (if t211 = true then (some (bt205.1, bt205.2.1, 2)) else (some (bt205.1, bt205.2.1, 0))))) else (some (bt205.1, bt205.2.1, bt205.2.2)))) = some (r1, r2, r3) := h
 clear h
 obtain ⟨⟨t205, t208, t209⟩, A3, H⟩ := bi_ H
 replace H : (if t209 = 0 then (if (l1.length : Int) > 400 then (some (t205, t208, 3)) else ((slices_ContainsFunc_int_int_W.f k l1 l0).bind fun t211 => (if t211 = true then (some (t205, t208, 2)) else (some (t205, t208, 0))))) else (some (t205, t208, t209))) = some (r1, r2, r3) := H
 by_cases c4 : t209 = 0
 ·rw [if_pos c4] at H
  have c4b0 : (t209 == 0) = true := beq_iff_eq.mpr c4
  have c4b1 : (t209 != 0) = false := bne_eq_false_iff_eq.mpr c4
  clear c4
  by_cases c5 : (l1.length : Int) > 400
  ·rw [if_pos c5] at H
   have c5b0 : decide (400 < (l1.length : Int)) = true := decide_eq_true c5
   have c5b1 : decide (400 < l1.length) = true := decide_eq_true (by omega)
   clear c5
   simp only [Option.some.injEq, Prod.mk.injEq] at H
   obtain ⟨rfl, rfl, rfl⟩ := H
   go_enter Tryd.func50, Tryd.ntmps50
   go_wp2_with (first | ((with_reducible refine gate_dst (N := 2) rfl ?_); refine be_ #[.slice A0 l0.length c0] 22 ?_; intro gbs hg ws hbox hb; have n0_ := Aside0.mk (Kd.V_below HO0.out hb); have n1_ := hb_ hb; have hcs_0 : ws.cell? ⟨gbs, 0, none⟩ = some (.slice A0 l0.length c0) := (blk_cell hbox 0).trans rfl; have HCS := Aside0.mk hcs_0; have HBS := Aside0.mk (Below.refl ws.heap.size ws); clear HO0; clear HB; have HO0 := n0_; have HB := n1_; clear n0_ n1_; clear hb hbox hg) | ((with_reducible refine gate_dst (N := 4) rfl ?_); refine be_ #[.slice none 0 0, .int .i64 0] 60 ?_; intro gb204 hg w6 hbox hb; have q0_ := Aside0.mk (below_step (by repeat (first | (with_reducible first | exact HBS.out | apply below_alloc | apply pw_below_drewN | apply below_drew1) | exact HBS.out)) hb); have GS204 := Aside0.mk ((by rw [hg]; exact (below_size (by repeat (first | (with_reducible first | exact HBS.out | apply below_alloc | apply pw_below_drewN | apply below_drew1) | exact HBS.out)))) : ws.heap.size ≤ gb204); clear HBS; have HBS := q0_; clear q0_; (try have hcs_1 : w6.cell? ⟨gbs, 0, none⟩ = some (.slice A0 l0.length c0) := (HBS.out.cell (World.block_lt_of_cell? ws _ HCS.out)).trans HCS.out); replace HO0 := ve_ HO0 hg hb; have BK204 := Aside0.mk (hbox); have GW204 := gw_ hg; have GE204 := gw_ hg; replace HB := hb_ hb; clear hb hbox hg) | ((with_reducible refine gate_callee (f := 43) rfl ?_); refine goesL_ (some 10) rfl rfl Tryd.func43 (by kernel_rfl) rfl #[.slice A0 l0.length c0] rfl (as_) ?_; (with_reducible refine (turn_read.calls k (fun k_ => ((P0_ k_ ∨ w.heap.size ≤ k_) ∧ k_ ≠ gb204)) _ _ l0 t205 t208 t209 _ ?side1 A3.out).mono ?_); (case side1 => exact HO0.out); rintro e w7 ⟨v206, rfl, ho0, hb⟩; refine ⟨_, rfl, ?_⟩; have q0_ := Aside0.mk (below_step (by repeat (first | (with_reducible first | exact HBS.out | apply below_alloc | apply pw_below_drewN | apply below_drew1) | exact HBS.out)) hb); clear HBS; have HBS := q0_; clear q0_; replace HO0 := Aside0.mk (Kd.V_below (kv_ HO0.out) hb); have HO207 := Aside0.mk (Kd.V_lower (Kd.V_mono (ok' := fun k_ => (P0_ k_ ∨ w.heap.size ≤ k_) ∧ k_ ≠ gb204) ho0 (fun k_ hk_ => ⟨Or.elim hk_ (fun hs_ => hs_.1) (fun hn_ => (.inr (Nat.le_trans (below_size (bl_)) hn_))), Or.elim hk_ (fun hs_ => hs_.2) (fun hn_ => (Kd.freshB (g := gb204) (o := .cells #[.slice none 0 0, .int .i64 0] 60 (0, 0)) (bk_ BK204.out) k_ hn_))⟩)) (below_size (bl_))); replace BK204 := bb_ BK204 hb; replace HB := hb_ hb; clear hb ho0) | ((with_reducible refine gate_dst (N := 6) rfl ?_); refine be_ #[.slice none 0 0, .int .i64 0] 60 ?_; intro gb210 hg w8 hbox hb; have q0_ := Aside0.mk (below_step (by repeat (first | (with_reducible first | exact HBS.out | apply below_alloc | apply pw_below_drewN | apply below_drew1) | exact HBS.out)) hb); have GS210 := Aside0.mk ((by rw [hg]; exact (below_size (by repeat (first | (with_reducible first | exact HBS.out | apply below_alloc | apply pw_below_drewN | apply below_drew1) | exact HBS.out)))) : ws.heap.size ≤ gb210); clear HBS; have HBS := q0_; clear q0_; (try have hcs_1 : w8.cell? ⟨gbs, 0, none⟩ = some (.slice A0 l0.length c0) := (HBS.out.cell (World.block_lt_of_cell? ws _ HCS.out)).trans HCS.out); replace HO0 := ve_ HO0 hg hb; replace HO207 := ve_ HO207 hg hb; have BK210 := Aside0.mk (hbox); have GW210 := gw_ hg; have GE210 := gw_ hg; replace HB := hb_ hb; have NB204_210 := nl_ hg BK204; have NB210_204 := sy_ NB204_210; replace BK204 := bb_ BK204 hb; clear hb hbox hg; obtain ⟨Ao9, co9, eo9⟩ := Kd.V_slice HO207.out; subst eo9; have hnb10 := NB210_204.out; have hnc10 := NB204_210.out; have hcz11_0 := bc_ BK210 0 (.slice none 0 0); have hcz11_1 := bc_ BK210 1 (.int .i64 0); have hfz11_0 := bz_ BK210 0; have hfz11_1 := bz_ BK210 1; have hcz12_0 := bc_ BK204 0 (.slice none 0 0); have hcz12_1 := bc_ BK204 1 (.int .i64 0); have hfz12_0 := bz_ BK204 0; have hfz12_1 := bz_ BK204 1))
   refine bodyPost_ret (results_ct rfl _ _ gb204 60 #[.slice Ao9 t205.length co9, .int .i64 t208] (0, 0) _ rfl (by refine bk_ ?_; refine blk_put (cs := #[.slice Ao9 t205.length co9, .int .i64 0]) ?_ 1 _ rfl; refine bk_ ?_; refine blk_put (cs := #[.slice none 0 0, .int .i64 0]) ?_ 0 _ rfl; refine bk_ ?_; refine blk_far ?_ NB204_210.out _; refine bk_ ?_; refine blk_far ?_ NB204_210.out _; refine bk_ ?_; exact BK204.out) Tryd.underlying60 rfl (by kernel_rfl)) rfl ?_
   exact ⟨_, er_, by refine kv_ ?_; exact Kd.V_mono (Kd.V_far (p := ⟨gb204, 1, none⟩) (Kd.V_far (p := ⟨gb204, 0, none⟩) (Kd.V_far (p := ⟨gb210, 1, none⟩) (Kd.V_far (p := ⟨gb210, 0, none⟩) (Kd.V_mono (Kd.V_mono HO207.out (fun k_ hk => (⟨hk, hk.2⟩ : _ ∧ k_ ≠ gb210))) (fun k_ hk => (⟨hk, hk.1.1.2⟩ : _ ∧ k_ ≠ gb204))) (fun _ hk => hk.1.2) (.slice Ao9 t205.length co9)) (fun _ hk => hk.1.2) (.int .i64 t208)) (fun _ hk => hk.2) (.slice Ao9 t205.length co9)) (fun _ hk => hk.2) (.int .i64 t208)) (fun _ hk => hk.1.1.1.1), bl_⟩
  ·rw [if_neg c5] at H
   have c5b0 : decide (400 < (l1.length : Int)) = false := decide_eq_false c5
   have c5b1 : decide (400 < l1.length) = false := decide_eq_false (by omega)
   clear c5
   obtain ⟨t211, A13, H⟩ := bi_ H
   replace H : (if t211 = true then (some (t205, t208, 2)) else (some (t205, t208, 0))) = some (r1, r2, r3) := H
   by_cases c14 : t211 = true
   ·subst c14
    have H1 : (some (t205, t208, 2)) = some (r1, r2, r3) := by rw [if_pos rfl] at H; exact H
    clear H
    have H := H1
    clear H1
    simp only [Option.some.injEq, Prod.mk.injEq] at H
    obtain ⟨rfl, rfl, rfl⟩ := H
    go_enter Tryd.func50, Tryd.ntmps50
    go_wp2_with (first | ((with_reducible refine gate_dst (N := 2) rfl ?_); refine be_ #[.slice A0 l0.length c0] 22 ?_; intro gbs hg ws hbox hb; have n0_ := Aside0.mk (Kd.V_below HO0.out hb); have n1_ := hb_ hb; have hcs_0 : ws.cell? ⟨gbs, 0, none⟩ = some (.slice A0 l0.length c0) := (blk_cell hbox 0).trans rfl; have HCS := Aside0.mk hcs_0; have HBS := Aside0.mk (Below.refl ws.heap.size ws); clear HO0; clear HB; have HO0 := n0_; have HB := n1_; clear n0_ n1_; clear hb hbox hg) | ((with_reducible refine gate_dst (N := 4) rfl ?_); refine be_ #[.slice none 0 0, .int .i64 0] 60 ?_; intro gb204 hg w15 hbox hb; have q0_ := Aside0.mk (below_step (by repeat (first | (with_reducible first | exact HBS.out | apply below_alloc | apply pw_below_drewN | apply below_drew1) | exact HBS.out)) hb); have GS204 := Aside0.mk ((by rw [hg]; exact (below_size (by repeat (first | (with_reducible first | exact HBS.out | apply below_alloc | apply pw_below_drewN | apply below_drew1) | exact HBS.out)))) : ws.heap.size ≤ gb204); clear HBS; have HBS := q0_; clear q0_; (try have hcs_1 : w15.cell? ⟨gbs, 0, none⟩ = some (.slice A0 l0.length c0) := (HBS.out.cell (World.block_lt_of_cell? ws _ HCS.out)).trans HCS.out); replace HO0 := ve_ HO0 hg hb; have BK204 := Aside0.mk (hbox); have GW204 := gw_ hg; have GE204 := gw_ hg; replace HB := hb_ hb; clear hb hbox hg) | ((with_reducible refine gate_callee (f := 43) rfl ?_); refine goesL_ (some 10) rfl rfl Tryd.func43 (by kernel_rfl) rfl #[.slice A0 l0.length c0] rfl (as_) ?_; (with_reducible refine (turn_read.calls k (fun k_ => ((P0_ k_ ∨ w.heap.size ≤ k_) ∧ k_ ≠ gb204)) _ _ l0 t205 t208 t209 _ ?side1 A3.out).mono ?_); (case side1 => exact HO0.out); rintro e w16 ⟨v206, rfl, ho0, hb⟩; refine ⟨_, rfl, ?_⟩; have q0_ := Aside0.mk (below_step (by repeat (first | (with_reducible first | exact HBS.out | apply below_alloc | apply pw_below_drewN | apply below_drew1) | exact HBS.out)) hb); clear HBS; have HBS := q0_; clear q0_; replace HO0 := Aside0.mk (Kd.V_below (kv_ HO0.out) hb); have HO207 := Aside0.mk (Kd.V_lower (Kd.V_mono (ok' := fun k_ => (P0_ k_ ∨ w.heap.size ≤ k_) ∧ k_ ≠ gb204) ho0 (fun k_ hk_ => ⟨Or.elim hk_ (fun hs_ => hs_.1) (fun hn_ => (.inr (Nat.le_trans (below_size (bl_)) hn_))), Or.elim hk_ (fun hs_ => hs_.2) (fun hn_ => (Kd.freshB (g := gb204) (o := .cells #[.slice none 0 0, .int .i64 0] 60 (0, 0)) (bk_ BK204.out) k_ hn_))⟩)) (below_size (bl_))); replace BK204 := bb_ BK204 hb; replace HB := hb_ hb; clear hb ho0) | ((with_reducible refine gate_dst (N := 6) rfl ?_); refine be_ #[.slice none 0 0, .int .i64 0] 60 ?_; intro gb210 hg w17 hbox hb; have q0_ := Aside0.mk (below_step (by repeat (first | (with_reducible first | exact HBS.out | apply below_alloc | apply pw_below_drewN | apply below_drew1) | exact HBS.out)) hb); have GS210 := Aside0.mk ((by rw [hg]; exact (below_size (by repeat (first | (with_reducible first | exact HBS.out | apply below_alloc | apply pw_below_drewN | apply below_drew1) | exact HBS.out)))) : ws.heap.size ≤ gb210); clear HBS; have HBS := q0_; clear q0_; (try have hcs_1 : w17.cell? ⟨gbs, 0, none⟩ = some (.slice A0 l0.length c0) := (HBS.out.cell (World.block_lt_of_cell? ws _ HCS.out)).trans HCS.out); replace HO0 := ve_ HO0 hg hb; replace HO207 := ve_ HO207 hg hb; have BK210 := Aside0.mk (hbox); have GW210 := gw_ hg; have GE210 := gw_ hg; replace HB := hb_ hb; have NB204_210 := nl_ hg BK204; have NB210_204 := sy_ NB204_210; replace BK204 := bb_ BK204 hb; clear hb hbox hg; obtain ⟨Ao18, co18, eo18⟩ := Kd.V_slice HO207.out; subst eo18; have hnb19 := NB210_204.out; have hnc19 := NB204_210.out; have hcz20_0 := bc_ BK210 0 (.slice none 0 0); have hcz20_1 := bc_ BK210 1 (.int .i64 0); have hfz20_0 := bz_ BK210 0; have hfz20_1 := bz_ BK210 1) | ((with_reducible refine gate_callee (f := 63) rfl ?_); refine goesL_ (some 26) rfl rfl Tryd.func63 (by kernel_rfl) rfl #[.slice A1 l1.length c1, .func (.func 73) #[] #[.pointer (some ⟨gbs, 0, none⟩)]] rfl (as_) ?_; (with_reducible refine (slices_ContainsFunc_int_int_W.calls k _ _ l1 A0 c0 l0 true _ ⟨gbs, 0, none⟩ ?sidep ?side1 ?side2 ?side3 ?side4 A13.out).mono ?_); (case sidep => exact ((Below.cell (by repeat (first | (with_reducible first | exact HBS.out | apply below_alloc | apply pw_below_drewN | apply below_drew1 | refine below_set ?_ GS204.out | refine below_set ?_ GS210.out) | exact HBS.out)) (World.block_lt_of_cell? ws _ HCS.out)).trans HCS.out)); (case side1 => exact Kd.C_below HR1.out (bl_)); (case side2 => exact HC1.out); (case side3 => refine (Kd.V_reads' (e := 3) (base := w.heap.size) (ok := fun k_ => (((P0_ k_ ∨ w.heap.size ≤ k_) ∧ k_ ≠ gb204) ∧ k_ ≠ gb210)) (n := l0.length) (c := c0) ?_).2.2; exact (by refine kv_ ?_; exact (Kd.V_mono (Kd.V_far (p := ⟨gb210, 1, none⟩) (Kd.V_far (p := ⟨gb210, 0, none⟩) (Kd.V_mono HO0.out (fun k_ hk => (⟨hk, hk.2⟩ : _ ∧ k_ ≠ gb210))) (fun _ hk => hk.2) (.slice Ao18 t205.length co18)) (fun _ hk => hk.2) (.int .i64 t208)) (fun _ h_ => h_.1)))); (case side4 => exact (Kd.V_reads' HO0.out).2.1); rintro e w' ⟨rfl, ⟨nd, rfl⟩⟩; refine ⟨_, rfl, ?_⟩; have hcz21_0 := bc_ BK204 0 (.slice none 0 0); have hcz21_1 := bc_ BK204 1 (.int .i64 0); have hfz21_0 := bz_ BK204 0; have hfz21_1 := bz_ BK204 1))
    refine bodyPost_ret (results_ct rfl _ _ gb204 60 #[.slice Ao18 t205.length co18, .int .i64 t208] (0, 0) _ rfl (by refine bk_ ?_; refine blk_put (cs := #[.slice Ao18 t205.length co18, .int .i64 0]) ?_ 1 _ rfl; refine bk_ ?_; refine blk_put (cs := #[.slice none 0 0, .int .i64 0]) ?_ 0 _ rfl; refine bk_ ?_; refine blk_far ?_ NB204_210.out _; refine bk_ ?_; refine blk_far ?_ NB204_210.out _; refine bk_ ?_; exact BK204.out) Tryd.underlying60 rfl (by kernel_rfl)) rfl ?_
    exact ⟨_, er_, by refine kv_ ?_; exact Kd.V_mono (Kd.V_far (p := ⟨gb204, 1, none⟩) (Kd.V_far (p := ⟨gb204, 0, none⟩) (Kd.V_far (p := ⟨gb210, 1, none⟩) (Kd.V_far (p := ⟨gb210, 0, none⟩) (Kd.V_mono (Kd.V_mono HO207.out (fun k_ hk => (⟨hk, hk.2⟩ : _ ∧ k_ ≠ gb210))) (fun k_ hk => (⟨hk, hk.1.1.2⟩ : _ ∧ k_ ≠ gb204))) (fun _ hk => hk.1.2) (.slice Ao18 t205.length co18)) (fun _ hk => hk.1.2) (.int .i64 t208)) (fun _ hk => hk.2) (.slice Ao18 t205.length co18)) (fun _ hk => hk.2) (.int .i64 t208)) (fun _ hk => hk.1.1.1.1), bl_⟩
   ·replace c14 := Bool.eq_false_iff.mpr c14
    subst c14
    have H1 : (some (t205, t208, 0)) = some (r1, r2, r3) := by rw [if_neg (show ¬ (false = true) by decide)] at H; exact H
    clear H
    have H := H1
    clear H1
    simp only [Option.some.injEq, Prod.mk.injEq] at H
    obtain ⟨rfl, rfl, rfl⟩ := H
    go_enter Tryd.func50, Tryd.ntmps50
    go_wp2_with (first | ((with_reducible refine gate_dst (N := 2) rfl ?_); refine be_ #[.slice A0 l0.length c0] 22 ?_; intro gbs hg ws hbox hb; have n0_ := Aside0.mk (Kd.V_below HO0.out hb); have n1_ := hb_ hb; have hcs_0 : ws.cell? ⟨gbs, 0, none⟩ = some (.slice A0 l0.length c0) := (blk_cell hbox 0).trans rfl; have HCS := Aside0.mk hcs_0; have HBS := Aside0.mk (Below.refl ws.heap.size ws); clear HO0; clear HB; have HO0 := n0_; have HB := n1_; clear n0_ n1_; clear hb hbox hg) | ((with_reducible refine gate_dst (N := 4) rfl ?_); refine be_ #[.slice none 0 0, .int .i64 0] 60 ?_; intro gb204 hg w22 hbox hb; have q0_ := Aside0.mk (below_step (by repeat (first | (with_reducible first | exact HBS.out | apply below_alloc | apply pw_below_drewN | apply below_drew1) | exact HBS.out)) hb); have GS204 := Aside0.mk ((by rw [hg]; exact (below_size (by repeat (first | (with_reducible first | exact HBS.out | apply below_alloc | apply pw_below_drewN | apply below_drew1) | exact HBS.out)))) : ws.heap.size ≤ gb204); clear HBS; have HBS := q0_; clear q0_; (try have hcs_1 : w22.cell? ⟨gbs, 0, none⟩ = some (.slice A0 l0.length c0) := (HBS.out.cell (World.block_lt_of_cell? ws _ HCS.out)).trans HCS.out); replace HO0 := ve_ HO0 hg hb; have BK204 := Aside0.mk (hbox); have GW204 := gw_ hg; have GE204 := gw_ hg; replace HB := hb_ hb; clear hb hbox hg) | ((with_reducible refine gate_callee (f := 43) rfl ?_); refine goesL_ (some 10) rfl rfl Tryd.func43 (by kernel_rfl) rfl #[.slice A0 l0.length c0] rfl (as_) ?_; (with_reducible refine (turn_read.calls k (fun k_ => ((P0_ k_ ∨ w.heap.size ≤ k_) ∧ k_ ≠ gb204)) _ _ l0 t205 t208 t209 _ ?side1 A3.out).mono ?_); (case side1 => exact HO0.out); rintro e w23 ⟨v206, rfl, ho0, hb⟩; refine ⟨_, rfl, ?_⟩; have q0_ := Aside0.mk (below_step (by repeat (first | (with_reducible first | exact HBS.out | apply below_alloc | apply pw_below_drewN | apply below_drew1) | exact HBS.out)) hb); clear HBS; have HBS := q0_; clear q0_; replace HO0 := Aside0.mk (Kd.V_below (kv_ HO0.out) hb); have HO207 := Aside0.mk (Kd.V_lower (Kd.V_mono (ok' := fun k_ => (P0_ k_ ∨ w.heap.size ≤ k_) ∧ k_ ≠ gb204) ho0 (fun k_ hk_ => ⟨Or.elim hk_ (fun hs_ => hs_.1) (fun hn_ => (.inr (Nat.le_trans (below_size (bl_)) hn_))), Or.elim hk_ (fun hs_ => hs_.2) (fun hn_ => (Kd.freshB (g := gb204) (o := .cells #[.slice none 0 0, .int .i64 0] 60 (0, 0)) (bk_ BK204.out) k_ hn_))⟩)) (below_size (bl_))); replace BK204 := bb_ BK204 hb; replace HB := hb_ hb; clear hb ho0) | ((with_reducible refine gate_dst (N := 6) rfl ?_); refine be_ #[.slice none 0 0, .int .i64 0] 60 ?_; intro gb210 hg w24 hbox hb; have q0_ := Aside0.mk (below_step (by repeat (first | (with_reducible first | exact HBS.out | apply below_alloc | apply pw_below_drewN | apply below_drew1) | exact HBS.out)) hb); have GS210 := Aside0.mk ((by rw [hg]; exact (below_size (by repeat (first | (with_reducible first | exact HBS.out | apply below_alloc | apply pw_below_drewN | apply below_drew1) | exact HBS.out)))) : ws.heap.size ≤ gb210); clear HBS; have HBS := q0_; clear q0_; (try have hcs_1 : w24.cell? ⟨gbs, 0, none⟩ = some (.slice A0 l0.length c0) := (HBS.out.cell (World.block_lt_of_cell? ws _ HCS.out)).trans HCS.out); replace HO0 := ve_ HO0 hg hb; replace HO207 := ve_ HO207 hg hb; have BK210 := Aside0.mk (hbox); have GW210 := gw_ hg; have GE210 := gw_ hg; replace HB := hb_ hb; have NB204_210 := nl_ hg BK204; have NB210_204 := sy_ NB204_210; replace BK204 := bb_ BK204 hb; clear hb hbox hg; obtain ⟨Ao25, co25, eo25⟩ := Kd.V_slice HO207.out; subst eo25; have hnb26 := NB210_204.out; have hnc26 := NB204_210.out; have hcz27_0 := bc_ BK210 0 (.slice none 0 0); have hcz27_1 := bc_ BK210 1 (.int .i64 0); have hfz27_0 := bz_ BK210 0; have hfz27_1 := bz_ BK210 1) | ((with_reducible refine gate_callee (f := 63) rfl ?_); refine goesL_ (some 26) rfl rfl Tryd.func63 (by kernel_rfl) rfl #[.slice A1 l1.length c1, .func (.func 73) #[] #[.pointer (some ⟨gbs, 0, none⟩)]] rfl (as_) ?_; (with_reducible refine (slices_ContainsFunc_int_int_W.calls k _ _ l1 A0 c0 l0 false _ ⟨gbs, 0, none⟩ ?sidep ?side1 ?side2 ?side3 ?side4 A13.out).mono ?_); (case sidep => exact ((Below.cell (by repeat (first | (with_reducible first | exact HBS.out | apply below_alloc | apply pw_below_drewN | apply below_drew1 | refine below_set ?_ GS204.out | refine below_set ?_ GS210.out) | exact HBS.out)) (World.block_lt_of_cell? ws _ HCS.out)).trans HCS.out)); (case side1 => exact Kd.C_below HR1.out (bl_)); (case side2 => exact HC1.out); (case side3 => refine (Kd.V_reads' (e := 3) (base := w.heap.size) (ok := fun k_ => (((P0_ k_ ∨ w.heap.size ≤ k_) ∧ k_ ≠ gb204) ∧ k_ ≠ gb210)) (n := l0.length) (c := c0) ?_).2.2; exact (by refine kv_ ?_; exact (Kd.V_mono (Kd.V_far (p := ⟨gb210, 1, none⟩) (Kd.V_far (p := ⟨gb210, 0, none⟩) (Kd.V_mono HO0.out (fun k_ hk => (⟨hk, hk.2⟩ : _ ∧ k_ ≠ gb210))) (fun _ hk => hk.2) (.slice Ao25 t205.length co25)) (fun _ hk => hk.2) (.int .i64 t208)) (fun _ h_ => h_.1)))); (case side4 => exact (Kd.V_reads' HO0.out).2.1); rintro e w' ⟨rfl, ⟨nd, rfl⟩⟩; refine ⟨_, rfl, ?_⟩; have hcz28_0 := bc_ BK204 0 (.slice none 0 0); have hcz28_1 := bc_ BK204 1 (.int .i64 0); have hfz28_0 := bz_ BK204 0; have hfz28_1 := bz_ BK204 1))
    refine bodyPost_ret (results_ct rfl _ _ gb204 60 #[.slice Ao25 t205.length co25, .int .i64 t208] (0, 0) _ rfl (by refine bk_ ?_; refine blk_put (cs := #[.slice Ao25 t205.length co25, .int .i64 0]) ?_ 1 _ rfl; refine bk_ ?_; refine blk_put (cs := #[.slice none 0 0, .int .i64 0]) ?_ 0 _ rfl; refine bk_ ?_; refine blk_far ?_ NB204_210.out _; refine bk_ ?_; refine blk_far ?_ NB204_210.out _; refine bk_ ?_; exact BK204.out) Tryd.underlying60 rfl (by kernel_rfl)) rfl ?_
    exact ⟨_, er_, by refine kv_ ?_; exact Kd.V_mono (Kd.V_far (p := ⟨gb204, 1, none⟩) (Kd.V_far (p := ⟨gb204, 0, none⟩) (Kd.V_far (p := ⟨gb210, 1, none⟩) (Kd.V_far (p := ⟨gb210, 0, none⟩) (Kd.V_mono (Kd.V_mono HO207.out (fun k_ hk => (⟨hk, hk.2⟩ : _ ∧ k_ ≠ gb210))) (fun k_ hk => (⟨hk, hk.1.1.2⟩ : _ ∧ k_ ≠ gb204))) (fun _ hk => hk.1.2) (.slice Ao25 t205.length co25)) (fun _ hk => hk.1.2) (.int .i64 t208)) (fun _ hk => hk.2) (.slice Ao25 t205.length co25)) (fun _ hk => hk.2) (.int .i64 t208)) (fun _ hk => hk.1.1.1.1), bl_⟩
 ·rw [if_neg c4] at H
  have c4b0 : (t209 == 0) = false := beq_eq_false_iff_ne.mpr c4
  have c4b1 : (t209 != 0) = true := bne_iff_ne.mpr c4
  simp only [Option.some.injEq, Prod.mk.injEq] at H
  obtain ⟨rfl, rfl, rfl⟩ := H
  go_enter Tryd.func50, Tryd.ntmps50
  go_wp2_with (first | ((with_reducible refine gate_dst (N := 2) rfl ?_); refine be_ #[.slice A0 l0.length c0] 22 ?_; intro gbs hg ws hbox hb; have n0_ := Aside0.mk (Kd.V_below HO0.out hb); have n1_ := hb_ hb; have hcs_0 : ws.cell? ⟨gbs, 0, none⟩ = some (.slice A0 l0.length c0) := (blk_cell hbox 0).trans rfl; have HCS := Aside0.mk hcs_0; have HBS := Aside0.mk (Below.refl ws.heap.size ws); clear HO0; clear HB; have HO0 := n0_; have HB := n1_; clear n0_ n1_; clear hb hbox hg) | ((with_reducible refine gate_dst (N := 4) rfl ?_); refine be_ #[.slice none 0 0, .int .i64 0] 60 ?_; intro gb204 hg w29 hbox hb; have q0_ := Aside0.mk (below_step (by repeat (first | (with_reducible first | exact HBS.out | apply below_alloc | apply pw_below_drewN | apply below_drew1) | exact HBS.out)) hb); have GS204 := Aside0.mk ((by rw [hg]; exact (below_size (by repeat (first | (with_reducible first | exact HBS.out | apply below_alloc | apply pw_below_drewN | apply below_drew1) | exact HBS.out)))) : ws.heap.size ≤ gb204); clear HBS; have HBS := q0_; clear q0_; (try have hcs_1 : w29.cell? ⟨gbs, 0, none⟩ = some (.slice A0 l0.length c0) := (HBS.out.cell (World.block_lt_of_cell? ws _ HCS.out)).trans HCS.out); replace HO0 := ve_ HO0 hg hb; have BK204 := Aside0.mk (hbox); have GW204 := gw_ hg; have GE204 := gw_ hg; replace HB := hb_ hb; clear hb hbox hg) | ((with_reducible refine gate_callee (f := 43) rfl ?_); refine goesL_ (some 10) rfl rfl Tryd.func43 (by kernel_rfl) rfl #[.slice A0 l0.length c0] rfl (as_) ?_; (with_reducible refine (turn_read.calls k (fun k_ => ((P0_ k_ ∨ w.heap.size ≤ k_) ∧ k_ ≠ gb204)) _ _ l0 t205 t208 t209 _ ?side1 A3.out).mono ?_); (case side1 => exact HO0.out); rintro e w30 ⟨v206, rfl, ho0, hb⟩; refine ⟨_, rfl, ?_⟩; have q0_ := Aside0.mk (below_step (by repeat (first | (with_reducible first | exact HBS.out | apply below_alloc | apply pw_below_drewN | apply below_drew1) | exact HBS.out)) hb); clear HBS; have HBS := q0_; clear q0_; replace HO0 := Aside0.mk (Kd.V_below (kv_ HO0.out) hb); have HO207 := Aside0.mk (Kd.V_lower (Kd.V_mono (ok' := fun k_ => (P0_ k_ ∨ w.heap.size ≤ k_) ∧ k_ ≠ gb204) ho0 (fun k_ hk_ => ⟨Or.elim hk_ (fun hs_ => hs_.1) (fun hn_ => (.inr (Nat.le_trans (below_size (bl_)) hn_))), Or.elim hk_ (fun hs_ => hs_.2) (fun hn_ => (Kd.freshB (g := gb204) (o := .cells #[.slice none 0 0, .int .i64 0] 60 (0, 0)) (bk_ BK204.out) k_ hn_))⟩)) (below_size (bl_))); replace BK204 := bb_ BK204 hb; replace HB := hb_ hb; clear hb ho0) | ((with_reducible refine gate_dst (N := 6) rfl ?_); refine be_ #[.slice none 0 0, .int .i64 0] 60 ?_; intro gb210 hg w31 hbox hb; have q0_ := Aside0.mk (below_step (by repeat (first | (with_reducible first | exact HBS.out | apply below_alloc | apply pw_below_drewN | apply below_drew1) | exact HBS.out)) hb); have GS210 := Aside0.mk ((by rw [hg]; exact (below_size (by repeat (first | (with_reducible first | exact HBS.out | apply below_alloc | apply pw_below_drewN | apply below_drew1) | exact HBS.out)))) : ws.heap.size ≤ gb210); clear HBS; have HBS := q0_; clear q0_; (try have hcs_1 : w31.cell? ⟨gbs, 0, none⟩ = some (.slice A0 l0.length c0) := (HBS.out.cell (World.block_lt_of_cell? ws _ HCS.out)).trans HCS.out); replace HO0 := ve_ HO0 hg hb; replace HO207 := ve_ HO207 hg hb; have BK210 := Aside0.mk (hbox); have GW210 := gw_ hg; have GE210 := gw_ hg; replace HB := hb_ hb; have NB204_210 := nl_ hg BK204; have NB210_204 := sy_ NB204_210; replace BK204 := bb_ BK204 hb; clear hb hbox hg; obtain ⟨Ao32, co32, eo32⟩ := Kd.V_slice HO207.out; subst eo32; have hnb33 := NB210_204.out; have hnc33 := NB204_210.out; have hcz34_0 := bc_ BK210 0 (.slice none 0 0); have hcz34_1 := bc_ BK210 1 (.int .i64 0); have hfz34_0 := bz_ BK210 0; have hfz34_1 := bz_ BK210 1; have hcz35_0 := bc_ BK204 0 (.slice none 0 0); have hcz35_1 := bc_ BK204 1 (.int .i64 0); have hfz35_0 := bz_ BK204 0; have hfz35_1 := bz_ BK204 1))
  refine bodyPost_ret (results_ct rfl _ _ gb204 60 #[.slice Ao32 t205.length co32, .int .i64 t208] (0, 0) _ rfl (by refine bk_ ?_; refine blk_put (cs := #[.slice Ao32 t205.length co32, .int .i64 0]) ?_ 1 _ rfl; refine bk_ ?_; refine blk_put (cs := #[.slice none 0 0, .int .i64 0]) ?_ 0 _ rfl; refine bk_ ?_; refine blk_far ?_ NB204_210.out _; refine bk_ ?_; refine blk_far ?_ NB204_210.out _; refine bk_ ?_; exact BK204.out) Tryd.underlying60 rfl (by kernel_rfl)) rfl ?_
  exact ⟨_, er_, by refine kv_ ?_; exact Kd.V_mono (Kd.V_far (p := ⟨gb204, 1, none⟩) (Kd.V_far (p := ⟨gb204, 0, none⟩) (Kd.V_far (p := ⟨gb210, 1, none⟩) (Kd.V_far (p := ⟨gb210, 0, none⟩) (Kd.V_mono (Kd.V_mono HO207.out (fun k_ hk => (⟨hk, hk.2⟩ : _ ∧ k_ ≠ gb210))) (fun k_ hk => (⟨hk, hk.1.1.2⟩ : _ ∧ k_ ≠ gb204))) (fun _ hk => hk.1.2) (.slice Ao32 t205.length co32)) (fun _ hk => hk.1.2) (.int .i64 t208)) (fun _ hk => hk.2) (.slice Ao32 t205.length co32)) (fun _ hk => hk.2) (.int .i64 t208)) (fun _ hk => hk.1.1.1.1), bl_⟩

/-! ### turn_table_owed: function 57 -/
def turn_table_owed.f (l0_0 : List Int) (a0_1 : Int) (a1 : Int) (a2 : Int) (a3 : Int) : Option (Int) := if 0 ≤ a1 then (if a1 < (l0_0.length : Int) then (some (wrap64 ((wrap64 ((rd l0_0 a1) * a2)) - (wrap64 (a3 * a0_1))))) else (none)) else (none)
set_option maxHeartbeats 8000000 in
set_option maxRecDepth 100000 in
theorem turn_table_owed.calls (A0_0 : Option Addr) (c0_0 : Nat) (l0_0 : List Int) (a0_1 : Int) (a1 : Int) (a2 : Int) (a3 : Int) (r : Int) (w : World) (hr0_0 : Kd.C (Kd.int .i64) w A0_0 l0_0.length l0_0) (hc0_0 : l0_0.length ≤ c0_0) (h : turn_table_owed.f l0_0 a0_1 a1 a2 a3 = some r) :
    Calls Tryd.prog 57 #[.agg #[.slice A0_0 l0_0.length c0_0, .int .i64 a0_1], .int .i64 a1, .int .i64 a2, .int .i64 a3] w fun e w' => e = .returned (.int .i64 r) ∧ Below w.heap.size w w' := by
 have hu60 := Tryd.underlying60
 have HR0_0 := Aside0.mk hr0_0
 have HC0_0 := Aside0.mk hc0_0
 clear hr0_0 hc0_0
 have HB := Aside0.mk (Below.refl w.heap.size w)
 have H : (if 0 ≤ a1 then (if a1 < (l0_0.length : Int) then (some (wrap64 ((wrap64 ((rd l0_0 a1) * a2)) - (wrap64 (a3 * a0_1))))) else (none)) else (none)) = some r := h
 clear h
 obtain ⟨c5b0, H⟩ := fp_ H
 obtain ⟨c6b0, H⟩ := fp_ H
 obtain rfl := Option.some.inj H
 go_enter Tryd.func57, Tryd.ntmps57
 go_wp2_with (first | ((with_reducible refine gate_dst (N := 4) rfl ?_); refine be_ #[.slice A0_0 l0_0.length c0_0, .int .i64 a0_1] 60 ?_; intro gb212 hg w7 hbox hb; have BK212 := Aside0.mk (hbox); have GW212 := gw_ hg; have GE212 := gw_ hg; replace HB := hb_ hb; clear hb hbox hg; have hcz8_0 := bc_ BK212 0 (.slice A0_0 l0_0.length c0_0); have hcz8_1 := bc_ BK212 1 (.int .i64 a0_1); have hfz8_0 := bz_ BK212 0; have hfz8_1 := bz_ BK212 1; have p213 : 0 ≤ (a1 : Int) := od_; have q213 : a1 < (l0_0.length : Int) := od_; obtain ⟨ad213, e213, hx213_0⟩ := Kd.at_int HR0_0.out a1 p213 q213; cases e213; replace hx213_0 := hc_ HB hx213_0; replace p213 := eq_true p213; replace q213 := eq_true q213))
 repeat (go_quiet (first | ((with_reducible refine gate_dst (N := 4) rfl ?_); refine be_ #[.slice A0_0 l0_0.length c0_0, .int .i64 a0_1] 60 ?_; intro gb212 hg w7 hbox hb; have BK212 := Aside0.mk (hbox); have GW212 := gw_ hg; have GE212 := gw_ hg; replace HB := hb_ hb; clear hb hbox hg; have hcz8_0 := bc_ BK212 0 (.slice A0_0 l0_0.length c0_0); have hcz8_1 := bc_ BK212 1 (.int .i64 a0_1); have hfz8_0 := bz_ BK212 0; have hfz8_1 := bz_ BK212 1; have p213 : 0 ≤ (a1 : Int) := od_; have q213 : a1 < (l0_0.length : Int) := od_; obtain ⟨ad213, e213, hx213_0⟩ := Kd.at_int HR0_0.out a1 p213 q213; cases e213; replace hx213_0 := hc_ HB hx213_0; replace p213 := eq_true p213; replace q213 := eq_true q213)); try go_wp2_with (first | ((with_reducible refine gate_dst (N := 4) rfl ?_); refine be_ #[.slice A0_0 l0_0.length c0_0, .int .i64 a0_1] 60 ?_; intro gb212 hg w7 hbox hb; have BK212 := Aside0.mk (hbox); have GW212 := gw_ hg; have GE212 := gw_ hg; replace HB := hb_ hb; clear hb hbox hg; have hcz8_0 := bc_ BK212 0 (.slice A0_0 l0_0.length c0_0); have hcz8_1 := bc_ BK212 1 (.int .i64 a0_1); have hfz8_0 := bz_ BK212 0; have hfz8_1 := bz_ BK212 1; have p213 : 0 ≤ (a1 : Int) := od_; have q213 : a1 < (l0_0.length : Int) := od_; obtain ⟨ad213, e213, hx213_0⟩ := Kd.at_int HR0_0.out a1 p213 q213; cases e213; replace hx213_0 := hc_ HB hx213_0; replace p213 := eq_true p213; replace q213 := eq_true q213)))
 go_ret
 exact ⟨er_, bl_⟩

/-! ### turn_table_deviation_1: function 76 -/
def turn_table_deviation_1.f (a0 : Int) (a1 : Int) : Option (Int) := some (mx (mx a1 a0) (wrap64 (-a0)))
set_option maxHeartbeats 8000000 in
set_option maxRecDepth 100000 in
theorem turn_table_deviation_1.calls (a0 : Int) (a1 : Int) (r : Int) (w : World) (gm : Nat) (hm : w.heap[gm]? = some (.cells #[.int .i64 a1] 3 (0, 0))) (h : turn_table_deviation_1.f a0 a1 = some r) :
    Calls Tryd.prog 76 #[.int .i64 a0, .pointer (some ⟨gm, 0, none⟩)] w fun e w' => e = .returned (.tuple #[]) ∧ w' = w.setCell ⟨gm, 0, none⟩ (.int .i64 r) := by
 have BKm := Aside0.mk hm
 clear hm
 have H : (some (mx (mx a1 a0) (wrap64 (-a0)))) = some r := h
 clear h
 obtain ⟨ji3, hji3⟩ : ∃ j_ : Int, (mx a1 a0) = j_ := ⟨_, rfl⟩
 replace H : (some (mx (ji3) (wrap64 (-a0)))) = some r := by first | (rw [hji3] at H; exact H) | (simp only [hji3] at H ⊢; exact H)
 have hji3_ : (if a1 < a0 then a0 else a1) = ji3 := hji3
 obtain ⟨ji4, hji4⟩ : ∃ j_ : Int, (mx (ji3) (wrap64 (-a0))) = j_ := ⟨_, rfl⟩
 replace H : (some ji4) = some r := by first | (rw [hji4] at H; exact H) | (simp only [hji4] at H ⊢; exact H)
 have hji4_ : (if (ji3) < (wrap64 (-a0)) then (wrap64 (-a0)) else (ji3)) = ji4 := hji4
 obtain rfl := Option.some.inj H
 have hcm_0 : w.cell? ⟨gm, 0, none⟩ = some (.int .i64 a1) := (blk_cell BKm.out 0).trans rfl
 have hfm_0 := blk_frozen BKm.out 0
 go_enter Tryd.func76, Tryd.ntmps76
 go_wp2
 go_end0
 exact ⟨rfl, rfl⟩

/-! ### turn_table_each: function 75 -/
mutual
def turn_table_each.l0 : Nat → Int → List Int → List Int → Int → Int → List Int → Int → Option (Int)
  | 0, _, _, _, _, _, _, _ => none
  | k + 1, x2, x6, x15, x16, x17, x215000, x215001 => if x17 < x16 then (if 0 ≤ x17 then (if x17 < (x15.length : Int) then (if 0 ≤ (rd x15 x17) then (if (rd x15 x17) < (x6.length : Int) then ((some (x6.set ((rd x15 x17) : Int).toNat (wrap64 ((rd x6 (rd x15 x17)) + 1)) : List Int)).bind fun y220 => (turn_table_each.l1 k x2 y220 x17 x15 x16 x17 y220 (x6.length : Int) 0 x215000 x215001)) else (none)) else (none)) else (none)) else (none)) else (some x2)
def turn_table_each.l1 : Nat → Int → List Int → Int → List Int → Int → Int → List Int → Int → Int → List Int → Int → Option (Int)
  | 0, _, _, _, _, _, _, _, _, _, _, _ => none
  | k + 1, x2, x6, x7, x15, x16, x17, x28, x29, x30, x215000, x215001 => if x30 < x29 then (if 0 ≤ x30 then (if x30 < (x28.length : Int) then ((turn_table_owed.f x215000 x215001 x30 (wrap64 (x7 + 1)) (rd x28 x30)).bind fun t222 => ((turn_table_deviation_1.f t222 x2).bind fun t223 => (turn_table_each.l1 k t223 x6 x7 x15 x16 x17 x28 x29 (wrap64 (x30 + 1)) x215000 x215001))) else (none)) else (none)) else (turn_table_each.l0 k x2 x6 x15 x16 (wrap64 (x17 + 1)) x215000 x215001)
end
def turn_table_each.f (k : Nat) (l0_0 : List Int) (a0_1 : Int) (l1 : List Int) (a2 : Int) : Option (Int) := if 0 ≤ (l0_0.length : Int) then (if ((l0_0.length : Int) : Int).toNat ≤ 35184372088832 then (turn_table_each.l0 k a2 (List.replicate ((l0_0.length : Int) : Int).toNat 0) l1 (l1.length : Int) 0 l0_0 a0_1) else (none)) else (none)
theorem turn_table_each.mono_l : ∀ k, (∀ y0 y1 y2 y3 y4 y5 y6, LeO (turn_table_each.l0 k y0 y1 y2 y3 y4 y5 y6) (turn_table_each.l0 (k + 1) y0 y1 y2 y3 y4 y5 y6)) ∧ (∀ y0 y1 y2 y3 y4 y5 y6 y7 y8 y9 y10, LeO (turn_table_each.l1 k y0 y1 y2 y3 y4 y5 y6 y7 y8 y9 y10) (turn_table_each.l1 (k + 1) y0 y1 y2 y3 y4 y5 y6 y7 y8 y9 y10))
  | 0 => ⟨fun _ _ _ _ _ _ _ r h => by simp [turn_table_each.l0] at h, fun _ _ _ _ _ _ _ _ _ _ _ r h => by simp [turn_table_each.l1] at h⟩
  | k + 1 => by
    obtain ⟨ih0, ih1⟩ := turn_table_each.mono_l k
    refine ⟨?_, ?_⟩
    · intro y0 y1 y2 y3 y4 y5 y6
      unfold turn_table_each.l0
      with_reducible repeat' first | exact ih0 _ _ _ _ _ _ _ | exact ih1 _ _ _ _ _ _ _ _ _ _ _ | exact LeO.refl _ | exact LeO.none _ | refine LeO.ite ?_ ?_ | refine LeO.bind ?_ (fun _ => ?_)
    · intro y0 y1 y2 y3 y4 y5 y6 y7 y8 y9 y10
      unfold turn_table_each.l1
      with_reducible repeat' first | exact ih0 _ _ _ _ _ _ _ | exact ih1 _ _ _ _ _ _ _ _ _ _ _ | exact LeO.refl _ | exact LeO.none _ | refine LeO.ite ?_ ?_ | refine LeO.bind ?_ (fun _ => ?_)
theorem turn_table_each.mono : ∀ a0 a1 a2 a3 k, LeO (turn_table_each.f k a0 a1 a2 a3) (turn_table_each.f (k + 1) a0 a1 a2 a3) := by
  intro a0 a1 a2 a3 k
  obtain ⟨ih0, ih1⟩ := turn_table_each.mono_l k
  unfold turn_table_each.f
  with_reducible repeat' first | exact ih0 _ _ _ _ _ _ _ | exact ih1 _ _ _ _ _ _ _ _ _ _ _ | exact LeO.refl _ | exact LeO.none _ | refine LeO.ite ?_ ?_ | refine LeO.bind ?_ (fun _ => ?_)
/-- A call of a function value, as an arm of go_wp2_with. -/
theorem goesX_ {P : Program} {ops : Array Oper} {Q : Exit → Act → World → Prop} {rest : List Oper} {oi : Oper} {a : Act} {w : World} (N : Option Tmp) (hd : oi.dst = N) (hg : oi.guard = none) {f : FuncId} {fn : Func} {op : Operand} {xs : Array Operand} {ts : Array TypeId} {cap : Array Value} (hop : oi.op = .call { callee := .value op, args := xs, argTypes := ts }) (hv : a.eval op = .func (.func f) #[] cap) (hf : P.funcs[f]? = some fn) (hname : (fn.name == "runtime.NumGoroutine") = false) (hb : fn.body.isSome = true) (args : Array Value)
    (hargs : xs.map a.eval ++ cap = args)
    (h : Calls P f args w fun e w' => ∃ v, e = .returned v ∧ wpList P ops Q rest (a.put N v) w') : wpList P ops Q (oi :: rest) a w := by
  refine wpList_plain hg fun K hK => ?_
  have he := enters_ hf hname hb args w
  have hrun : (execOp a.eval oi).run P w = .ok (.enter f args) w := by
    unfold execOp
    have hv' : a.eval op = .func (.func f) #[] cap := hv
    simp [hop, resolve, Deferred.ofValue, invoke, Act.eval, ← hargs, he] at hv' ⊢
    simp [hv', invoke, Act.eval, hargs, he]
  unfold Oper.wp
  rw [hrun, Oper.upon_enter]
  refine h.mono fun e w'' hh => ?_
  obtain ⟨v, rfl, hk⟩ := hh
  subst hd
  exact hK _ _ hk
set_option maxHeartbeats 8000000 in
set_option maxRecDepth 100000 in
theorem turn_table_each.calls (k : Nat) (A0_0 : Option Addr) (c0_0 : Nat) (l0_0 : List Int) (a0_1 : Int) (A1 : Option Addr) (c1 : Nat) (l1 : List Int) (a2 : Int) (r : Int) (w0 w : World) (gm : Nat) (hb0 : Below w0.heap.size w0 w) (hgm : w0.heap.size ≤ gm) (hm : w.heap[gm]? = some (.cells #[.int .i64 a2] 3 (0, 0))) (hr0_0 : Kd.C (Kd.int .i64) w0 A0_0 l0_0.length l0_0) (hc0_0 : l0_0.length ≤ c0_0) (hr1 : Kd.C (Kd.int .i64) w0 A1 l1.length l1) (hc1 : l1.length ≤ c1) (h : turn_table_each.f k l0_0 a0_1 l1 a2 = some r) :
    Calls Tryd.prog 75 #[.agg #[.slice A0_0 l0_0.length c0_0, .int .i64 a0_1], .slice A1 l1.length c1, .func (.func 76) #[] #[.pointer (some ⟨gm, 0, none⟩)]] w fun e w' => e = .returned (.tuple #[]) ∧ w'.heap[gm]? = some (.cells #[.int .i64 r] 3 (0, 0)) ∧ Below w0.heap.size w0 w' := by
 have hu60 := Tryd.underlying60
 have HR0_0 := Aside0.mk hr0_0
 have HC0_0 := Aside0.mk hc0_0
 clear hr0_0 hc0_0
 have HR1 := Aside0.mk hr1
 have HC1 := Aside0.mk hc1
 clear hr1 hc1
 have HB := Aside0.mk hb0
 clear hb0
 have BKm := Aside0.mk hm
 clear hm
 have HGM := Aside0.mk hgm
 clear hgm
 have H : (if 0 ≤ (l0_0.length : Int) then (if ((l0_0.length : Int) : Int).toNat ≤ 35184372088832 then (turn_table_each.l0 k a2 (List.replicate ((l0_0.length : Int) : Int).toNat 0) l1 (l1.length : Int) 0 l0_0 a0_1) else (none)) else (none)) = some r := h
 clear h
 have c4 : 0 ≤ (l0_0.length : Int) := fl_ fun c4 => by rw [if_neg c4] at H; exact absurd H (by simp)
 rw [if_pos c4] at H
 have c4b0 := eq_true c4
 have c4b1 : decide (0 ≤ (l0_0.length : Int)) = true := decide_eq_true c4
 clear c4
 have c5 : ((l0_0.length : Int) : Int).toNat ≤ 35184372088832 := fl_ fun c5 => by rw [if_neg c5] at H; exact absurd H (by simp)
 rw [if_pos c5] at H
 have c5b0 := eq_true c5
 have c5b1 : decide (((l0_0.length : Int) : Int).toNat ≤ 35184372088832) = true := decide_eq_true c5
 clear c5
 obtain ⟨y215, hy215⟩ : ∃ y_ : List Int, y_ = (List.replicate ((l0_0.length : Int) : Int).toNat 0) := ⟨_, rfl⟩
 replace H : (turn_table_each.l0 k a2 y215 l1 (l1.length : Int) 0 l0_0 a0_1) = some r := by first | (rw [hy215]; with_reducible exact H) | (have H2_ := (Option.bind_some _ _).symm.trans H; rw [hy215]; with_reducible exact H2_) | (have H2_ := (Option.bind_some _ _).symm.trans H; with_reducible exact H2_) | with_reducible exact H | (rw [hy215]; exact H) | exact H
 have Ny215 := Aside0.mk hy215
 clear hy215
 have H' := Aside0.mk H
 clear H
 go_enter Tryd.func75, Tryd.ntmps75
 go_wp2_with (first | ((with_reducible refine gate_dst (N := 3) rfl ?_); refine be_ #[.slice A0_0 l0_0.length c0_0, .int .i64 a0_1] 60 ?_; intro gb214 hg w6 hbox hb; have m1_ := Aside0.mk ((by rw [hg]; exact Nat.ne_of_lt (blk_lt BKm.out)) : gm ≠ gb214); have m2_ := Aside0.mk (m1_.out.symm); have NEm := m1_; have NEn := m2_; clear m1_ m2_; have m0_ := Aside0.mk (blk_below (g := gm) (o := .cells #[.int .i64 a2] 3 (0, 0)) BKm.out hb); clear BKm; have BKm := m0_; clear m0_; have BK214 := Aside0.mk (hbox); have GW214 := Aside0.mk ((by rw [hg]; exact (below_size (bl_)) : w0.heap.size ≤ gb214)); have GE214 := Aside0.mk ((by rw [hg]; exact (below_size (bl_)) : w0.heap.size ≤ gb214)); replace HB := hb_ hb; clear hb hbox hg; have hcz7_0 := bc_ BK214 0 (.slice A0_0 l0_0.length c0_0); have hcz7_1 := bc_ BK214 1 (.int .i64 a0_1); have hfz7_0 := bz_ BK214 0; have hfz7_1 := bz_ BK214 1) | ((with_reducible refine gate_dst (N := 14) rfl ?_); refine Kd.R_make (Kd.int .i64) _ 3 rfl (N := 14) rfl 22 _ _ rfl (l0_0.length : Int) rfl rfl Tryd.underlying22 (.int .i64 0) 8 info3 rfl (by decide) (by omega) 0 (ok := fun k_ => k_ ≠ gm) (okp := fun _ => False) rfl (fun _ hk => hk.elim) (Nat.ne_of_gt (blk_lt BKm.out)) (od_) (Nat.le_trans (Nat.mul_le_mul_right _ (od_ : (l0_0.length : Int).toNat ≤ 35184372088832)) (by omega)) (Below.refl _ _) (Nat.le_refl _) ?_; intro v216 w8 ho9 hb hg_ hnew_; have m0_ := Aside0.mk (blk_below (g := gm) (o := .cells #[.int .i64 a2] 3 (0, 0)) BKm.out hb); clear BKm; have BKm := m0_; clear m0_; clear hg_ hnew_; (first | rw [← Ny215.out] at ho9 | (simp only [Int.reduceToNat] at ho9; rw [← Ny215.out] at ho9)); have HO217 := rl_ ho9; replace BK214 := bb_ BK214 hb; replace HB := hb_ hb; clear hb ho9))
 go_loopg [17] k (fun kq v17 w' => ∃ (x2_1 : Int) (x6_1 : List Int) (x17_1 : Int), v17 = .int .i64 x17_1 ∧ Aside0 (turn_table_each.l0 kq x2_1 x6_1 l1 (l1.length : Int) x17_1 l0_0 a0_1 = some r) ∧ Aside0 (kq ≤ k) ∧ Aside0 (Kd.R (Kd.int .i64) 3 w' w0.heap.size (fun k_ => k_ ≠ gm) v216 x6_1) ∧ Aside0 (w'.heap[gb214]? = some (.cells #[(.slice A0_0 l0_0.length c0_0), .int .i64 a0_1] 60 (0, 0))) ∧ Aside0 (w'.heap[gm]? = some (.cells #[.int .i64 x2_1] 3 (0, 0))) ∧ Aside0 (Below w0.heap.size w0 w'))
 case atStart => exact ⟨(a2), (y215), (0), rs_, H', ⟨Nat.le_refl _⟩, ⟨kr_ HO217.out⟩, ⟨bk_ BK214.out⟩, ⟨bk_ BKm.out⟩, ⟨bl_⟩⟩
 case round =>
  clear H'
  try clear c1
  try clear p2
  try clear c4
  try clear c4b0
  try clear c4b1
  try clear c5
  try clear c5b0
  try clear c5b1
  try clear c7
  try clear hcz7_0
  try clear hcz7_1
  try clear hfz7_0
  try clear hfz7_1
  obtain ⟨x2_1, x6_1, x17_1, rfl, HA, HK1, HO_6, BK214, BKm, HB⟩ := hrel
  cases gk with
  | zero => exact absurd HA.out (by simp [turn_table_each.l0])
  | succ k1 =>
   have H := HA.out
   clear HA
   simp only [turn_table_each.l0] at H
   by_cases c10 : x17_1 < (l1.length : Int)
   ·rw [if_pos c10] at H
    have c10b0 : decide (x17_1 < (l1.length : Int)) = true := decide_eq_true c10
    clear c10
    obtain ⟨c11b0, H⟩ := fp_ H
    obtain ⟨c12b0, H⟩ := fp_ H
    obtain ⟨c13b0, H⟩ := fp_ H
    obtain ⟨c14b0, H⟩ := fp_ H
    obtain ⟨y220, hy220⟩ : ∃ y_ : List Int, y_ = (x6_1.set ((rd l1 x17_1) : Int).toNat (wrap64 ((rd x6_1 (rd l1 x17_1)) + 1))) := ⟨_, rfl⟩
    replace H : (turn_table_each.l1 k1 x2_1 y220 x17_1 l1 (l1.length : Int) x17_1 y220 (x6_1.length : Int) 0 l0_0 a0_1) = some r := by first | (rw [hy220]; with_reducible exact H) | (have H2_ := (Option.bind_some _ _).symm.trans H; rw [hy220]; with_reducible exact H2_) | (have H2_ := (Option.bind_some _ _).symm.trans H; with_reducible exact H2_) | with_reducible exact H | (rw [hy220]; exact H) | exact H
    have Ny220 := Aside0.mk hy220
    clear hy220
    have H' := Aside0.mk H
    clear H
    have p218 : 0 ≤ (x17_1 : Int) := od_
    have q218 : x17_1 < (l1.length : Int) := od_
    obtain ⟨ad218, e218, hx218_0⟩ := Kd.at_int HR1.out x17_1 p218 q218
    cases e218
    replace hx218_0 := (HB.out.cell (World.block_lt_of_cell? w0 _ hx218_0)).trans hx218_0
    replace p218 := eq_true p218
    replace q218 := eq_true q218
    obtain ⟨Ao16, co16, eo16⟩ := Kd.R_slice HO_6.out
    subst eo16
    obtain ⟨ad219, e219, hx219_0, p219, q219⟩ := ai_ (Kd.R_reads' HO_6.out).2.2 (rd l1 x17_1)
    cases e219
    have p15 : 0 ≤ ((rd l1 x17_1) : Int) := od_
    have q15 : ((rd l1 x17_1) : Int) < ((x6_1.length : Int) : Int) := od_
    obtain ⟨go15, co15, eo15, gb15, gl15, cl15, HG15⟩ := Kd.R_form HO_6.out (by omega)
    (first | cases eo15 | (injection eo15 with ea_ en_ ec_; (first | subst ea_ | (injection ea_ with ea_; subst ea_)); subst ec_; clear en_))
    have GB15 := Aside0.mk gb15
    have GG15 := Aside0.mk HG15
    clear gb15 gl15 HG15
    (first | simp only [add_plain] at hx219_0 | skip)
    obtain ⟨hx15_0, hf15_0⟩ := Kd.R_celln 0 HO_6.out ((rd l1 x17_1) : Int) p15 q15
    replace p15 := eq_true p15
    replace q15 := eq_true q15
    have HP17 := Kd.R_putg HO_6.out ((rd l1 x17_1) : Int) (wrap64 ((rd x6_1 (rd l1 x17_1)) + 1))
    go_wp2_with (first | ((with_reducible refine gate_store (t := 3) (p := 27) rfl ?_); refine store_event (t := 3) (p := 27) (v := ?vo_w18) (w1 := (wr.setCell ⟨go15, ((rd l1 x17_1) : Int).toNat, none⟩ (.int .i64 (wrap64 ((rd x6_1 (rd l1 x17_1)) + 1))))) ?hg ?ho ?hn ?hr ?_; (case ho => rfl); (case hg => rfl); (case hn => rfl); (case hr => first | (go_simp; done) | (go_simp; rfl)); intro w18 hw; have hg : wr.grownBy w18 (some go15) := (by rw [hw]; have m0_ := Aside0.mk (blk_grown (g := gm) (o := .cells #[.int .i64 x2_1] 3 (0, 0)) BKm.out hg (fun he_ => (HO_6.out.1 go15 rfl) (Option.some.inj he_).symm)); clear BKm; have BKm := m0_; clear m0_; exact HP17.2); have hp_ : Kd.R (Kd.int .i64) 3 w18 w0.heap.size (fun k_ => k_ ≠ gm) (.slice (some ⟨go15, 0, none⟩) x6_1.length co16) y220 := (by rw [hw, Ny220.out]; exact HP17.1); clear HP17; replace BK214 := Aside0.mk (blk_grown (g := gb214) (o := .cells #[.slice A0_0 l0_0.length c0_0, .int .i64 a0_1] 60 (0, 0)) (bk_ BK214.out) hg (Kd.R_ne HO_6.out BK214.out (by decide))); replace HO_6 := Aside0.mk (hp_); replace HB := Aside0.mk ((by rw [hw]; exact below_set (HB.out) GB15.out : Below w0.heap.size w0 w18)); clear hg hw hp_))
    go_loopg [30] k1 (fun kq v30 w' => ∃ (x2_2 : Int) (x30_2 : Int), v30 = .int .i64 x30_2 ∧ Aside0 (turn_table_each.l1 kq x2_2 y220 x17_1 l1 (l1.length : Int) x17_1 y220 (x6_1.length : Int) x30_2 l0_0 a0_1 = some r) ∧ Aside0 (kq ≤ k1) ∧ Aside0 (Kd.R (Kd.int .i64) 3 w' w0.heap.size (fun k_ => k_ ≠ gm) (.slice (some ⟨go15, 0, none⟩) x6_1.length co16) y220) ∧ Aside0 (Kd.R (Kd.int .i64) 3 w' w0.heap.size (fun k_ => k_ ≠ gm) (.slice (some ⟨go15, 0, none⟩) x6_1.length co16) y220) ∧ Aside0 (w'.heap[gb214]? = some (.cells #[(.slice A0_0 l0_0.length c0_0), .int .i64 a0_1] 60 (0, 0))) ∧ Aside0 (w'.heap[gm]? = some (.cells #[.int .i64 x2_2] 3 (0, 0))) ∧ Aside0 (Below w0.heap.size w0 w'))
    case atStart => exact ⟨(x2_1), (0), rs_, H', ⟨Nat.le_refl _⟩, ⟨by refine kr_ ?_; first | exact HO_6.out | (rw [Ny220.out]; exact HP17.1)⟩, ⟨by refine kr_ ?_; first | exact HO_6.out | (rw [Ny220.out]; exact HP17.1)⟩, ⟨by refine bk_ ?_; first | exact BK214.out | exact blk_far BK214.out (blk_ne BK214.out GG15.out (by decide)) _⟩, ⟨by refine bk_ ?_; first | exact BKm.out | exact blk_far BKm.out (fun he_ => (HO_6.out.1 go15 rfl) he_.symm) _⟩, ⟨bl_⟩⟩
    case round =>
     clear H'
     try clear c1
     try clear p1
     try clear q1
     try clear hx1
     try clear p2
     try clear q2
     try clear hx2
     try clear c4
     try clear c4b0
     try clear c4b1
     try clear c5
     try clear c5b0
     try clear c5b1
     try clear p6
     try clear c7
     try clear c10
     try clear c10b0
     try clear c11
     try clear c11b0
     try clear c12
     try clear c12b0
     try clear c13
     try clear c13b0
     try clear c14
     try clear c14b0
     try clear p15
     try clear q15
     try clear hx15
     try clear hf15
     try clear hcz7_0
     try clear hcz7_1
     try clear hfz7_0
     try clear hfz7_1
     try clear hx15_0
     try clear hx218_0
     try clear hx219_0
     try clear p15
     try clear p2
     try clear p218
     try clear p219
     try clear q15
     try clear q218
     try clear q219
     obtain ⟨x2_2, x30_2, rfl, HA, HK2, HO_6, HO_28, BK214, BKm, HB⟩ := hrel
     have hl6_2 := (Kd.R_reads' HO_6.out).1
     rw [hl6_2] at HO_6
     (try simp only [hl6_2])
     (try simp only [hl6_2] at BK214)
     (try simp only [hl6_2] at HO_28)
     cases gk with
     | zero => exact absurd HA.out (by simp [turn_table_each.l1])
     | succ k2 =>
      have H := HA.out
      clear HA
      simp only [turn_table_each.l1] at H
      by_cases c19 : x30_2 < (x6_1.length : Int)
      ·rw [if_pos c19] at H
       have c19b0 : decide (x30_2 < (x6_1.length : Int)) = true := decide_eq_true c19
       have c19b0x : decide (x30_2 < (y220.length : Int)) = true := by rw [← hl6_2]; exact c19b0
       clear c19
       obtain ⟨c20b0, H⟩ := fp_ H
       obtain ⟨c21b0, H⟩ := fp_ H
       obtain ⟨t222, A22, H⟩ := bi_ H
       replace H : ((turn_table_deviation_1.f t222 x2_2).bind fun t223 => (turn_table_each.l1 k2 t223 y220 x17_1 l1 (l1.length : Int) x17_1 y220 (x6_1.length : Int) (wrap64 (x30_2 + 1)) l0_0 a0_1)) = some r := H
       obtain ⟨t223, A23, H⟩ := bi_ H
       replace H : (turn_table_each.l1 k2 t223 y220 x17_1 l1 (l1.length : Int) x17_1 y220 (x6_1.length : Int) (wrap64 (x30_2 + 1)) l0_0 a0_1) = some r := H
       have H' := Aside0.mk H
       clear H
       have p221 : 0 ≤ (x30_2 : Int) := od_
       have q221 : x30_2 < (y220.length : Int) := od_
       obtain ⟨ad221, e221, hx221_0⟩ := Kd.at_int (Kd.R_reads' HO_28.out).2.2 x30_2 p221 q221
       obtain rfl : (⟨go15, 0, none⟩ : Addr) = ad221 := (by injection e221)
       (first | simp only [add_plain] at hx221_0 | simp only [add_at] at hx221_0 | simp only [Addr.add, Nat.zero_add] at hx221_0 | skip)
       replace p221 := eq_true p221
       replace q221 := eq_true q221
       have hcz24_0 := bc_ BK214 0 (.slice A0_0 l0_0.length c0_0)
       have hcz24_1 := bc_ BK214 1 (.int .i64 a0_1)
       have hfz24_0 := bz_ BK214 0
       have hfz24_1 := bz_ BK214 1
       go_wp2_with (first | ((with_reducible refine gate_callee (f := 57) rfl ?_); refine goesL_ (some 41) rfl rfl Tryd.func57 (by kernel_rfl) rfl #[.agg #[.slice A0_0 l0_0.length c0_0, .int .i64 a0_1], .int .i64 x30_2, .int .i64 (wrap64 (x17_1 + 1)), .int .i64 (rd y220 x30_2)] rfl (as_) ?_; (with_reducible refine (turn_table_owed.calls _ _ l0_0 a0_1 x30_2 (wrap64 (x17_1 + 1)) (rd y220 x30_2) t222 _ ?side1 ?side2 A22.out).mono ?_); (case side1 => exact cb_ HR0_0.out); (case side2 => exact HC0_0.out); rintro e w25 ⟨rfl, hb⟩; refine ⟨_, rfl, ?_⟩; have m0_ := Aside0.mk (blk_below (g := gm) (o := .cells #[.int .i64 x2_2] 3 (0, 0)) BKm.out hb); clear BKm; have BKm := m0_; clear m0_; replace HO_6 := rb_ HO_6 hb; replace HO_28 := rb_ HO_28 hb; replace BK214 := bb_ BK214 hb; replace HB := hb_ hb; clear hb) | ((with_reducible refine gate_dst (N := 42) rfl ?_); refine goesX_ (some 42) rfl rfl rfl rfl Tryd.func76 (by kernel_rfl) rfl #[.int .i64 t222, .pointer (some ⟨gm, 0, none⟩)] (as_) ?_; (with_reducible refine (turn_table_deviation_1.calls t222 x2_2 t223 _ gm BKm.out A23.out).mono ?_); rintro e w26 ⟨rfl, hw⟩; refine ⟨_, rfl, ?_⟩; have n0_ := Aside0.mk (Kd.R_far (p := ⟨gm, 0, none⟩) HO_6.out (fun _ h_ => h_) (.int .i64 t223)); have n1_ := Aside0.mk (Kd.R_far (p := ⟨gm, 0, none⟩) HO_28.out (fun _ h_ => h_) (.int .i64 t223)); have n2_ := Aside0.mk (blk_far BK214.out (p := ⟨gm, 0, none⟩) NEn.out (.int .i64 t223)); have n3_ := Aside0.mk (blk_put BKm.out 0 (.int .i64 t223) rfl); have n4_ := Aside0.mk (below_set (j := 0) (v := .int .i64 t223) HB.out HGM.out); rw [← hw] at n0_ n1_ n2_ n3_ n4_; clear hw; clear HO_6; clear HO_28; clear BK214; clear BKm; clear HB; have HO_6 := n0_; have HO_28 := n1_; have BK214 := n2_; have BKm := n3_; have HB := n4_; clear n0_ n1_ n2_ n3_ n4_))
       (try simp only [← hl6_2])
       go_roundg k2
       case measure => have := HK1.out; have := HK2.out; omega
       case rel => exact ⟨(t223), (wrap64 (x30_2 + 1)), rs_, H', ⟨by have := HK1.out; have := HK2.out; omega⟩, ⟨by (try simp only [hl6_2]); refine kr_ ?_; exact HO_6.out⟩, ⟨by (try simp only [hl6_2]); refine kr_ ?_; exact HO_28.out⟩, ⟨by (try simp only [hl6_2]); refine bk_ ?_; exact BK214.out⟩, ⟨bk_ BKm.out⟩, ⟨bl_⟩⟩
      ·rw [if_neg c19] at H
       have c19b0 : decide (x30_2 < (x6_1.length : Int)) = false := decide_eq_false c19
       have c19b0x : decide (x30_2 < (y220.length : Int)) = false := by rw [← hl6_2]; exact c19b0
       clear c19
       have H' := Aside0.mk H
       clear H
       go_wp2
       (try simp only [← hl6_2])
       go_roundg k2
       case measure => have := HK1.out; have := HK2.out; omega
       case rel => exact ⟨(x2_2), (y220), (wrap64 (x17_1 + 1)), rs_, H', ⟨by have := HK1.out; have := HK2.out; omega⟩, ⟨by (try simp only [hl6_2]); refine kr_ ?_; exact HO_6.out⟩, ⟨by (try simp only [hl6_2]); refine bk_ ?_; exact BK214.out⟩, ⟨bk_ BKm.out⟩, ⟨bl_⟩⟩
   ·rw [if_neg c10] at H
    have c10b0 : decide (x17_1 < (l1.length : Int)) = false := decide_eq_false c10
    clear c10
    obtain rfl := Option.some.inj H
    go_wp2
    go_end0
    exact ⟨rfl, BKm.out, HB.out⟩

/-! ### turn_table_deviation: function 52 -/
def turn_table_deviation.f (k : Nat) (l0_0 : List Int) (a0_1 : Int) (l1 : List Int) : Option (Int) := (turn_table_each.f k l0_0 a0_1 l1 0).bind fun t225 => (some t225)
theorem turn_table_deviation.mono : ∀ a0 a1 a2 k, LeO (turn_table_deviation.f k a0 a1 a2) (turn_table_deviation.f (k + 1) a0 a1 a2) := by
  intro a0 a1 a2 k
  unfold turn_table_deviation.f
  with_reducible repeat' first | exact turn_table_each.mono _ _ _ _ _ | exact LeO.refl _ | exact LeO.none _ | refine LeO.ite ?_ ?_ | refine LeO.bind ?_ (fun _ => ?_)
set_option maxHeartbeats 8000000 in
set_option maxRecDepth 100000 in
theorem turn_table_deviation.calls (k : Nat) (A0_0 : Option Addr) (c0_0 : Nat) (l0_0 : List Int) (a0_1 : Int) (A1 : Option Addr) (c1 : Nat) (l1 : List Int) (r : Int) (w : World) (hr0_0 : Kd.C (Kd.int .i64) w A0_0 l0_0.length l0_0) (hc0_0 : l0_0.length ≤ c0_0) (hr1 : Kd.C (Kd.int .i64) w A1 l1.length l1) (hc1 : l1.length ≤ c1) (h : turn_table_deviation.f k l0_0 a0_1 l1 = some r) :
    Calls Tryd.prog 52 #[.agg #[.slice A0_0 l0_0.length c0_0, .int .i64 a0_1], .slice A1 l1.length c1] w fun e w' => e = .returned (.int .i64 r) ∧ Below w.heap.size w w' := by
 have hu60 := Tryd.underlying60
 have HR0_0 := Aside0.mk hr0_0
 have HC0_0 := Aside0.mk hc0_0
 clear hr0_0 hc0_0
 have HR1 := Aside0.mk hr1
 have HC1 := Aside0.mk hc1
 clear hr1 hc1
 have HB := Aside0.mk (Below.refl w.heap.size w)
 have H : ((turn_table_each.f k l0_0 a0_1 l1 0).bind fun t225 => (some t225)) = some r := h
 clear h
 obtain ⟨t225, A3, H⟩ := bi_ H
 replace H : (some t225) = some r := H
 obtain rfl := Option.some.inj H
 go_enter Tryd.func52, Tryd.ntmps52
 go_wp2_with (first | ((with_reducible refine gate_dst (N := 2) rfl ?_); refine be_ #[.slice A0_0 l0_0.length c0_0, .int .i64 a0_1] 60 ?_; intro gb224 hg w4 hbox hb; have BK224 := Aside0.mk (hbox); have GW224 := gw_ hg; have GE224 := gw_ hg; replace HB := hb_ hb; clear hb hbox hg; have hcz5_0 := bc_ BK224 0 (.slice A0_0 l0_0.length c0_0); have hcz5_1 := bc_ BK224 1 (.int .i64 a0_1); have hfz5_0 := bz_ BK224 0; have hfz5_1 := bz_ BK224 1) | ((with_reducible refine gate_dst (N := 5) rfl ?_); refine be_ #[.int .i64 0] 3 ?_; intro gm hg wm hbox hb; have BKm := Aside0.mk (hbox); have GEm := Aside0.mk ((by rw [hg]; exact (below_size (bl_))) : w.heap.size ≤ gm); replace HB := hb_ hb; have NEm := Aside0.mk ((by rw [hg]; exact Nat.ne_of_lt (blk_lt BK224.out)) : gb224 ≠ gm); replace BK224 := Aside0.mk (blk_below (g := gb224) (o := .cells #[.slice A0_0 l0_0.length c0_0, .int .i64 a0_1] 60 (0, 0)) BK224.out hb); clear hb hbox hg; have hcm_0 : wm.cell? ⟨gm, 0, none⟩ = some (.int .i64 0) := (blk_cell BKm.out 0).trans rfl; have hfm_0 := blk_frozen BKm.out 0; have hcn_0 : wm.cell? ⟨gb224, 0, none⟩ = some (.slice A0_0 l0_0.length c0_0) := (blk_cell BK224.out 0).trans rfl; have hcn_1 : wm.cell? ⟨gb224, 1, none⟩ = some (.int .i64 a0_1) := (blk_cell BK224.out 1).trans rfl; have hne_ := NEm.out; have hnf_ := NEm.out.symm) | ((with_reducible refine gate_callee (f := 75) rfl ?_); refine goesL_ (some 9) rfl rfl Tryd.func75 (by kernel_rfl) rfl #[.agg #[.slice A0_0 l0_0.length c0_0, .int .i64 a0_1], .slice A1 l1.length c1, .func (.func 76) #[] #[.pointer (some ⟨gm, 0, none⟩)]] rfl (as_) ?_; (with_reducible refine (turn_table_each.calls k _ _ l0_0 a0_1 _ _ l1 0 t225 w _ gm (below_set HB.out GEm.out) GEm.out (blk_put BKm.out 0 (.int .i64 0) rfl) HR0_0.out HC0_0.out HR1.out HC1.out A3.out).mono ?_); rintro e w6 ⟨rfl, hm_, hb⟩; refine ⟨_, rfl, ?_⟩; replace BKm := Aside0.mk hm_; replace HB := Aside0.mk hb; clear hm_ hb hcm_0 hcn_0 hcn_1; have hcm_1 : w6.cell? ⟨gm, 0, none⟩ = some (.int .i64 t225) := (blk_cell BKm.out 0).trans rfl))
 go_ret
 exact ⟨er_, bl_⟩

end Go.Proofs.YtgobffgogmnmpaaDoor.P
