-- Written by wip/tools/myprint.py of this session's repo, over the kit's printer and hand texts.
import Derived.Test.YtfopdfolbdmnjaaPx0
import Derived.Test.YtfopdfolbdmnjaaPx4
namespace Go.Proofs.Ytfopdfolbdmnjaa.P
open Go.RowKit Go.Proofs.YtfopdfolbdmnjaaW.PrintWords Go.Proofs.YtfopdfolbdmnjaaW.PrintLast Go.Proofs.YtfopdfolbdmnjaaW.PrintMore
attribute [local go_sem] max2_int min2_int max_two min_two max_three min_three max_four min_four   -- for this text's walks alone
set_option linter.unusedVariables false
set_option linter.unusedSimpArgs false

/-! ### shift_clock_first: function 49 -/
/-- The values of a call of solve, whatever they are. -/
def thr (t : Int × Int × Int × Int × Int × Int × Int × Int × Int × Int × Int × Int × Int × List Int × Bool) : Bool := t.2.2.2.2.2.2.2.2.2.2.2.2.2.2
mutual
def shift_clock_first.l0 : Nat → Int → List Int → Int → List Int → Int → Option (List Int)
  | 0, _, _, _, _, _ => none
  | k + 1, a1, x8, x27, l0, long => if x27 < (l0.length : Int) then shift_clock_first.l1 k a1 x8 0 x27 l0 long else some x8
def shift_clock_first.l1 : Nat → Int → List Int → Int → Int → List Int → Int → Option (List Int)
  | 0, _, _, _, _, _, _ => none
  | k + 1, a1, x8, x9, x27, l0, long => if x8.length < 17592186044415 then (shift_clock_bounds.f k l0 long a1 1 (x8 ++ [x9])).bind fun b => (shift_clock_solve.f k l0 long b).bind fun z => if thr z = true then shift_clock_first.l0 k a1 (x8 ++ [x9]) (wrap64 (x27 + 1)) l0 long else shift_clock_first.l1 k a1 x8 (wrap64 (x9 + 1)) x27 l0 long else none
end
def shift_clock_first.f (k : Nat) (l0_0 : List Int) (a0_1 : Int) (a1 : Int) : Option (List Int) :=
  (shift_clock_bounds.f k l0_0 a0_1 a1 1 ([] : List Int)).bind fun b => (shift_clock_solve.f k l0_0 a0_1 b).bind fun z => if thr z = true then shift_clock_first.l0 k a1 [] 0 l0_0 a0_1 else some []
theorem shift_clock_first.mono_l : ∀ k, (∀ y0 y1 y2 y3 y4, LeO (shift_clock_first.l0 k y0 y1 y2 y3 y4) (shift_clock_first.l0 (k + 1) y0 y1 y2 y3 y4)) ∧ (∀ y0 y1 y2 y3 y4 y5, LeO (shift_clock_first.l1 k y0 y1 y2 y3 y4 y5) (shift_clock_first.l1 (k + 1) y0 y1 y2 y3 y4 y5))
  | 0 => ⟨fun _ _ _ _ _ r h => by simp [shift_clock_first.l0] at h, fun _ _ _ _ _ _ r h => by simp [shift_clock_first.l1] at h⟩
  | k + 1 => by
    obtain ⟨ih0, ih1⟩ := shift_clock_first.mono_l k
    refine ⟨?_, ?_⟩
    · intro y0 y1 y2 y3 y4
      unfold shift_clock_first.l0
      exact LeO.ite (ih1 _ _ _ _ _ _) (LeO.refl _)
    · intro y0 y1 y2 y3 y4 y5
      unfold shift_clock_first.l1
      exact LeO.ite (LeO.bind (shift_clock_bounds.mono _ _ _ _ _ _) fun b => LeO.bind (shift_clock_solve.mono _ _ _ _) fun z => LeO.ite (ih0 _ _ _ _ _) (ih1 _ _ _ _ _ _)) (LeO.none _)
theorem shift_clock_first.mono : ∀ a0 a1 a2 k, LeO (shift_clock_first.f k a0 a1 a2) (shift_clock_first.f (k + 1) a0 a1 a2) := by
  intro a0 a1 a2 k
  unfold shift_clock_first.f
  exact LeO.bind (shift_clock_bounds.mono _ _ _ _ _ _) fun b => LeO.bind (shift_clock_solve.mono _ _ _ _) fun z => LeO.ite ((shift_clock_first.mono_l k).1 _ _ _ _ _) (LeO.refl _)
theorem solve_any (k : Nat) (A0_0 : Option Addr) (c0_0 : Nat) (l0_0 : List Int) (a0_1 : Int) (A1 : Option Addr) (c1 : Nat) (l1 : List (S72)) (z : Int × Int × Int × Int × Int × Int × Int × Int × Int × Int × Int × Int × Int × List Int × Bool) (w : World) (hr0_0 : Kd.C (Kd.int .i64) w A0_0 l0_0.length l0_0) (hc0_0 : l0_0.length ≤ c0_0) (hr1 : Kd.C k72 w A1 l1.length l1) (hc1 : l1.length ≤ c1) (bb : Bool) (hbb : thr z = bb) (h : shift_clock_solve.f k l0_0 a0_1 l1 = some z) :
    Calls Try.prog 47 #[.agg #[.slice A0_0 l0_0.length c0_0, .int .i64 a0_1], .slice A1 l1.length c1] w fun e w' => ∃ (v13_ : Value) (xs : List Int), e = .returned (.tuple #[.agg (nums .i64 xs).toArray, v13_, .bool bb]) ∧ xs.length = 13 ∧ Below w.heap.size w w' := by
  obtain ⟨r1, r2, r3, r4, r5, r6, r7, r8, r9, r10, r11, r12, r13, r14, r15⟩ := z
  subst hbb
  exact (shift_clock_solve.calls k A0_0 c0_0 l0_0 a0_1 A1 c1 l1 r1 r2 r3 r4 r5 r6 r7 r8 r9 r10 r11 r12 r13 r14 r15 w hr0_0 hc0_0 hr1 hc1 h).mono fun e w' ⟨v, h1, _, h3⟩ => ⟨v, [r1, r2, r3, r4, r5, r6, r7, r8, r9, r10, r11, r12, r13], h1, rfl, h3⟩
/-- What stands in memory while first runs. -/
structure FirstW (w W : World) (gb : Nat) (A : Option Addr) (n c : Nat) (long : Int) (v8 : Value) (x8 : List Int) : Prop where
  bx : W.heap[gb]? = some (.cells #[.slice A n c, .int .i64 long] 49 (0, 0))
  hb : Below w.heap.size w W
  ho : Kd.R (Kd.int .i64) 3 W w.heap.size (fun _ => True) v8 x8
theorem FirstW.below {w W W2 : World} {gb : Nat} {A : Option Addr} {n c : Nat} {long : Int} {v8 : Value} {x8 : List Int} (h : FirstW w W gb A n c long v8 x8) (hb : Below W.heap.size W W2) : FirstW w W2 gb A n c long v8 x8 := ⟨blk_below h.bx hb, below_then h.hb h.hb.size hb, Kd.R_below h.ho hb⟩
theorem FirstW.ne8 {w W : World} {gb : Nat} {A : Option Addr} {n c : Nat} {long : Int} {v8 : Value} {x8 : List Int} (h : FirstW w W gb A n c long v8 x8) : some gb ≠ v8.ownBlock := by
  intro e1
  rcases (Kd.own_of_R h.ho).2 with ⟨rfl, _⟩ | ⟨g, cap, cur, rfl, _, hh, _⟩
  · cases e1
  · have e2 : gb = g := by simpa [Value.ownBlock] using e1
    rw [← e2, h.bx] at hh
    injection hh with hh
    injection hh with _ ht
    exact absurd ht (by decide)
theorem FirstW.drew {w W : World} {gb : Nat} {A : Option Addr} {n c : Nat} {long : Int} {v8 : Value} {x8 : List Int} (h : FirstW w W gb A n c long v8 x8) : FirstW w W.drew gb A n c long v8 x8 := h.below (below_drew (Below.refl _ _))
theorem grown_below {W W2 : World} (h : W.grownBy W2 none) : Below W.heap.size W W2 := (Below.refl _ _).grown h (Nat.le_refl _) (fun k hk => by cases hk)
theorem first_ne {W : World} {k : IntKind} {e base : Nat} {ok : Nat → Prop} {v : Value} {xs : List Int} (h : (Kd.int k).R e W base ok v xs) (j : Nat) (hj : W.heap.size ≤ j) : some j ≠ v.ownBlock := by
  intro e1
  have := own_lt (Kd.own_of_R h) j e1.symm
  omega
/-- The blank variable's block. -/
structure FirstT (w W : World) (gb : Nat) (v8 : Value) (g : Nat) : Prop where
  bk : W.heap[g]? = some (.cells (nums .i64 (List.replicate 13 0)).toArray 60 (0, 0))
  n1 : gb ≠ g
  n2 : some g ≠ v8.ownBlock
  n3 : w.heap.size ≤ g
theorem FirstT.below {w W W2 : World} {gb g : Nat} {v8 : Value} (h : FirstT w W gb v8 g) (hb : Below W.heap.size W W2) : FirstT w W2 gb v8 g := ⟨blk_below h.bk hb, h.n1, h.n2, h.n3⟩
theorem FirstT.new {w W : World} {gb : Nat} {A : Option Addr} {n c : Nat} {long : Int} {v8 : Value} {x8 : List Int} (h : FirstW w W gb A n c long v8 x8) :
    FirstT w (W.alloc (.cells (nums .i64 (List.replicate 13 0)).toArray 60)) gb v8 W.heap.size :=
  ⟨blk_new _ _, Nat.ne_of_lt (blk_lt h.bx), first_ne h.ho _ (Nat.le_refl _), h.hb.size⟩
/-- Behind the store into it. -/
theorem FirstT.stored {w W : World} {gb g : Nat} {A : Option Addr} {n c : Nat} {long : Int} {v8 : Value} {x8 : List Int} (ht : FirstT w W gb v8 g) (h : FirstW w W gb A n c long v8 x8) (cs : Array Value) : FirstW w (W.setRow g cs) gb A n c long v8 x8 :=
  ⟨(setRow_other _ _ _ _ ht.n1).trans h.bx, below_setRow h.hb ht.n3 _, Kd.R_grown1 h.ho rfl ⟨rfl, rfl, rfl, by simp [World.setRow], fun i hi hne => setRow_other _ _ _ _ (fun e1 => hne (by rw [e1]))⟩ ht.n2⟩
theorem one_read (W : World) (y : Int) : Kd.C (Kd.int .i64) (W.alloc (.cells #[.int .i64 y] 3)) (some ⟨W.heap.size, 0, none⟩) 1 [y] := by
  have h := (Kd.R_reads' (Kd.R_of_own (own_lit W W.heap.size 3 .i64 [y] (Nat.le_refl _) (by simp)) (ok := fun _ => True) (h1 := fun _ => rfl) (fun _ _ => trivial))).2.2
  exact h
/-- append(xs[:n:n], y), as a run. -/
theorem exec_capped {P : Program} {W : World} (f : Operand → Value) (o : Oper) (s x : Operand) (t e : TypeId) (k : IntKind) (bytes : Nat)
    (ho : o.op = .call { callee := .builtin .append, args := #[s, x], argTypes := #[t, t] }) (ht : P.underlying t = some (.slice e)) (hinfo : (P.info? e).map (fun i => (i.zero, i.size, i.bytes)) = some (some (.int k 0), 1, bytes)) (hb0 : 0 < bytes)
    (A : Option Addr) (ys : List Int) (y : Int) (B : Option Addr) (c : Nat) (hs : f s = .slice A ys.length ys.length) (hx : f x = .slice B 1 c)
    (HR : (Kd.int k).C W A ys.length ys) (HX : (Kd.int k).C W B 1 [y]) (hl : (ys.length + 1) * bytes ≤ 140737488355328) :
    ∃ A1 c1 w1, (execOp f o).run P W = .ok (.value (.slice A1 (ys ++ [y]).length c1)) w1 ∧ (Kd.int k).C w1 A1 (ys ++ [y]).length (ys ++ [y]) ∧ (ys ++ [y]).length ≤ c1 ∧ W.grownBy w1 none := by
  obtain ⟨i0, hi, hzz⟩ := Option.map_eq_some_iff.1 hinfo
  simp only [Prod.mk.injEq] at hzz
  obtain ⟨hz0, hz1, hz2⟩ := hzz
  have hlen : ys.length + 1 ≤ 140737488355328 := Nat.le_trans (Nat.le_mul_of_pos_right _ hb0) hl
  have HR1 := Kd.reads_of_C (d := (0 : Int)) HR
  obtain ⟨ad, rfl, hc⟩ := (Kd.reads_of_C (d := (0 : Int)) HX).2.2 (by omega)
  have hc0 : ∀ j u, ([.int k y] : List Value)[j]? = some u → W.cell? (ad.add j) = some u := by
    intro j u hu
    have hj : j = 0 := by have := (List.getElem?_eq_some_iff.1 hu).1; simp at this; exact this
    subst hj
    rw [hc 0 (by omega)]
    simpa using hu
  have key : ∃ v1 w1, (Builtin.append_ #[t, t] o.type #[.slice A ys.length ys.length, .slice (some ad) 1 c]).run P W = .ok v1 w1 ∧ w1.ownsRow W.heap.size e 1 v1 (ys.length + 1) (encs (Value.int k) ys ++ [.int k y]) ∧ W.grownBy w1 none := by
    cases A with
    | some b =>
      refine run_append_arg_grows (P := P) W t o.type e i0 (.int k 0) 1 bytes ht hi hz0 hz1 hz2 rfl (by omega) b ys.length ys.length (encs (Value.int k) ys) (by rw [encs_length, Nat.mul_one]) ?_ ad 1 c [.int k y] rfl hc0 (by omega) (by simp only [maxLen]; omega) hl
      intro j u hu
      have hj : j < ys.length := by
        have := (List.getElem?_eq_some_iff.1 hu).1
        rwa [encs_length] at this
      obtain ⟨ad', h1, hc'⟩ := HR1.2.2 (by omega)
      injection h1 with h1
      subst h1
      rw [hc' j hj]
      rw [encs_get (d := (0 : Int)) ys j hj] at hu
      exact hu
    | none =>
      have h0 : ys.length = 0 := by
        rcases Nat.eq_zero_or_pos ys.length with h0 | h0
        · exact h0
        · obtain ⟨ad', h1, _⟩ := HR1.2.2 h0
          cases h1
      obtain rfl : ys = [] := List.eq_nil_of_length_eq_zero h0
      obtain ⟨v', w', hrun, r1, r2, _⟩ := run_append_own (P := P) W W.heap.size t o.type e i0 (.int k 0) 1 bytes ht hi hz0 hz1 hz2 rfl (by omega) (.slice none 0 0) 0 [] (World.ownsRow_nil W _ e 1) ad 1 c [.int k y] rfl hc0 (by intro u hu; rw [List.mem_singleton.1 hu]; rfl) (by simp only [maxLen]; omega) (by simpa using hl) (Nat.le_refl _)
      exact ⟨v', w', hrun, by simpa [encs] using r1, r2⟩
  obtain ⟨v1, w1, hrun, hown, hg⟩ := key
  have hown2 : w1.ownsRow W.heap.size e 1 v1 (ys ++ [y]).length (encs (Value.int k) (ys ++ [y])) := by simpa [encs] using hown
  have hR : Kd.R (Kd.int k) e w1 W.heap.size (fun _ => True) v1 (ys ++ [y]) := Kd.R_of_own hown2 (fun _ _ => trivial)
  obtain ⟨A1, c1, rfl⟩ := Kd.R_slice hR
  refine ⟨A1, c1, w1, ?_, (Kd.R_reads' hR).2.2, (Kd.R_reads' hR).2.1, hg⟩
  unfold execOp
  simp only [ho, resolve, invoke, builtin, Sem.run_bind, Sem.run_pure, Result.andThen_ok, List.map_toArray, List.map_cons, List.map_nil, hs, hx, hrun]
theorem step_capped {P : Program} {ops : Array Oper} {Q : Exit → Act → World → Prop} {W : World} {o : Oper} {N : Option Tmp} {a : Act} {K : Act → World → Prop} (hw : Region.wanted o (yielded ops a.tmps) = true) (hN : o.dst = N) (s x : Operand) (t e : TypeId) (k : IntKind) (bytes : Nat)
    (ho : o.op = .call { callee := .builtin .append, args := #[s, x], argTypes := #[t, t] }) (ht : P.underlying t = some (.slice e)) (hinfo : (P.info? e).map (fun i => (i.zero, i.size, i.bytes)) = some (some (.int k 0), 1, bytes)) (hb0 : 0 < bytes)
    (A : Option Addr) (ys : List Int) (y : Int) (B : Option Addr) (c : Nat) (hs : a.eval s = .slice A ys.length ys.length) (hx : a.eval x = .slice B 1 c)
    (HR : (Kd.int k).C W A ys.length ys) (HX : (Kd.int k).C W B 1 [y]) (hl : (ys.length + 1) * bytes ≤ 140737488355328)
    (h : ∀ A1 c1 w1, (Kd.int k).C w1 A1 (ys ++ [y]).length (ys ++ [y]) → (ys ++ [y]).length ≤ c1 → W.grownBy w1 none → K (a.put N (.slice A1 (ys ++ [y]).length c1)) w1) :
    if Region.wanted o (yielded ops a.tmps) = true then Oper.wp P o a W K Q else K (a.put N undef) W := by
  obtain ⟨A1, c1, w1, hrun, h1, h2, h3⟩ := exec_capped (P := P) (W := W) a.eval o s x t e k bytes ho ht hinfo hb0 A ys y B c hs hx HR HX hl
  exact value_ hw hN hrun (h A1 c1 w1 h1 h2 h3)
def shift_clock_first.T8 : Bool × List (List Nat × List Nat) := (true, [([], []), ([], []), ([], []), ([], []), ([], []), ([4], [4]), ([], []), ([6], [6]), ([3, 5, 7], [3, 5, 7]), ([], []), ([9], [9]), ([8, 10], [8, 10]), ([1, 2, 11, 11], [1, 2, 11]), ([0, 12, 12], [0, 12]), ([13], [13]), ([14], [14]), ([14], [14]), ([14], [14]), ([], []), ([18, 15, 13, 0, 1, 2, 3, 4, 5, 6, 7, 8, 9, 10, 11, 12, 13, 14, 15, 18], [15, 18]), ([16, 19, 0, 1, 2, 3, 4, 5, 6, 7, 8, 9, 10, 11, 12, 13, 14, 15, 16, 18, 19], [16]), ([17, 20, 0, 1, 2, 3, 4, 5, 6, 7, 8, 9, 10, 11, 12, 13, 14, 15, 16, 17, 18, 19, 20], [17])])
def shift_clock_first.B8 : List Nat := [0, 0, 0, 0, 0, 16, 0, 64, 248, 0, 512, 2040, 4094, 8191, 16383, 32767, 32767, 32767, 0, 327679, 917503, 2097151]
theorem shift_clock_first.tab8 : rtab .any (opsOf Try.f49 8) = shift_clock_first.T8 := by kernel_rfl
theorem shift_clock_first.bits8 : waitsOk shift_clock_first.T8.2 shift_clock_first.B8 = true := by kernel_rfl
def shift_clock_first.T1 : Bool × List (List Nat × List Nat) := (true, [([], []), ([], []), ([], []), ([1, 2], [1, 2]), ([0, 3, 3], [0, 3]), ([4], [4]), ([5], [5]), ([5], [5]), ([5], [5]), ([], []), ([9, 6, 4, 0, 1, 2, 3, 4, 5, 6, 9], [6, 9]), ([7, 10, 0, 1, 2, 3, 4, 5, 6, 7, 9, 10], [7]), ([8, 11, 0, 1, 2, 3, 4, 5, 6, 7, 8, 9, 10, 11], [8])])
def shift_clock_first.B1 : List Nat := [0, 0, 0, 6, 15, 31, 63, 63, 63, 0, 639, 1791, 4095]
theorem shift_clock_first.tab1 : rtab .any (opsOf Try.f49 1) = shift_clock_first.T1 := by kernel_rfl
theorem shift_clock_first.bits1 : waitsOk shift_clock_first.T1.2 shift_clock_first.B1 = true := by kernel_rfl
set_option maxHeartbeats 8000000 in
set_option maxRecDepth 100000 in
theorem shift_clock_first.walk (k : Nat) (A0_0 : Option Addr) (c0_0 : Nat) (l0_0 : List Int) (a0_1 : Int) (a1 : Int) (r : List Int) (w : World) (hr0_0 : Kd.C (Kd.int .i64) w A0_0 l0_0.length l0_0) (hc0_0 : l0_0.length ≤ c0_0) (h : shift_clock_first.f k l0_0 a0_1 a1 = some r) :
    Calls Try.prog 49 #[.agg #[.slice A0_0 l0_0.length c0_0, .int .i64 a0_1], .int .i64 a1] w fun e w' => ∃ v0_ : Value, e = .returned (v0_) ∧ Kd.R (Kd.int .i64) 3 w' w.heap.size (fun _ => True) v0_ r ∧ (r = [] → v0_ = .slice none 0 0) ∧ Below w.heap.size w w' := by
  have hu49 := Try.underlying49
  have hu60 := Try.underlying60
  have HR0 := Aside0.mk hr0_0
  have HC0 := Aside0.mk hc0_0
  clear hr0_0 hc0_0
  unfold shift_clock_first.f at h
  obtain ⟨b0, hb0, h1⟩ := Option.bind_eq_some_iff.1 h
  obtain ⟨z0, hz0, h2⟩ := Option.bind_eq_some_iff.1 h1
  have HF1 := Aside0.mk hb0
  have HF2 := Aside0.mk hz0
  have HF3 := Aside0.mk h2
  obtain ⟨tb0, htb0⟩ : ∃ b, thr z0 = b := ⟨_, rfl⟩
  have HT0 := Aside0.mk htb0
  clear hb0 hz0 h h1 h2 htb0
  go_enter Try.func49, Try.ntmps49
  go_wp2_with (first | ((with_reducible refine gate_dst (N := 2) rfl ?_); refine box_event ?hg (N := 2) ?hd (cs := #[.slice A0_0 l0_0.length c0_0, .int .i64 a0_1]) (t := 49) ?hr ?_; (case hd => rfl); (case hg => rfl); (case hr => first | (go_simp; done) | (go_simp; rfl)); intro gb hg w6 hbox hb; have HF := Aside0.mk (show FirstW w w6 gb A0_0 l0_0.length c0_0 a0_1 (.slice none 0 0) [] from ⟨hbox, hb, Kd.R_nil _ _ _ _ _⟩); clear hg hbox hb))
  refine start_ (n := 13) (S := fun w' => w'.heap[gb]? = some (.cells #[.slice A0_0 l0_0.length c0_0, .int .i64 a0_1] 49 (0, 0))) (ds := []) #[false, false, false, false, false, false, false, false, false, false, false, false, false] (by kernel_rfl) rfl rfl HF.out.bx (fun hHeld => ?_)
  refine with_tabW shift_clock_first.tab1 shift_clock_first.bits1 (fun HT_ HW_ => ?_)
  have hf := HF.out.drew
  clear HF
  generalize w6.drew = w7 at hf hHeld ⊢
  refine pure_ (i := 2) (N := some 16) (v := ?_) (a' := ?_) #[false, false, true, false, false, false, false, false, false, false, false, false, false] rfl rfl (any_of HT_.out (by kernel_rfl)) (fun _ _ _ h => h) (Or.inl ⟨by rfl, ?_⟩) ?_ ?_
  rotate_left
  · intro w'
    go_simp
    with_reducible rfl
  rotate_left
  · simp only [Act.put, List.setIfInBounds_toArray, List.set_cons_zero, List.set_cons_succ, i64_w, i32_w]
    rfl
  refine take_ (i := 0) (N := some 14) (v := .agg #[.slice A0_0 l0_0.length c0_0, .int .i64 a0_1]) (a' := ?_) #[true, false, true, false, false, false, false, false, false, false, false, false, false] rfl rfl (take_ofW HT_.out HW_.out (by kernel_rfl)) (fun _ _ _ h => h) (Or.inl ⟨by rfl, fun w' hS => exec_load_row _ _ 49 (.tmp 2) rfl gb rfl 49 _ (0, 0) _ hS Try.underlying49 rfl size49⟩) hHeld ?_ ?_
  rotate_left
  · simp only [Act.put, List.setIfInBounds_toArray, List.set_cons_zero, List.set_cons_succ, i64_w, i32_w]
    rfl
  refine take_ (i := 1) (N := some 15) (v := .agg #[.slice A0_0 l0_0.length c0_0, .int .i64 a0_1]) (a' := ?_) #[true, true, true, false, false, false, false, false, false, false, false, false, false] rfl rfl (take_ofW HT_.out HW_.out (by kernel_rfl)) (fun _ _ _ h => h) (Or.inl ⟨by rfl, fun w' hS => exec_load_row _ _ 49 (.tmp 2) rfl gb rfl 49 _ (0, 0) _ hS Try.underlying49 rfl size49⟩) hHeld ?_ ?_
  rotate_left
  · simp only [Act.put, List.setIfInBounds_toArray, List.set_cons_zero, List.set_cons_succ, i64_w, i32_w]
    rfl
  refine join_ (σ := Option Addr × Nat × Value × List Int × Nat) 3 #[true, true, true, true, true, true, true, true, true, true, false, false, false] (fun s_ => [(17, .slice s_.1 b0.length s_.2.1), (18, .tuple #[.agg (nums .i64 s_.2.2.2.1).toArray, s_.2.2.1, .bool tb0]), (13, .tuple #[.agg (nums .i64 s_.2.2.2.1).toArray, s_.2.2.1, .bool tb0]), (19, .agg (nums .i64 s_.2.2.2.1).toArray), (20, s_.2.2.1), (21, .bool tb0), (5, .pointer (some ⟨s_.2.2.2.2, 0, none⟩))]) (fun s_ w' => FirstW w w' gb A0_0 l0_0.length c0_0 a0_1 (.slice none 0 0) ([] : List Int) ∧ FirstT w w' gb (.slice none 0 0) s_.2.2.2.2 ∧ List.length s_.2.2.2.1 = 13) ?_ ?_
  rotate_left
  · intro hD2
    refine join_ (σ := Option Addr × Nat × Nat) 8 #[true, true, true, true, false, false, false, false, false, true, false, false, false] (fun s_ => [(17, .slice s_.1 b0.length s_.2.1), (5, .pointer (some ⟨s_.2.2, 0, none⟩))]) (fun s_ w' => FirstW w w' gb A0_0 l0_0.length c0_0 a0_1 (.slice none 0 0) ([] : List Int) ∧ FirstT w w' gb (.slice none 0 0) s_.2.2 ∧ Kd.C k72 w' s_.1 b0.length b0 ∧ b0.length ≤ s_.2.1) ?_ ?_
    rotate_left
    · intro hD1
      refine two_ (i := 3) (j := 9) (Ni := some 17) (Nj := some 5) #[true, true, true, true, false, false, false, false, false, false, false, false, false] #[true, true, true, false, false, false, false, false, false, true, false, false, false] rfl rfl rfl rfl (two_of HT_.out (by kernel_rfl)) (by decide) (by decide) (fun K hK => ?_) (fun K hK => ?_)
      · skip
        refine goes_ Try.func48 (by kernel_rfl) rfl #[.agg #[.slice A0_0 l0_0.length c0_0, .int .i64 a0_1], .int .i64 a1, .int .i64 1, .slice none 0 0] (by rfl) rfl rfl (by simp only [List.map_toArray, List.map_cons, List.map_nil]; rfl) ?_
        refine (shift_clock_bounds.calls k _ _ l0_0 a0_1 a1 1 _ _ ([] : List Int) b0 _ ?side1 ?side2 ?side3 ?side4 HF1.out).mono ?_
        case side1 => exact Kd.C_below HR0.out hf.hb
        case side2 => exact HC0.out
        case side3 => exact Kd.C_nil _ _
        case side4 => exact Nat.le_refl _
        rintro e wB ⟨vB, rfl, ho0, hb⟩
        refine ⟨_, rfl, ?_⟩
        obtain ⟨AB, cB, hvB⟩ := Kd.R_slice ho0
        rw [hvB]
        rw [hvB] at ho0
        have hCB := (Kd.R_reads' ho0).2.2
        have hcB := (Kd.R_reads' ho0).2.1
        replace hf := hf.below hb
        clear hb ho0 hvB
        refine hK.out _ _ hf.bx (fun hHeld => ?_)
        clear hK K
        refine norm_ (a' := ?_) ?_ ?_
        rotate_left
        · show Act.put _ (some 17) _ = _
          simp only [Act.put, List.setIfInBounds_toArray, List.set_cons_zero, List.set_cons_succ, i64_w, i32_w]
          rfl
        refine two_ (i := 4) (j := 9) (Ni := some 18) (Nj := some 5) #[true, true, true, true, true, false, false, false, false, false, false, false, false] #[true, true, true, true, false, false, false, false, false, true, false, false, false] rfl rfl rfl rfl (two_of HT_.out (by kernel_rfl)) (by decide) (by decide) (fun K hK => ?_) (fun K hK => ?_)
        · skip
          refine goes_ Try.func47 (by kernel_rfl) rfl #[.agg #[.slice A0_0 l0_0.length c0_0, .int .i64 a0_1], .slice AB b0.length cB] (by rfl) rfl rfl (by simp only [List.map_toArray, List.map_cons, List.map_nil]; rfl) ?_
          refine (solve_any k _ _ l0_0 a0_1 _ _ b0 z0 _ ?side1 ?side2 ?side3 ?side4 tb0 HT0.out HF2.out).mono ?_
          case side1 => exact Kd.C_below HR0.out hf.hb
          case side2 => exact HC0.out
          case side3 => exact hCB
          case side4 => exact hcB
          rintro e wS ⟨vS, xs, rfl, hxs, hb⟩
          refine ⟨_, rfl, ?_⟩
          replace hf := hf.below hb
          clear hb hCB hcB
          refine hK.out _ _ hf.bx (fun hHeld => ?_)
          clear hK K
          refine norm_ (a' := ?_) ?_ ?_
          rotate_left
          · show Act.put _ (some 18) _ = _
            simp only [Act.put, List.setIfInBounds_toArray, List.set_cons_zero, List.set_cons_succ, i64_w, i32_w]
            rfl
          refine pure_ (i := 5) (N := some 13) (v := ?_) (a' := ?_) #[true, true, true, true, true, true, false, false, false, false, false, false, false] rfl rfl (any_of HT_.out (by kernel_rfl)) (fun _ _ _ h => h) (Or.inl ⟨by rfl, ?_⟩) ?_ ?_
          rotate_left
          · intro w'
            go_simp
            with_reducible rfl
          rotate_left
          · simp only [Act.put, List.setIfInBounds_toArray, List.set_cons_zero, List.set_cons_succ, i64_w, i32_w]
            rfl
          refine pure_ (i := 6) (N := some 19) (v := ?_) (a' := ?_) #[true, true, true, true, true, true, true, false, false, false, false, false, false] rfl rfl (any_of HT_.out (by kernel_rfl)) (fun _ _ _ h => h) (Or.inl ⟨by rfl, ?_⟩) ?_ ?_
          rotate_left
          · intro w'
            go_simp
            with_reducible rfl
          rotate_left
          · simp only [Act.put, List.setIfInBounds_toArray, List.set_cons_zero, List.set_cons_succ, i64_w, i32_w]
            rfl
          refine pure_ (i := 7) (N := some 20) (v := ?_) (a' := ?_) #[true, true, true, true, true, true, true, true, false, false, false, false, false] rfl rfl (any_of HT_.out (by kernel_rfl)) (fun _ _ _ h => h) (Or.inl ⟨by rfl, ?_⟩) ?_ ?_
          rotate_left
          · intro w'
            go_simp
            with_reducible rfl
          rotate_left
          · simp only [Act.put, List.setIfInBounds_toArray, List.set_cons_zero, List.set_cons_succ, i64_w, i32_w]
            rfl
          refine pure_ (i := 8) (N := some 21) (v := ?_) (a' := ?_) #[true, true, true, true, true, true, true, true, true, false, false, false, false] rfl rfl (any_of HT_.out (by kernel_rfl)) (fun _ _ _ h => h) (Or.inl ⟨by rfl, ?_⟩) ?_ ?_
          rotate_left
          · intro w'
            go_simp
            with_reducible rfl
          rotate_left
          · simp only [Act.put, List.setIfInBounds_toArray, List.set_cons_zero, List.set_cons_succ, i64_w, i32_w]
            rfl
          refine one_ (i := 9) (N := some 5) #[true, true, true, true, true, true, true, true, true, true, false, false, false] rfl rfl (one_of HT_.out (by kernel_rfl)) (by decide) (fun K hK => ?_)
          obtain ⟨gT, hg⟩ : ∃ g, g = wS.heap.size := ⟨_, rfl⟩
          refine value_ (w1 := wS.alloc (.cells (nums .i64 (List.replicate 13 0)).toArray 60)) (v := .pointer (some ⟨wS.heap.size, 0, none⟩)) (by rfl) rfl (by first | (go_simp; done) | (go_simp; rfl)) ?_
          have ht := FirstT.new hf
          rw [← hg] at ht ⊢
          clear hg
          have hb := below_alloc (Below.refl wS.heap.size wS) (.cells (nums .i64 (List.replicate 13 0)).toArray 60)
          replace hf := hf.below hb
          clear hb
          generalize wS.alloc (.cells (nums .i64 (List.replicate 13 0)).toArray 60) = wT at hf ht ⊢
          refine hK.out _ _ hf.bx (fun hHeld => ?_)
          clear hK K
          refine norm_ (a' := ?_) ?_ ?_
          rotate_left
          · show Act.put _ (some 5) _ = _
            simp only [Act.put, List.setIfInBounds_toArray, List.set_cons_zero, List.set_cons_succ, i64_w, i32_w]
            rfl
          exact norm_ (by first | (simp only [putAll, Act.put, List.setIfInBounds_toArray, List.set_cons_zero, List.set_cons_succ]; done) | (simp only [putAll, Act.put, List.setIfInBounds_toArray, List.set_cons_zero, List.set_cons_succ]; rfl)) (hD2 (AB, cB, vS, xs, gT) _ ⟨hf, ht, hxs⟩)
        · skip
          obtain ⟨gT, hg⟩ : ∃ g, g = wB.heap.size := ⟨_, rfl⟩
          refine value_ (w1 := wB.alloc (.cells (nums .i64 (List.replicate 13 0)).toArray 60)) (v := .pointer (some ⟨wB.heap.size, 0, none⟩)) (by rfl) rfl (by first | (go_simp; done) | (go_simp; rfl)) ?_
          have ht := FirstT.new hf
          rw [← hg] at ht ⊢
          clear hg
          have hb := below_alloc (Below.refl wB.heap.size wB) (.cells (nums .i64 (List.replicate 13 0)).toArray 60)
          replace hf := hf.below hb
          replace hCB := Kd.C_below hCB hb
          clear hb
          generalize wB.alloc (.cells (nums .i64 (List.replicate 13 0)).toArray 60) = wT at hf ht hCB ⊢
          refine hK.out _ _ hf.bx (fun hHeld => ?_)
          clear hK K
          refine norm_ (a' := ?_) ?_ ?_
          rotate_left
          · show Act.put _ (some 5) _ = _
            simp only [Act.put, List.setIfInBounds_toArray, List.set_cons_zero, List.set_cons_succ, i64_w, i32_w]
            rfl
          exact norm_ (by first | (simp only [putAll, Act.put, List.setIfInBounds_toArray, List.set_cons_zero, List.set_cons_succ]; done) | (simp only [putAll, Act.put, List.setIfInBounds_toArray, List.set_cons_zero, List.set_cons_succ]; rfl)) (hD1 (AB, cB, gT) _ ⟨hf, ht, hCB, hcB⟩)
      · skip
        obtain ⟨gT, hg⟩ : ∃ g, g = w7.heap.size := ⟨_, rfl⟩
        refine value_ (w1 := w7.alloc (.cells (nums .i64 (List.replicate 13 0)).toArray 60)) (v := .pointer (some ⟨w7.heap.size, 0, none⟩)) (by rfl) rfl (by first | (go_simp; done) | (go_simp; rfl)) ?_
        have ht := FirstT.new hf
        rw [← hg] at ht ⊢
        clear hg
        have hb := below_alloc (Below.refl w7.heap.size w7) (.cells (nums .i64 (List.replicate 13 0)).toArray 60)
        replace hf := hf.below hb
        clear hb
        generalize w7.alloc (.cells (nums .i64 (List.replicate 13 0)).toArray 60) = wT at hf ht ⊢
        refine hK.out _ _ hf.bx (fun hHeld => ?_)
        clear hK K
        refine norm_ (a' := ?_) ?_ ?_
        rotate_left
        · show Act.put _ (some 5) _ = _
          simp only [Act.put, List.setIfInBounds_toArray, List.set_cons_zero, List.set_cons_succ, i64_w, i32_w]
          rfl
        refine one_ (i := 3) (N := some 17) #[true, true, true, true, false, false, false, false, false, true, false, false, false] rfl rfl (one_of HT_.out (by kernel_rfl)) (by decide) (fun K hK => ?_)
        refine goes_ Try.func48 (by kernel_rfl) rfl #[.agg #[.slice A0_0 l0_0.length c0_0, .int .i64 a0_1], .int .i64 a1, .int .i64 1, .slice none 0 0] (by rfl) rfl rfl (by simp only [List.map_toArray, List.map_cons, List.map_nil]; rfl) ?_
        refine (shift_clock_bounds.calls k _ _ l0_0 a0_1 a1 1 _ _ ([] : List Int) b0 _ ?side1 ?side2 ?side3 ?side4 HF1.out).mono ?_
        case side1 => exact Kd.C_below HR0.out hf.hb
        case side2 => exact HC0.out
        case side3 => exact Kd.C_nil _ _
        case side4 => exact Nat.le_refl _
        rintro e wB ⟨vB, rfl, ho0, hb⟩
        refine ⟨_, rfl, ?_⟩
        obtain ⟨AB, cB, hvB⟩ := Kd.R_slice ho0
        rw [hvB]
        rw [hvB] at ho0
        have hCB := (Kd.R_reads' ho0).2.2
        have hcB := (Kd.R_reads' ho0).2.1
        replace hf := hf.below hb
        replace ht := ht.below hb
        clear hb ho0 hvB
        refine hK.out _ _ hf.bx (fun hHeld => ?_)
        clear hK K
        refine norm_ (a' := ?_) ?_ ?_
        rotate_left
        · show Act.put _ (some 17) _ = _
          simp only [Act.put, List.setIfInBounds_toArray, List.set_cons_zero, List.set_cons_succ, i64_w, i32_w]
          rfl
        exact norm_ (by first | (simp only [putAll, Act.put, List.setIfInBounds_toArray, List.set_cons_zero, List.set_cons_succ]; done) | (simp only [putAll, Act.put, List.setIfInBounds_toArray, List.set_cons_zero, List.set_cons_succ]; rfl)) (hD1 (AB, cB, gT) _ ⟨hf, ht, hCB, hcB⟩)
    rintro ⟨AB, cB, gT⟩ wJ ⟨hf, ht, hCB, hcB⟩
    have hHeld := hf.bx
    refine norm_ (a' := ?_) ?_ ?_
    rotate_left
    · simp only [putAll, Act.put, List.setIfInBounds_toArray, List.set_cons_zero, List.set_cons_succ]
      rfl
    refine one_ (i := 4) (N := some 18) #[true, true, true, true, true, false, false, false, false, true, false, false, false] rfl rfl (one_of HT_.out (by kernel_rfl)) (by decide) (fun K hK => ?_)
    refine goes_ Try.func47 (by kernel_rfl) rfl #[.agg #[.slice A0_0 l0_0.length c0_0, .int .i64 a0_1], .slice AB b0.length cB] (by rfl) rfl rfl (by simp only [List.map_toArray, List.map_cons, List.map_nil]; rfl) ?_
    refine (solve_any k _ _ l0_0 a0_1 _ _ b0 z0 _ ?side1 ?side2 ?side3 ?side4 tb0 HT0.out HF2.out).mono ?_
    case side1 => exact Kd.C_below HR0.out hf.hb
    case side2 => exact HC0.out
    case side3 => exact hCB
    case side4 => exact hcB
    rintro e wS ⟨vS, xs, rfl, hxs, hb⟩
    refine ⟨_, rfl, ?_⟩
    replace hf := hf.below hb
    replace ht := ht.below hb
    clear hb hCB hcB
    refine hK.out _ _ hf.bx (fun hHeld => ?_)
    clear hK K
    refine norm_ (a' := ?_) ?_ ?_
    rotate_left
    · show Act.put _ (some 18) _ = _
      simp only [Act.put, List.setIfInBounds_toArray, List.set_cons_zero, List.set_cons_succ, i64_w, i32_w]
      rfl
    refine pure_ (i := 5) (N := some 13) (v := ?_) (a' := ?_) #[true, true, true, true, true, true, false, false, false, true, false, false, false] rfl rfl (any_of HT_.out (by kernel_rfl)) (fun _ _ _ h => h) (Or.inl ⟨by rfl, ?_⟩) ?_ ?_
    rotate_left
    · intro w'
      go_simp
      with_reducible rfl
    rotate_left
    · simp only [Act.put, List.setIfInBounds_toArray, List.set_cons_zero, List.set_cons_succ, i64_w, i32_w]
      rfl
    refine pure_ (i := 6) (N := some 19) (v := ?_) (a' := ?_) #[true, true, true, true, true, true, true, false, false, true, false, false, false] rfl rfl (any_of HT_.out (by kernel_rfl)) (fun _ _ _ h => h) (Or.inl ⟨by rfl, ?_⟩) ?_ ?_
    rotate_left
    · intro w'
      go_simp
      with_reducible rfl
    rotate_left
    · simp only [Act.put, List.setIfInBounds_toArray, List.set_cons_zero, List.set_cons_succ, i64_w, i32_w]
      rfl
    refine pure_ (i := 7) (N := some 20) (v := ?_) (a' := ?_) #[true, true, true, true, true, true, true, true, false, true, false, false, false] rfl rfl (any_of HT_.out (by kernel_rfl)) (fun _ _ _ h => h) (Or.inl ⟨by rfl, ?_⟩) ?_ ?_
    rotate_left
    · intro w'
      go_simp
      with_reducible rfl
    rotate_left
    · simp only [Act.put, List.setIfInBounds_toArray, List.set_cons_zero, List.set_cons_succ, i64_w, i32_w]
      rfl
    refine pure_ (i := 8) (N := some 21) (v := ?_) (a' := ?_) #[true, true, true, true, true, true, true, true, true, true, false, false, false] rfl rfl (any_of HT_.out (by kernel_rfl)) (fun _ _ _ h => h) (Or.inl ⟨by rfl, ?_⟩) ?_ ?_
    rotate_left
    · intro w'
      go_simp
      with_reducible rfl
    rotate_left
    · simp only [Act.put, List.setIfInBounds_toArray, List.set_cons_zero, List.set_cons_succ, i64_w, i32_w]
      rfl
    exact norm_ (by first | (simp only [putAll, Act.put, List.setIfInBounds_toArray, List.set_cons_zero, List.set_cons_succ]; done) | (simp only [putAll, Act.put, List.setIfInBounds_toArray, List.set_cons_zero, List.set_cons_succ]; rfl)) (hD2 (AB, cB, vS, xs, gT) _ ⟨hf, ht, hxs⟩)
  rintro ⟨AB, cB, vS, xs, gT⟩ wJ ⟨hf, ht, hxs⟩
  have hHeld := hf.bx
  refine norm_ (a' := ?_) ?_ ?_
  rotate_left
  · simp only [putAll, Act.put, List.setIfInBounds_toArray, List.set_cons_zero, List.set_cons_succ]
    rfl
  refine one_ (i := 10) (N := none) #[true, true, true, true, true, true, true, true, true, true, true, false, false] rfl rfl (one_of HT_.out (by kernel_rfl)) (by decide) (fun K hK => ?_)
  refine skip_ (w1 := wJ.setRow gT (nums .i64 xs).toArray) (by rfl) rfl (exec_store_row _ _ 60 (.tmp 5) (.tmp 19) rfl gT _ rfl rfl 60 _ ht.bk (by rw [size60, nums_size, hxs]) (by rw [nums_size, nums_size, hxs]; rfl) (nums_all _)) ?_
  replace hf := ht.stored hf (nums .i64 xs).toArray
  refine hK.out _ _ hf.bx (fun hHeld => ?_)
  clear hK K ht
  generalize wJ.setRow gT (nums .i64 xs).toArray = wZ at hf hHeld ⊢
  refine pure_ (i := 11) (N := some 6) (v := ?_) (a' := ?_) #[true, true, true, true, true, true, true, true, true, true, true, true, false] rfl rfl (any_of HT_.out (by kernel_rfl)) (fun _ _ _ h => h) (Or.inl ⟨by rfl, ?_⟩) ?_ ?_
  rotate_left
  · intro w'
    go_simp
    with_reducible rfl
  rotate_left
  · simp only [Act.put, List.setIfInBounds_toArray, List.set_cons_zero, List.set_cons_succ, i64_w, i32_w]
    rfl
  refine pure_ (i := 12) (N := some 7) (v := ?_) (a' := ?_) #[true, true, true, true, true, true, true, true, true, true, true, true, true] rfl rfl (any_of HT_.out (by kernel_rfl)) (fun _ _ _ h => h) (Or.inl ⟨by rfl, ?_⟩) ?_ ?_
  rotate_left
  · intro w'
    go_simp
    with_reducible rfl
  rotate_left
  · simp only [Act.put, List.setIfInBounds_toArray, List.set_cons_zero, List.set_cons_succ, i64_w, i32_w]
    rfl
  refine done_ (done_of HT_.out (by kernel_rfl)) ?_
  have HZ := Aside0.mk hf
  clear hf hHeld HT_ HW_
  have h30 := HF3.out
  rw [HT0.out] at h30
  clear HF3 HT0
  cases tb0
  rotate_left
  · have h3 := h30
    clear h30
    rw [if_pos rfl] at h3
    have HA0 := Aside0.mk h3
    clear h3
    have hc0 : wZ.cell? ⟨gb, 0, none⟩ = some (.slice A0_0 l0_0.length c0_0) := (blk_cell HZ.out.bx 0).trans rfl
    go_wp2_with fail
    clear hc0
    go_loopg [8, 27] k (fun kq v8 v27 w' => ∃ (x8 : List Int) (x27 : Int), v27 = .int .i64 x27 ∧ Aside0 (shift_clock_first.l0 kq a1 x8 x27 l0_0 a0_1 = some r) ∧ Aside0 (kq ≤ k) ∧ Aside0 (FirstW w w' gb A0_0 l0_0.length c0_0 a0_1 v8 x8) ∧ Aside0 (x8 = [] → v8 = .slice none 0 0))
    case atStart => exact ⟨[], 0, rfl, HA0, ⟨Nat.le_refl _⟩, HZ, ⟨fun _ => rfl⟩⟩
    case round =>
      obtain ⟨x8, x27, rfl, HA, HK1, HF, HN8⟩ := hrel
      cases gk with
      | zero => exact absurd HA.out (by simp [shift_clock_first.l0])
      | succ k1 =>
        have h4 := HA.out
        simp only [shift_clock_first.l0] at h4
        clear HA HZ HA0
        obtain ⟨A8, c8, e8⟩ := Kd.R_slice HF.out.ho
        subst e8
        by_cases hlt : x27 < (l0_0.length : Int)
        · rw [if_pos hlt] at h4
          have HA1 := Aside0.mk h4
          have hdl := decide_eq_true hlt
          clear h4 hlt
          go_wp2_with fail
          go_loopg [9] k1 (fun kq v9 w' => ∃ (x9 : Int), v9 = .int .i64 x9 ∧ Aside0 (shift_clock_first.l1 kq a1 x8 x9 x27 l0_0 a0_1 = some r) ∧ Aside0 (kq ≤ k1) ∧ Aside0 (FirstW w w' gb A0_0 l0_0.length c0_0 a0_1 (.slice A8 x8.length c8) x8))
          case atStart => exact ⟨0, rfl, HA1, ⟨Nat.le_refl _⟩, HF⟩
          case round =>
            clear HF HA1
            obtain ⟨x9, rfl, HA, HK2, HF⟩ := hrel
            cases gk with
            | zero => exact absurd HA.out (by simp [shift_clock_first.l1])
            | succ k2 =>
              have h5 := HA.out
              simp only [shift_clock_first.l1] at h5
              clear HA
              by_cases hle : x8.length < 17592186044415
              · rw [if_pos hle] at h5
                have HL := Aside0.mk hle
                obtain ⟨b2, hb2, h6⟩ := Option.bind_eq_some_iff.1 h5
                obtain ⟨z2, hz2, h7⟩ := Option.bind_eq_some_iff.1 h6
                have HF4 := Aside0.mk hb2
                have HF5 := Aside0.mk hz2
                have HF6 := Aside0.mk h7
                obtain ⟨tb2, htb2⟩ : ∃ b, thr z2 = b := ⟨_, rfl⟩
                have HT2 := Aside0.mk htb2
                clear hle hb2 hz2 h5 h6 h7 htb2
                have hcc := (Kd.R_reads' HF.out.ho).2.1
                go_wp2_with fail
                refine start_ (n := 22) (S := fun w' => w'.heap[gb]? = some (.cells #[.slice A0_0 l0_0.length c0_0, .int .i64 a0_1] 49 (0, 0))) (ds := []) #[false, false, false, false, false, false, false, false, false, false, false, false, false, false, false, false, false, false, false, false, false, false] (by kernel_rfl) rfl rfl HF.out.bx (fun hHeld => ?_)
                refine with_tabW shift_clock_first.tab8 shift_clock_first.bits8 (fun HT_ HW_ => ?_)
                have hf := HF.out.drew
                clear HF
                generalize wr.drew = w7 at hf hHeld ⊢
                refine pure_ (i := 2) (N := some 32) (v := ?_) (a' := ?_) #[false, false, true, false, false, false, false, false, false, false, false, false, false, false, false, false, false, false, false, false, false, false] rfl rfl (any_of HT_.out (by kernel_rfl)) (fun _ _ _ h => h) (Or.inl ⟨by rfl, ?_⟩) ?_ ?_
                rotate_left
                · intro w'
                  go_simp
                  with_reducible rfl
                rotate_left
                · simp only [Act.put, List.setIfInBounds_toArray, List.set_cons_zero, List.set_cons_succ, i64_w, i32_w]
                  rfl
                refine pure_ (i := 3) (N := some 33) (v := ?_) (a' := ?_) #[false, false, true, true, false, false, false, false, false, false, false, false, false, false, false, false, false, false, false, false, false, false] rfl rfl (any_of HT_.out (by kernel_rfl)) (fun _ _ _ h => h) (Or.inl ⟨by rfl, ?_⟩) ?_ ?_
                rotate_left
                · intro w'
                  go_simp
                  with_reducible rfl
                rotate_left
                · simp only [Act.put, List.setIfInBounds_toArray, List.set_cons_zero, List.set_cons_succ, i64_w, i32_w]
                  rfl
                refine pure_ (i := 4) (N := some 34) (v := ?_) (a' := ?_) #[false, false, true, true, true, false, false, false, false, false, false, false, false, false, false, false, false, false, false, false, false, false] rfl rfl (any_of HT_.out (by kernel_rfl)) (fun _ _ _ h => h) (Or.inl ⟨by rfl, ?_⟩) ?_ ?_
                rotate_left
                · intro w'
                  go_simp
                  with_reducible rfl
                rotate_left
                · simp only [Act.put, List.setIfInBounds_toArray, List.set_cons_zero, List.set_cons_succ, i64_w, i32_w]
                  rfl
                refine pure_ (i := 5) (N := some 35) (v := ?_) (a' := ?_) #[false, false, true, true, true, true, false, false, false, false, false, false, false, false, false, false, false, false, false, false, false, false] rfl rfl (any_of HT_.out (by kernel_rfl)) (fun _ _ _ h => h) (Or.inl ⟨by rfl, ?_⟩) ?_ ?_
                rotate_left
                · intro w'
                  go_simp
                  with_reducible rfl
                rotate_left
                · simp only [Act.put, List.setIfInBounds_toArray, List.set_cons_zero, List.set_cons_succ, i64_w, i32_w]
                  rfl
                refine pure_ (i := 6) (N := some 36) (v := ?_) (a' := ?_) #[false, false, true, true, true, true, true, false, false, false, false, false, false, false, false, false, false, false, false, false, false, false] rfl rfl (any_of HT_.out (by kernel_rfl)) (fun _ _ _ h => h) (Or.inl ⟨by rfl, ?_⟩) ?_ ?_
                rotate_left
                · intro w'
                  go_simp
                  with_reducible rfl
                rotate_left
                · simp only [Act.put, List.setIfInBounds_toArray, List.set_cons_zero, List.set_cons_succ, i64_w, i32_w]
                  rfl
                refine pure_ (i := 7) (N := some 37) (v := ?_) (a' := ?_) #[false, false, true, true, true, true, true, true, false, false, false, false, false, false, false, false, false, false, false, false, false, false] rfl rfl (any_of HT_.out (by kernel_rfl)) (fun _ _ _ h => h) (Or.inl ⟨by rfl, ?_⟩) ?_ ?_
                rotate_left
                · intro w'
                  go_simp
                  with_reducible rfl
                rotate_left
                · simp only [Act.put, List.setIfInBounds_toArray, List.set_cons_zero, List.set_cons_succ, i64_w, i32_w]
                  rfl
                refine pure_ (i := 8) (N := some 38) (v := (.slice A8 x8.length x8.length)) (a' := ?_) #[false, false, true, true, true, true, true, true, true, false, false, false, false, false, false, false, false, false, false, false, false, false] rfl rfl (any_of HT_.out (by kernel_rfl)) (fun _ _ _ h => h) (Or.inl ⟨by rfl, ?_⟩) ?_ ?_
                · intro w'
                  go_simp
                rotate_left
                · simp only [Act.put, List.setIfInBounds_toArray, List.set_cons_zero, List.set_cons_succ, i64_w, i32_w]
                  rfl
                refine pure_ (i := 9) (N := some 39) (v := ?_) (a' := ?_) #[false, false, true, true, true, true, true, true, true, true, false, false, false, false, false, false, false, false, false, false, false, false] rfl rfl (any_of HT_.out (by kernel_rfl)) (fun _ _ _ h => h) (Or.inl ⟨by rfl, ?_⟩) ?_ ?_
                rotate_left
                · intro w'
                  go_simp
                  with_reducible rfl
                rotate_left
                · simp only [Act.put, List.setIfInBounds_toArray, List.set_cons_zero, List.set_cons_succ, i64_w, i32_w]
                  rfl
                refine take_ (i := 0) (N := some 30) (v := .agg #[.slice A0_0 l0_0.length c0_0, .int .i64 a0_1]) (a' := ?_) #[true, false, true, true, true, true, true, true, true, true, false, false, false, false, false, false, false, false, false, false, false, false] rfl rfl (take_ofW HT_.out HW_.out (by kernel_rfl)) (fun _ _ _ h => h) (Or.inl ⟨by rfl, fun w' hS => exec_load_row _ _ 49 (.tmp 2) rfl gb rfl 49 _ (0, 0) _ hS Try.underlying49 rfl size49⟩) hHeld ?_ ?_
                rotate_left
                · simp only [Act.put, List.setIfInBounds_toArray, List.set_cons_zero, List.set_cons_succ, i64_w, i32_w]
                  rfl
                refine take_ (i := 1) (N := some 31) (v := .agg #[.slice A0_0 l0_0.length c0_0, .int .i64 a0_1]) (a' := ?_) #[true, true, true, true, true, true, true, true, true, true, false, false, false, false, false, false, false, false, false, false, false, false] rfl rfl (take_ofW HT_.out HW_.out (by kernel_rfl)) (fun _ _ _ h => h) (Or.inl ⟨by rfl, fun w' hS => exec_load_row _ _ 49 (.tmp 2) rfl gb rfl 49 _ (0, 0) _ hS Try.underlying49 rfl size49⟩) hHeld ?_ ?_
                rotate_left
                · simp only [Act.put, List.setIfInBounds_toArray, List.set_cons_zero, List.set_cons_succ, i64_w, i32_w]
                  rfl
                refine join_ (σ := Nat × Option Addr × Nat × Option Addr × Nat × Value × List Int × Nat) 3 #[true, true, true, true, true, true, true, true, true, true, true, true, true, true, true, true, true, true, true, false, false, false] (fun s_ => [(40, .slice (some ⟨s_.1, 0, none⟩) 1 1), (41, .slice s_.2.1 (x8 ++ [x9]).length s_.2.2.1), (42, .slice s_.2.2.2.1 b2.length s_.2.2.2.2.1), (43, .tuple #[.agg (nums .i64 s_.2.2.2.2.2.2.1).toArray, s_.2.2.2.2.2.1, .bool tb2]), (29, .tuple #[.agg (nums .i64 s_.2.2.2.2.2.2.1).toArray, s_.2.2.2.2.2.1, .bool tb2]), (44, .agg (nums .i64 s_.2.2.2.2.2.2.1).toArray), (45, s_.2.2.2.2.2.1), (46, .bool tb2), (10, .pointer (some ⟨s_.2.2.2.2.2.2.2, 0, none⟩))]) (fun s_ w' => FirstW w w' gb A0_0 l0_0.length c0_0 a0_1 (.slice A8 x8.length c8) x8 ∧ FirstT w w' gb (.slice A8 x8.length c8) s_.2.2.2.2.2.2.2 ∧ List.length s_.2.2.2.2.2.2.1 = 13) ?_ ?_
                rotate_left
                · intro hD4
                  refine join_ (σ := Nat × Option Addr × Nat × Option Addr × Nat × Nat) 8 #[true, true, true, true, true, true, true, true, true, true, true, true, true, false, false, false, false, false, true, false, false, false] (fun s_ => [(40, .slice (some ⟨s_.1, 0, none⟩) 1 1), (41, .slice s_.2.1 (x8 ++ [x9]).length s_.2.2.1), (42, .slice s_.2.2.2.1 b2.length s_.2.2.2.2.1), (10, .pointer (some ⟨s_.2.2.2.2.2, 0, none⟩))]) (fun s_ w' => FirstW w w' gb A0_0 l0_0.length c0_0 a0_1 (.slice A8 x8.length c8) x8 ∧ FirstT w w' gb (.slice A8 x8.length c8) s_.2.2.2.2.2 ∧ Kd.C k72 w' s_.2.2.2.1 b2.length b2 ∧ b2.length ≤ s_.2.2.2.2.1) ?_ ?_
                  rotate_left
                  · intro hD3
                    refine join_ (σ := Nat × Option Addr × Nat × Nat) 9 #[true, true, true, true, true, true, true, true, true, true, true, true, false, false, false, false, false, false, true, false, false, false] (fun s_ => [(40, .slice (some ⟨s_.1, 0, none⟩) 1 1), (41, .slice s_.2.1 (x8 ++ [x9]).length s_.2.2.1), (10, .pointer (some ⟨s_.2.2.2, 0, none⟩))]) (fun s_ w' => FirstW w w' gb A0_0 l0_0.length c0_0 a0_1 (.slice A8 x8.length c8) x8 ∧ FirstT w w' gb (.slice A8 x8.length c8) s_.2.2.2 ∧ Kd.C (Kd.int .i64) w' s_.2.1 (x8 ++ [x9]).length (x8 ++ [x9]) ∧ (x8 ++ [x9]).length ≤ s_.2.2.1) ?_ ?_
                    rotate_left
                    · intro hD2
                      refine join_ (σ := Nat × Nat) 10 #[true, true, true, true, true, true, true, true, true, true, true, false, false, false, false, false, false, false, true, false, false, false] (fun s_ => [(40, .slice (some ⟨s_.1, 0, none⟩) 1 1), (10, .pointer (some ⟨s_.2, 0, none⟩))]) (fun s_ w' => FirstW w w' gb A0_0 l0_0.length c0_0 a0_1 (.slice A8 x8.length c8) x8 ∧ FirstT w w' gb (.slice A8 x8.length c8) s_.2 ∧ Kd.C (Kd.int .i64) w' (some ⟨s_.1, 0, none⟩) 1 [x9]) ?_ ?_
                      rotate_left
                      · intro hD1
                        refine two_ (i := 10) (j := 18) (Ni := some 40) (Nj := some 10) #[true, true, true, true, true, true, true, true, true, true, true, false, false, false, false, false, false, false, false, false, false, false] #[true, true, true, true, true, true, true, true, true, true, false, false, false, false, false, false, false, false, true, false, false, false] rfl rfl rfl rfl (two_of HT_.out (by kernel_rfl)) (by decide) (by decide) (fun K hK => ?_) (fun K hK => ?_)
                        · skip
                          obtain ⟨g, hg⟩ : ∃ g, g = w7.heap.size := ⟨_, rfl⟩
                          refine value_ (w1 := w7.alloc (.cells #[.int .i64 x9] 3)) (v := .slice (some ⟨w7.heap.size, 0, none⟩) 1 1) (by rfl) rfl (by first | (go_simp; done) | (go_simp; rfl)) ?_
                          have hX := one_read w7 x9
                          rw [← hg] at hX ⊢
                          clear hg
                          have hb := below_alloc (Below.refl w7.heap.size w7) (.cells #[.int .i64 x9] 3)
                          replace hf := hf.below hb
                          clear hb
                          generalize w7.alloc (.cells #[.int .i64 x9] 3) = wL at hX hf ⊢
                          refine hK.out _ _ hf.bx (fun hHeld => ?_)
                          clear hK K
                          refine norm_ (a' := ?_) ?_ ?_
                          rotate_left
                          · show Act.put _ (some 40) _ = _
                            simp only [Act.put, List.setIfInBounds_toArray, List.set_cons_zero, List.set_cons_succ, i64_w, i32_w]
                            rfl
                          refine two_ (i := 11) (j := 18) (Ni := some 41) (Nj := some 10) #[true, true, true, true, true, true, true, true, true, true, true, true, false, false, false, false, false, false, false, false, false, false] #[true, true, true, true, true, true, true, true, true, true, true, false, false, false, false, false, false, false, true, false, false, false] rfl rfl rfl rfl (two_of HT_.out (by kernel_rfl)) (by decide) (by decide) (fun K hK => ?_) (fun K hK => ?_)
                          · skip
                            refine step_capped (by rfl) rfl (.tmp 38) (.tmp 40) 22 3 .i64 8 rfl Try.underlying22 info3 (by omega) A8 x8 x9 (some ⟨g, 0, none⟩) 1 rfl rfl (Kd.R_reads' hf.ho).2.2 hX (by have := HL.out; omega) ?_
                            intro A c wA hCA hcA hg
                            have hb := grown_below hg
                            replace hf := hf.below hb
                            clear hb hg hX
                            refine hK.out _ _ hf.bx (fun hHeld => ?_)
                            clear hK K
                            refine norm_ (a' := ?_) ?_ ?_
                            rotate_left
                            · show Act.put _ (some 41) _ = _
                              simp only [Act.put, List.setIfInBounds_toArray, List.set_cons_zero, List.set_cons_succ, i64_w, i32_w]
                              rfl
                            refine two_ (i := 12) (j := 18) (Ni := some 42) (Nj := some 10) #[true, true, true, true, true, true, true, true, true, true, true, true, true, false, false, false, false, false, false, false, false, false] #[true, true, true, true, true, true, true, true, true, true, true, true, false, false, false, false, false, false, true, false, false, false] rfl rfl rfl rfl (two_of HT_.out (by kernel_rfl)) (by decide) (by decide) (fun K hK => ?_) (fun K hK => ?_)
                            · skip
                              refine goes_ Try.func48 (by kernel_rfl) rfl #[.agg #[.slice A0_0 l0_0.length c0_0, .int .i64 a0_1], .int .i64 a1, .int .i64 1, .slice A (x8 ++ [x9]).length c] (by rfl) rfl rfl (by simp only [List.map_toArray, List.map_cons, List.map_nil]; rfl) ?_
                              refine (shift_clock_bounds.calls k2 _ _ l0_0 a0_1 a1 1 _ _ (x8 ++ [x9]) b2 _ ?side1 ?side2 ?side3 ?side4 HF4.out).mono ?_
                              case side1 => exact Kd.C_below HR0.out hf.hb
                              case side2 => exact HC0.out
                              case side3 => exact hCA
                              case side4 => exact hcA
                              rintro e wB ⟨vB, rfl, ho0, hb⟩
                              refine ⟨_, rfl, ?_⟩
                              obtain ⟨AB, cB, hvB⟩ := Kd.R_slice ho0
                              rw [hvB]
                              rw [hvB] at ho0
                              have hCB := (Kd.R_reads' ho0).2.2
                              have hcB := (Kd.R_reads' ho0).2.1
                              replace hf := hf.below hb
                              clear hb ho0 hvB hCA hcA
                              refine hK.out _ _ hf.bx (fun hHeld => ?_)
                              clear hK K
                              refine norm_ (a' := ?_) ?_ ?_
                              rotate_left
                              · show Act.put _ (some 42) _ = _
                                simp only [Act.put, List.setIfInBounds_toArray, List.set_cons_zero, List.set_cons_succ, i64_w, i32_w]
                                rfl
                              refine two_ (i := 13) (j := 18) (Ni := some 43) (Nj := some 10) #[true, true, true, true, true, true, true, true, true, true, true, true, true, true, false, false, false, false, false, false, false, false] #[true, true, true, true, true, true, true, true, true, true, true, true, true, false, false, false, false, false, true, false, false, false] rfl rfl rfl rfl (two_of HT_.out (by kernel_rfl)) (by decide) (by decide) (fun K hK => ?_) (fun K hK => ?_)
                              · skip
                                refine goes_ Try.func47 (by kernel_rfl) rfl #[.agg #[.slice A0_0 l0_0.length c0_0, .int .i64 a0_1], .slice AB b2.length cB] (by rfl) rfl rfl (by simp only [List.map_toArray, List.map_cons, List.map_nil]; rfl) ?_
                                refine (solve_any k2 _ _ l0_0 a0_1 _ _ b2 z2 _ ?side1 ?side2 ?side3 ?side4 tb2 HT2.out HF5.out).mono ?_
                                case side1 => exact Kd.C_below HR0.out hf.hb
                                case side2 => exact HC0.out
                                case side3 => exact hCB
                                case side4 => exact hcB
                                rintro e wS ⟨vS, xs, rfl, hxs, hb⟩
                                refine ⟨_, rfl, ?_⟩
                                replace hf := hf.below hb
                                clear hb hCB hcB
                                refine hK.out _ _ hf.bx (fun hHeld => ?_)
                                clear hK K
                                refine norm_ (a' := ?_) ?_ ?_
                                rotate_left
                                · show Act.put _ (some 43) _ = _
                                  simp only [Act.put, List.setIfInBounds_toArray, List.set_cons_zero, List.set_cons_succ, i64_w, i32_w]
                                  rfl
                                refine pure_ (i := 14) (N := some 29) (v := ?_) (a' := ?_) #[true, true, true, true, true, true, true, true, true, true, true, true, true, true, true, false, false, false, false, false, false, false] rfl rfl (any_of HT_.out (by kernel_rfl)) (fun _ _ _ h => h) (Or.inl ⟨by rfl, ?_⟩) ?_ ?_
                                rotate_left
                                · intro w'
                                  go_simp
                                  with_reducible rfl
                                rotate_left
                                · simp only [Act.put, List.setIfInBounds_toArray, List.set_cons_zero, List.set_cons_succ, i64_w, i32_w]
                                  rfl
                                refine pure_ (i := 15) (N := some 44) (v := ?_) (a' := ?_) #[true, true, true, true, true, true, true, true, true, true, true, true, true, true, true, true, false, false, false, false, false, false] rfl rfl (any_of HT_.out (by kernel_rfl)) (fun _ _ _ h => h) (Or.inl ⟨by rfl, ?_⟩) ?_ ?_
                                rotate_left
                                · intro w'
                                  go_simp
                                  with_reducible rfl
                                rotate_left
                                · simp only [Act.put, List.setIfInBounds_toArray, List.set_cons_zero, List.set_cons_succ, i64_w, i32_w]
                                  rfl
                                refine pure_ (i := 16) (N := some 45) (v := ?_) (a' := ?_) #[true, true, true, true, true, true, true, true, true, true, true, true, true, true, true, true, true, false, false, false, false, false] rfl rfl (any_of HT_.out (by kernel_rfl)) (fun _ _ _ h => h) (Or.inl ⟨by rfl, ?_⟩) ?_ ?_
                                rotate_left
                                · intro w'
                                  go_simp
                                  with_reducible rfl
                                rotate_left
                                · simp only [Act.put, List.setIfInBounds_toArray, List.set_cons_zero, List.set_cons_succ, i64_w, i32_w]
                                  rfl
                                refine pure_ (i := 17) (N := some 46) (v := ?_) (a' := ?_) #[true, true, true, true, true, true, true, true, true, true, true, true, true, true, true, true, true, true, false, false, false, false] rfl rfl (any_of HT_.out (by kernel_rfl)) (fun _ _ _ h => h) (Or.inl ⟨by rfl, ?_⟩) ?_ ?_
                                rotate_left
                                · intro w'
                                  go_simp
                                  with_reducible rfl
                                rotate_left
                                · simp only [Act.put, List.setIfInBounds_toArray, List.set_cons_zero, List.set_cons_succ, i64_w, i32_w]
                                  rfl
                                refine one_ (i := 18) (N := some 10) #[true, true, true, true, true, true, true, true, true, true, true, true, true, true, true, true, true, true, true, false, false, false] rfl rfl (one_of HT_.out (by kernel_rfl)) (by decide) (fun K hK => ?_)
                                obtain ⟨gT, hg⟩ : ∃ g, g = wS.heap.size := ⟨_, rfl⟩
                                refine value_ (w1 := wS.alloc (.cells (nums .i64 (List.replicate 13 0)).toArray 60)) (v := .pointer (some ⟨wS.heap.size, 0, none⟩)) (by rfl) rfl (by first | (go_simp; done) | (go_simp; rfl)) ?_
                                have ht := FirstT.new hf
                                rw [← hg] at ht ⊢
                                clear hg
                                have hb := below_alloc (Below.refl wS.heap.size wS) (.cells (nums .i64 (List.replicate 13 0)).toArray 60)
                                replace hf := hf.below hb
                                clear hb
                                generalize wS.alloc (.cells (nums .i64 (List.replicate 13 0)).toArray 60) = wT at hf ht ⊢
                                refine hK.out _ _ hf.bx (fun hHeld => ?_)
                                clear hK K
                                refine norm_ (a' := ?_) ?_ ?_
                                rotate_left
                                · show Act.put _ (some 10) _ = _
                                  simp only [Act.put, List.setIfInBounds_toArray, List.set_cons_zero, List.set_cons_succ, i64_w, i32_w]
                                  rfl
                                exact norm_ (by first | (simp only [putAll, Act.put, List.setIfInBounds_toArray, List.set_cons_zero, List.set_cons_succ]; done) | (simp only [putAll, Act.put, List.setIfInBounds_toArray, List.set_cons_zero, List.set_cons_succ]; rfl)) (hD4 (g, A, c, AB, cB, vS, xs, gT) _ ⟨hf, ht, hxs⟩)
                              · skip
                                obtain ⟨gT, hg⟩ : ∃ g, g = wB.heap.size := ⟨_, rfl⟩
                                refine value_ (w1 := wB.alloc (.cells (nums .i64 (List.replicate 13 0)).toArray 60)) (v := .pointer (some ⟨wB.heap.size, 0, none⟩)) (by rfl) rfl (by first | (go_simp; done) | (go_simp; rfl)) ?_
                                have ht := FirstT.new hf
                                rw [← hg] at ht ⊢
                                clear hg
                                have hb := below_alloc (Below.refl wB.heap.size wB) (.cells (nums .i64 (List.replicate 13 0)).toArray 60)
                                replace hf := hf.below hb
                                replace hCB := Kd.C_below hCB hb
                                clear hb
                                generalize wB.alloc (.cells (nums .i64 (List.replicate 13 0)).toArray 60) = wT at hf ht hCB ⊢
                                refine hK.out _ _ hf.bx (fun hHeld => ?_)
                                clear hK K
                                refine norm_ (a' := ?_) ?_ ?_
                                rotate_left
                                · show Act.put _ (some 10) _ = _
                                  simp only [Act.put, List.setIfInBounds_toArray, List.set_cons_zero, List.set_cons_succ, i64_w, i32_w]
                                  rfl
                                exact norm_ (by first | (simp only [putAll, Act.put, List.setIfInBounds_toArray, List.set_cons_zero, List.set_cons_succ]; done) | (simp only [putAll, Act.put, List.setIfInBounds_toArray, List.set_cons_zero, List.set_cons_succ]; rfl)) (hD3 (g, A, c, AB, cB, gT) _ ⟨hf, ht, hCB, hcB⟩)
                            · skip
                              obtain ⟨gT, hg⟩ : ∃ g, g = wA.heap.size := ⟨_, rfl⟩
                              refine value_ (w1 := wA.alloc (.cells (nums .i64 (List.replicate 13 0)).toArray 60)) (v := .pointer (some ⟨wA.heap.size, 0, none⟩)) (by rfl) rfl (by first | (go_simp; done) | (go_simp; rfl)) ?_
                              have ht := FirstT.new hf
                              rw [← hg] at ht ⊢
                              clear hg
                              have hb := below_alloc (Below.refl wA.heap.size wA) (.cells (nums .i64 (List.replicate 13 0)).toArray 60)
                              replace hf := hf.below hb
                              replace hCA := Kd.C_below hCA hb
                              clear hb
                              generalize wA.alloc (.cells (nums .i64 (List.replicate 13 0)).toArray 60) = wT at hf ht hCA ⊢
                              refine hK.out _ _ hf.bx (fun hHeld => ?_)
                              clear hK K
                              refine norm_ (a' := ?_) ?_ ?_
                              rotate_left
                              · show Act.put _ (some 10) _ = _
                                simp only [Act.put, List.setIfInBounds_toArray, List.set_cons_zero, List.set_cons_succ, i64_w, i32_w]
                                rfl
                              exact norm_ (by first | (simp only [putAll, Act.put, List.setIfInBounds_toArray, List.set_cons_zero, List.set_cons_succ]; done) | (simp only [putAll, Act.put, List.setIfInBounds_toArray, List.set_cons_zero, List.set_cons_succ]; rfl)) (hD2 (g, A, c, gT) _ ⟨hf, ht, hCA, hcA⟩)
                          · skip
                            obtain ⟨gT, hg⟩ : ∃ g, g = wL.heap.size := ⟨_, rfl⟩
                            refine value_ (w1 := wL.alloc (.cells (nums .i64 (List.replicate 13 0)).toArray 60)) (v := .pointer (some ⟨wL.heap.size, 0, none⟩)) (by rfl) rfl (by first | (go_simp; done) | (go_simp; rfl)) ?_
                            have ht := FirstT.new hf
                            rw [← hg] at ht ⊢
                            clear hg
                            have hb := below_alloc (Below.refl wL.heap.size wL) (.cells (nums .i64 (List.replicate 13 0)).toArray 60)
                            replace hf := hf.below hb
                            replace hX := Kd.C_below hX hb
                            clear hb
                            generalize wL.alloc (.cells (nums .i64 (List.replicate 13 0)).toArray 60) = wT at hf ht hX ⊢
                            refine hK.out _ _ hf.bx (fun hHeld => ?_)
                            clear hK K
                            refine norm_ (a' := ?_) ?_ ?_
                            rotate_left
                            · show Act.put _ (some 10) _ = _
                              simp only [Act.put, List.setIfInBounds_toArray, List.set_cons_zero, List.set_cons_succ, i64_w, i32_w]
                              rfl
                            exact norm_ (by first | (simp only [putAll, Act.put, List.setIfInBounds_toArray, List.set_cons_zero, List.set_cons_succ]; done) | (simp only [putAll, Act.put, List.setIfInBounds_toArray, List.set_cons_zero, List.set_cons_succ]; rfl)) (hD1 (g, gT) _ ⟨hf, ht, hX⟩)
                        · skip
                          obtain ⟨gT, hg⟩ : ∃ g, g = w7.heap.size := ⟨_, rfl⟩
                          refine value_ (w1 := w7.alloc (.cells (nums .i64 (List.replicate 13 0)).toArray 60)) (v := .pointer (some ⟨w7.heap.size, 0, none⟩)) (by rfl) rfl (by first | (go_simp; done) | (go_simp; rfl)) ?_
                          have ht := FirstT.new hf
                          rw [← hg] at ht ⊢
                          clear hg
                          have hb := below_alloc (Below.refl w7.heap.size w7) (.cells (nums .i64 (List.replicate 13 0)).toArray 60)
                          replace hf := hf.below hb
                          clear hb
                          generalize w7.alloc (.cells (nums .i64 (List.replicate 13 0)).toArray 60) = wT at hf ht ⊢
                          refine hK.out _ _ hf.bx (fun hHeld => ?_)
                          clear hK K
                          refine norm_ (a' := ?_) ?_ ?_
                          rotate_left
                          · show Act.put _ (some 10) _ = _
                            simp only [Act.put, List.setIfInBounds_toArray, List.set_cons_zero, List.set_cons_succ, i64_w, i32_w]
                            rfl
                          refine one_ (i := 10) (N := some 40) #[true, true, true, true, true, true, true, true, true, true, true, false, false, false, false, false, false, false, true, false, false, false] rfl rfl (one_of HT_.out (by kernel_rfl)) (by decide) (fun K hK => ?_)
                          obtain ⟨g, hg⟩ : ∃ g, g = wT.heap.size := ⟨_, rfl⟩
                          refine value_ (w1 := wT.alloc (.cells #[.int .i64 x9] 3)) (v := .slice (some ⟨wT.heap.size, 0, none⟩) 1 1) (by rfl) rfl (by first | (go_simp; done) | (go_simp; rfl)) ?_
                          have hX := one_read wT x9
                          rw [← hg] at hX ⊢
                          clear hg
                          have hb := below_alloc (Below.refl wT.heap.size wT) (.cells #[.int .i64 x9] 3)
                          replace hf := hf.below hb
                          replace ht := ht.below hb
                          clear hb
                          generalize wT.alloc (.cells #[.int .i64 x9] 3) = wL at hX hf ht ⊢
                          refine hK.out _ _ hf.bx (fun hHeld => ?_)
                          clear hK K
                          refine norm_ (a' := ?_) ?_ ?_
                          rotate_left
                          · show Act.put _ (some 40) _ = _
                            simp only [Act.put, List.setIfInBounds_toArray, List.set_cons_zero, List.set_cons_succ, i64_w, i32_w]
                            rfl
                          exact norm_ (by first | (simp only [putAll, Act.put, List.setIfInBounds_toArray, List.set_cons_zero, List.set_cons_succ]; done) | (simp only [putAll, Act.put, List.setIfInBounds_toArray, List.set_cons_zero, List.set_cons_succ]; rfl)) (hD1 (g, gT) _ ⟨hf, ht, hX⟩)
                      rintro ⟨g, gT⟩ wJ ⟨hf, ht, hX⟩
                      have hHeld := hf.bx
                      refine norm_ (a' := ?_) ?_ ?_
                      rotate_left
                      · simp only [putAll, Act.put, List.setIfInBounds_toArray, List.set_cons_zero, List.set_cons_succ]
                        rfl
                      refine one_ (i := 11) (N := some 41) #[true, true, true, true, true, true, true, true, true, true, true, true, false, false, false, false, false, false, true, false, false, false] rfl rfl (one_of HT_.out (by kernel_rfl)) (by decide) (fun K hK => ?_)
                      refine step_capped (by rfl) rfl (.tmp 38) (.tmp 40) 22 3 .i64 8 rfl Try.underlying22 info3 (by omega) A8 x8 x9 (some ⟨g, 0, none⟩) 1 rfl rfl (Kd.R_reads' hf.ho).2.2 hX (by have := HL.out; omega) ?_
                      intro A c wA hCA hcA hg
                      have hb := grown_below hg
                      replace hf := hf.below hb
                      replace ht := ht.below hb
                      clear hb hg hX
                      refine hK.out _ _ hf.bx (fun hHeld => ?_)
                      clear hK K
                      refine norm_ (a' := ?_) ?_ ?_
                      rotate_left
                      · show Act.put _ (some 41) _ = _
                        simp only [Act.put, List.setIfInBounds_toArray, List.set_cons_zero, List.set_cons_succ, i64_w, i32_w]
                        rfl
                      exact norm_ (by first | (simp only [putAll, Act.put, List.setIfInBounds_toArray, List.set_cons_zero, List.set_cons_succ]; done) | (simp only [putAll, Act.put, List.setIfInBounds_toArray, List.set_cons_zero, List.set_cons_succ]; rfl)) (hD2 (g, A, c, gT) _ ⟨hf, ht, hCA, hcA⟩)
                    rintro ⟨g, A, c, gT⟩ wJ ⟨hf, ht, hCA, hcA⟩
                    have hHeld := hf.bx
                    refine norm_ (a' := ?_) ?_ ?_
                    rotate_left
                    · simp only [putAll, Act.put, List.setIfInBounds_toArray, List.set_cons_zero, List.set_cons_succ]
                      rfl
                    refine one_ (i := 12) (N := some 42) #[true, true, true, true, true, true, true, true, true, true, true, true, true, false, false, false, false, false, true, false, false, false] rfl rfl (one_of HT_.out (by kernel_rfl)) (by decide) (fun K hK => ?_)
                    refine goes_ Try.func48 (by kernel_rfl) rfl #[.agg #[.slice A0_0 l0_0.length c0_0, .int .i64 a0_1], .int .i64 a1, .int .i64 1, .slice A (x8 ++ [x9]).length c] (by rfl) rfl rfl (by simp only [List.map_toArray, List.map_cons, List.map_nil]; rfl) ?_
                    refine (shift_clock_bounds.calls k2 _ _ l0_0 a0_1 a1 1 _ _ (x8 ++ [x9]) b2 _ ?side1 ?side2 ?side3 ?side4 HF4.out).mono ?_
                    case side1 => exact Kd.C_below HR0.out hf.hb
                    case side2 => exact HC0.out
                    case side3 => exact hCA
                    case side4 => exact hcA
                    rintro e wB ⟨vB, rfl, ho0, hb⟩
                    refine ⟨_, rfl, ?_⟩
                    obtain ⟨AB, cB, hvB⟩ := Kd.R_slice ho0
                    rw [hvB]
                    rw [hvB] at ho0
                    have hCB := (Kd.R_reads' ho0).2.2
                    have hcB := (Kd.R_reads' ho0).2.1
                    replace hf := hf.below hb
                    replace ht := ht.below hb
                    clear hb ho0 hvB hCA hcA
                    refine hK.out _ _ hf.bx (fun hHeld => ?_)
                    clear hK K
                    refine norm_ (a' := ?_) ?_ ?_
                    rotate_left
                    · show Act.put _ (some 42) _ = _
                      simp only [Act.put, List.setIfInBounds_toArray, List.set_cons_zero, List.set_cons_succ, i64_w, i32_w]
                      rfl
                    exact norm_ (by first | (simp only [putAll, Act.put, List.setIfInBounds_toArray, List.set_cons_zero, List.set_cons_succ]; done) | (simp only [putAll, Act.put, List.setIfInBounds_toArray, List.set_cons_zero, List.set_cons_succ]; rfl)) (hD3 (g, A, c, AB, cB, gT) _ ⟨hf, ht, hCB, hcB⟩)
                  rintro ⟨g, A, c, AB, cB, gT⟩ wJ ⟨hf, ht, hCB, hcB⟩
                  have hHeld := hf.bx
                  refine norm_ (a' := ?_) ?_ ?_
                  rotate_left
                  · simp only [putAll, Act.put, List.setIfInBounds_toArray, List.set_cons_zero, List.set_cons_succ]
                    rfl
                  refine one_ (i := 13) (N := some 43) #[true, true, true, true, true, true, true, true, true, true, true, true, true, true, false, false, false, false, true, false, false, false] rfl rfl (one_of HT_.out (by kernel_rfl)) (by decide) (fun K hK => ?_)
                  refine goes_ Try.func47 (by kernel_rfl) rfl #[.agg #[.slice A0_0 l0_0.length c0_0, .int .i64 a0_1], .slice AB b2.length cB] (by rfl) rfl rfl (by simp only [List.map_toArray, List.map_cons, List.map_nil]; rfl) ?_
                  refine (solve_any k2 _ _ l0_0 a0_1 _ _ b2 z2 _ ?side1 ?side2 ?side3 ?side4 tb2 HT2.out HF5.out).mono ?_
                  case side1 => exact Kd.C_below HR0.out hf.hb
                  case side2 => exact HC0.out
                  case side3 => exact hCB
                  case side4 => exact hcB
                  rintro e wS ⟨vS, xs, rfl, hxs, hb⟩
                  refine ⟨_, rfl, ?_⟩
                  replace hf := hf.below hb
                  replace ht := ht.below hb
                  clear hb hCB hcB
                  refine hK.out _ _ hf.bx (fun hHeld => ?_)
                  clear hK K
                  refine norm_ (a' := ?_) ?_ ?_
                  rotate_left
                  · show Act.put _ (some 43) _ = _
                    simp only [Act.put, List.setIfInBounds_toArray, List.set_cons_zero, List.set_cons_succ, i64_w, i32_w]
                    rfl
                  refine pure_ (i := 14) (N := some 29) (v := ?_) (a' := ?_) #[true, true, true, true, true, true, true, true, true, true, true, true, true, true, true, false, false, false, true, false, false, false] rfl rfl (any_of HT_.out (by kernel_rfl)) (fun _ _ _ h => h) (Or.inl ⟨by rfl, ?_⟩) ?_ ?_
                  rotate_left
                  · intro w'
                    go_simp
                    with_reducible rfl
                  rotate_left
                  · simp only [Act.put, List.setIfInBounds_toArray, List.set_cons_zero, List.set_cons_succ, i64_w, i32_w]
                    rfl
                  refine pure_ (i := 15) (N := some 44) (v := ?_) (a' := ?_) #[true, true, true, true, true, true, true, true, true, true, true, true, true, true, true, true, false, false, true, false, false, false] rfl rfl (any_of HT_.out (by kernel_rfl)) (fun _ _ _ h => h) (Or.inl ⟨by rfl, ?_⟩) ?_ ?_
                  rotate_left
                  · intro w'
                    go_simp
                    with_reducible rfl
                  rotate_left
                  · simp only [Act.put, List.setIfInBounds_toArray, List.set_cons_zero, List.set_cons_succ, i64_w, i32_w]
                    rfl
                  refine pure_ (i := 16) (N := some 45) (v := ?_) (a' := ?_) #[true, true, true, true, true, true, true, true, true, true, true, true, true, true, true, true, true, false, true, false, false, false] rfl rfl (any_of HT_.out (by kernel_rfl)) (fun _ _ _ h => h) (Or.inl ⟨by rfl, ?_⟩) ?_ ?_
                  rotate_left
                  · intro w'
                    go_simp
                    with_reducible rfl
                  rotate_left
                  · simp only [Act.put, List.setIfInBounds_toArray, List.set_cons_zero, List.set_cons_succ, i64_w, i32_w]
                    rfl
                  refine pure_ (i := 17) (N := some 46) (v := ?_) (a' := ?_) #[true, true, true, true, true, true, true, true, true, true, true, true, true, true, true, true, true, true, true, false, false, false] rfl rfl (any_of HT_.out (by kernel_rfl)) (fun _ _ _ h => h) (Or.inl ⟨by rfl, ?_⟩) ?_ ?_
                  rotate_left
                  · intro w'
                    go_simp
                    with_reducible rfl
                  rotate_left
                  · simp only [Act.put, List.setIfInBounds_toArray, List.set_cons_zero, List.set_cons_succ, i64_w, i32_w]
                    rfl
                  exact norm_ (by first | (simp only [putAll, Act.put, List.setIfInBounds_toArray, List.set_cons_zero, List.set_cons_succ]; done) | (simp only [putAll, Act.put, List.setIfInBounds_toArray, List.set_cons_zero, List.set_cons_succ]; rfl)) (hD4 (g, A, c, AB, cB, vS, xs, gT) _ ⟨hf, ht, hxs⟩)
                rintro ⟨g, A, c, AB, cB, vS, xs, gT⟩ wJ ⟨hf, ht, hxs⟩
                have hHeld := hf.bx
                refine norm_ (a' := ?_) ?_ ?_
                rotate_left
                · simp only [putAll, Act.put, List.setIfInBounds_toArray, List.set_cons_zero, List.set_cons_succ]
                  rfl
                refine one_ (i := 19) (N := none) #[true, true, true, true, true, true, true, true, true, true, true, true, true, true, true, true, true, true, true, true, false, false] rfl rfl (one_of HT_.out (by kernel_rfl)) (by decide) (fun K hK => ?_)
                refine skip_ (w1 := wJ.setRow gT (nums .i64 xs).toArray) (by rfl) rfl (exec_store_row _ _ 60 (.tmp 10) (.tmp 44) rfl gT _ rfl rfl 60 _ ht.bk (by rw [size60, nums_size, hxs]) (by rw [nums_size, nums_size, hxs]; rfl) (nums_all _)) ?_
                replace hf := ht.stored hf (nums .i64 xs).toArray
                refine hK.out _ _ hf.bx (fun hHeld => ?_)
                clear hK K ht
                generalize wJ.setRow gT (nums .i64 xs).toArray = wZ at hf hHeld ⊢
                refine pure_ (i := 20) (N := some 11) (v := ?_) (a' := ?_) #[true, true, true, true, true, true, true, true, true, true, true, true, true, true, true, true, true, true, true, true, true, false] rfl rfl (any_of HT_.out (by kernel_rfl)) (fun _ _ _ h => h) (Or.inl ⟨by rfl, ?_⟩) ?_ ?_
                rotate_left
                · intro w'
                  go_simp
                  with_reducible rfl
                rotate_left
                · simp only [Act.put, List.setIfInBounds_toArray, List.set_cons_zero, List.set_cons_succ, i64_w, i32_w]
                  rfl
                refine pure_ (i := 21) (N := some 12) (v := ?_) (a' := ?_) #[true, true, true, true, true, true, true, true, true, true, true, true, true, true, true, true, true, true, true, true, true, true] rfl rfl (any_of HT_.out (by kernel_rfl)) (fun _ _ _ h => h) (Or.inl ⟨by rfl, ?_⟩) ?_ ?_
                rotate_left
                · intro w'
                  go_simp
                  with_reducible rfl
                rotate_left
                · simp only [Act.put, List.setIfInBounds_toArray, List.set_cons_zero, List.set_cons_succ, i64_w, i32_w]
                  rfl
                refine done_ (done_of HT_.out (by kernel_rfl)) ?_
                have HF := Aside0.mk hf
                clear hf hHeld HT_ HW_
                have h80 := HF6.out
                rw [HT2.out] at h80
                clear HF6 HT2
                cases tb2
                rotate_left
                · have h8 := h80
                  clear h80
                  rw [if_pos rfl] at h8
                  have HA2 := Aside0.mk h8
                  clear h8
                  obtain ⟨y8, hy8⟩ : ∃ y : List Int, y = x8 ++ [x9] := ⟨_, rfl⟩
                  have NY := Aside0.mk hy8
                  clear hy8
                  go_wp2_with (first | ((with_reducible refine gate_builtin (b := .append) (xs := #[.tmp 50, .tmp 52]) rfl ?_); at_builtin; refine Kd.R_append (Kd.int .i64) (w0 := w) w.heap.size rfl (.tmp 50) (.tmp 52) 22 3 (.int .i64 0) 8 rfl Try.underlying22 info3 rfl (by decide) (by omega) (.slice A8 x8.length c8) x8 x9 [.int .i64 x9] (fun _ => True) (fun _ => False) rfl rfl rfl (fun _ hk => hk.elim) (fun _ _ => trivial) HF.out.ho HF.out.hb HF.out.hb.size (by have := HL.out; omega) ?_; intro v53 w53 ho hb hg hat; rw [← NY.out] at ho; have HO := Aside0.mk ho; have HB := Aside0.mk hb; have HBX := Aside0.mk (blk_grown HF.out.bx hg (HF.out.ne8)); clear ho hb hg hat))
                  go_roundg k2
                  case measure => have := HK1.out; have := HK2.out; omega
                  case rel => exact ⟨y8, _, rfl, ⟨by rw [NY.out]; exact HA2.out⟩, ⟨by have := HK1.out; have := HK2.out; omega⟩, ⟨⟨HBX.out, HB.out, HO.out⟩⟩, ⟨fun e1 => absurd e1 (by rw [NY.out]; simp)⟩⟩
                · have h8 := h80
                  clear h80
                  rw [if_neg (by decide)] at h8
                  have HA2 := Aside0.mk h8
                  clear h8
                  go_wp2_with fail
                  go_roundg k2
                  case measure => have := HK1.out; have := HK2.out; omega
                  case rel => exact ⟨_, rfl, HA2, ⟨by have := HK1.out; have := HK2.out; omega⟩, HF⟩
              · rw [if_neg hle] at h5
                exact absurd h5 (by simp)
        · rw [if_neg hlt] at h4
          obtain rfl := Option.some.inj h4
          have hdl := decide_eq_false hlt
          clear h4 hlt
          go_wp2_with fail
          go_ret
          exact ⟨_, rfl, HF.out.ho, HN8.out, HF.out.hb⟩
  · have h3 := h30
    clear h30
    rw [if_neg (by decide)] at h3
    obtain rfl := Option.some.inj h3
    clear h3
    go_wp2_with fail
    go_ret
    exact ⟨.slice none 0 0, rfl, Kd.R_nil _ _ _ _ _, rfl, HZ.out.hb⟩
theorem shift_clock_first.calls (k : Nat) (A0_0 : Option Addr) (c0_0 : Nat) (l0_0 : List Int) (a0_1 : Int) (a1 : Int) (r : List Int) (w : World) (hr0_0 : Kd.C (Kd.int .i64) w A0_0 l0_0.length l0_0) (hc0_0 : l0_0.length ≤ c0_0) (h : shift_clock_first.f k l0_0 a0_1 a1 = some r) :
    Calls Try.prog 49 #[.agg #[.slice A0_0 l0_0.length c0_0, .int .i64 a0_1], .int .i64 a1] w fun e w' => ∃ v0_ : Value, e = .returned (v0_) ∧ Kd.R (Kd.int .i64) 3 w' w.heap.size (fun _ => True) v0_ r ∧ Below w.heap.size w w' :=
  (shift_clock_first.walk k A0_0 c0_0 l0_0 a0_1 a1 r w hr0_0 hc0_0 h).mono fun e w' ⟨v, h1, h2, _, h3⟩ => ⟨v, h1, h2, h3⟩

end Go.Proofs.Ytfopdfolbdmnjaa.P
