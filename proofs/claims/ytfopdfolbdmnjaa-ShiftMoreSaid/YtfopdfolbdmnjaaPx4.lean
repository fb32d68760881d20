-- Written by wip/tools/myprint.py of this session's repo, over the kit's printer and hand texts.
import Derived.Test.YtfopdfolbdmnjaaPx0
import Derived.Test.YtfopdfolbdmnjaaPx3
namespace Go.Proofs.Ytfopdfolbdmnjaa.P
open Go.RowKit Go.Proofs.YtfopdfolbdmnjaaW.PrintWords Go.Proofs.YtfopdfolbdmnjaaW.PrintLast Go.Proofs.YtfopdfolbdmnjaaW.PrintMore
attribute [local go_sem] max2_int min2_int max_two min_two max_three min_three max_four min_four   -- for this text's walks alone
set_option linter.unusedVariables false
set_option linter.unusedSimpArgs false

/-! ### shift_clock_solve: function 47 -/
/-- The four variables in memory of one call of solve. -/
structure SolveW (w w' : World) (A : Option Addr) (n c : Nat) (long : Int) (now by_ : List Int) : Prop where
  b0 : w'.heap[w.heap.size]? = some (.cells #[.slice A n c, .int .i64 long] 49 (0, 0))
  b1 : w'.heap[w.heap.size + 1]? = some (.cells (nums .i64 (List.replicate 13 0)).toArray 60 (0, 0))
  b2 : w'.heap[w.heap.size + 1 + 1]? = some (.cells (nums .i64 now).toArray 60 (0, 0))
  b3 : w'.heap[w.heap.size + 1 + 1 + 1]? = some (.cells (nums .i64 by_).toArray 59 (0, 0))
  below : Below w.heap.size w w'
  ln : now.length = 13
  lb : by_.length = 13
theorem nums_get (xs : List Int) (i : Int) (h0 : 0 ≤ i) (h1 : i < xs.length) : (nums .i64 xs).toArray[i.toNat]? = some (.int .i64 (rd xs i)) := by
  have : i.toNat < xs.length := by omega
  simp [nums, rd, List.getElem?_eq_getElem this, List.getD_eq_getElem?_getD]
theorem nums_set (xs : List Int) (i : Nat) (x : Int) : (nums .i64 xs).toArray.setIfInBounds i (.int .i64 x) = (nums .i64 (xs.set i x)).toArray := by
  simp [nums, List.map_set]
theorem blk_new_at (w : World) (o : Obj) (n : Nat) (h : w.heap.size = n) : (w.alloc o).heap[n]? = some o := h ▸ blk_new w o
theorem SolveW.cell2 {w w' : World} {A : Option Addr} {n c : Nat} {long : Int} {now by_ : List Int} (h : SolveW w w' A n c long now by_) (i : Int) (h0 : 0 ≤ i) (h1 : i < 13) : w'.cell? ⟨w.heap.size + 1 + 1, i.toNat, none⟩ = some (.int .i64 (rd now i)) :=
  (blk_cell h.b2 i.toNat).trans (nums_get now i h0 (by rw [h.ln]; exact h1))
theorem SolveW.cell3 {w w' : World} {A : Option Addr} {n c : Nat} {long : Int} {now by_ : List Int} (h : SolveW w w' A n c long now by_) (i : Int) (h0 : 0 ≤ i) (h1 : i < 13) : w'.cell? ⟨w.heap.size + 1 + 1 + 1, i.toNat, none⟩ = some (.int .i64 (rd by_ i)) :=
  (blk_cell h.b3 i.toNat).trans (nums_get by_ i h0 (by rw [h.lb]; exact h1))
theorem SolveW.fr2 {w w' : World} {A : Option Addr} {n c : Nat} {long : Int} {now by_ : List Int} (h : SolveW w w' A n c long now by_) (i : Nat) : w'.frozen? ⟨w.heap.size + 1 + 1, i, none⟩ = false := blk_frozen h.b2 i
theorem SolveW.fr3 {w w' : World} {A : Option Addr} {n c : Nat} {long : Int} {now by_ : List Int} (h : SolveW w w' A n c long now by_) (i : Nat) : w'.frozen? ⟨w.heap.size + 1 + 1 + 1, i, none⟩ = false := blk_frozen h.b3 i
theorem SolveW.set2 {w w' : World} {A : Option Addr} {n c : Nat} {long : Int} {now by_ : List Int} (h : SolveW w w' A n c long now by_) (i : Nat) (x : Int) : SolveW w (w'.setCell ⟨w.heap.size + 1 + 1, i, none⟩ (.int .i64 x)) A n c long (now.set i x) by_ :=
  ⟨blk_far h.b0 (by simp <;> omega) _, blk_far h.b1 (by simp) _, by rw [blk_set h.b2, nums_set], blk_far h.b3 (by simp) _, h.below.setCell (by simp <;> omega) _, by rw [List.length_set]; exact h.ln, h.lb⟩
theorem SolveW.set3 {w w' : World} {A : Option Addr} {n c : Nat} {long : Int} {now by_ : List Int} (h : SolveW w w' A n c long now by_) (i : Nat) (x : Int) : SolveW w (w'.setCell ⟨w.heap.size + 1 + 1 + 1, i, none⟩ (.int .i64 x)) A n c long now (by_.set i x) :=
  ⟨blk_far h.b0 (by simp <;> omega) _, blk_far h.b1 (by simp <;> omega) _, blk_far h.b2 (by simp) _, by rw [blk_set h.b3, nums_set], h.below.setCell (by simp <;> omega) _, h.ln, by rw [List.length_set]; exact h.lb⟩
theorem SolveW.alloc {w w' : World} {A : Option Addr} {n c : Nat} {long : Int} {now by_ : List Int} (h : SolveW w w' A n c long now by_) (o : Obj) : SolveW w (w'.alloc o) A n c long now by_ :=
  ⟨blk_alloc h.b0 o, blk_alloc h.b1 o, blk_alloc h.b2 o, blk_alloc h.b3 o, below_alloc h.below o, h.ln, h.lb⟩
theorem SolveW.drew {w w' : World} {A : Option Addr} {n c : Nat} {long : Int} {now by_ : List Int} (h : SolveW w w' A n c long now by_) : SolveW w w'.drew A n c long now by_ := ⟨h.b0, h.b1, h.b2, h.b3, below_drew h.below, h.ln, h.lb⟩
theorem SolveW.drewN {w w' : World} {A : Option Addr} {n c : Nat} {long : Int} {now by_ : List Int} (h : SolveW w w' A n c long now by_) (k : Nat) : SolveW w (w'.drewN k) A n c long now by_ := ⟨h.b0, h.b1, h.b2, h.b3, pw_below_drewN h.below k, h.ln, h.lb⟩
theorem SolveW.setRow {w w' : World} {A : Option Addr} {n c : Nat} {long : Int} {now by_ : List Int} (h : SolveW w w' A n c long now by_) (g : Nat) (hg : w.heap.size + 4 ≤ g) (cs : Array Value) : SolveW w (w'.setRow g cs) A n c long now by_ :=
  ⟨(setRow_other _ _ _ _ (by omega)).trans h.b0, (setRow_other _ _ _ _ (by omega)).trans h.b1, (setRow_other _ _ _ _ (by omega)).trans h.b2, (setRow_other _ _ _ _ (by omega)).trans h.b3, below_setRow h.below (by omega) _, h.ln, h.lb⟩
theorem SolveW.below2 {w w' : World} {A : Option Addr} {n c : Nat} {long : Int} {now by_ : List Int} {w2 : World} (h : SolveW w w' A n c long now by_) (hb : Below w'.heap.size w' w2) : SolveW w w2 A n c long now by_ :=
  ⟨blk_below h.b0 hb, blk_below h.b1 hb, blk_below h.b2 hb, blk_below h.b3 hb, below_then h.below h.below.size hb, h.ln, h.lb⟩
theorem SolveW.reads3 {w w' : World} {A : Option Addr} {n c : Nat} {long : Int} {now by_ : List Int} (h : SolveW w w' A n c long now by_) : Kd.C (Kd.int .i64) w' (some ⟨w.heap.size + 1 + 1 + 1, 0, none⟩) by_.length by_ := by
  refine Kd.C_of_reads (d := (0 : Int)) ⟨rfl, by rw [h.lb]; decide, fun _ => ⟨_, rfl, fun j hj => ?_⟩⟩
  have h1 := h.cell3 (j : Int) (by omega) (by rw [h.lb] at hj; omega)
  rw [add_plain]
  simpa [rd] using h1
theorem SolveW.size4 {w w' : World} {A : Option Addr} {n c : Nat} {long : Int} {now by_ : List Int} (h : SolveW w w' A n c long now by_) : w.heap.size + 4 ≤ w'.heap.size := by have := blk_lt h.b3; omega
theorem SolveW.start (w : World) (A : Option Addr) (n c : Nat) (long : Int) :
    SolveW w ((((w.alloc (.cells #[.slice A n c, .int .i64 long] 49)).alloc (.cells (nums .i64 (List.replicate 13 0)).toArray 60)).alloc (.cells (nums .i64 (List.replicate 13 0)).toArray 60)).alloc (.cells (nums .i64 (List.replicate 13 0)).toArray 59)) A n c long (List.replicate 13 0) (List.replicate 13 0) :=
  ⟨blk_alloc (blk_alloc (blk_alloc (blk_new _ _) _) _) _, blk_alloc (blk_alloc (blk_new_at _ _ _ (by simp)) _) _, blk_alloc (blk_new_at _ _ _ (by simp)) _, blk_new_at _ _ _ (by simp), below_alloc (below_alloc (below_alloc (below_alloc (Below.refl _ _) _) _) _) _, rfl, rfl⟩
theorem cell0 {w w' : World} {A : Option Addr} {n c : Nat} {long : Int} {now by_ : List Int} (h : SolveW w w' A n c long now by_) : w'.cell? ⟨w.heap.size, 0, none⟩ = some (.slice A n c) := (blk_cell h.b0 0).trans rfl
/-- One round: the bounds from number j on. -/
def relaxL : List S72 → Int → List Int → List Int → Int → Option (List Int × List Int × Int)
  | [], _, now, by_, ch => some (now, by_, ch)
  | b :: t, j, now, by_, ch => if 0 ≤ b.f0 ∧ b.f0 < 13 ∧ 0 ≤ b.f1 ∧ b.f1 < 13 then (if rd now b.f1 < wrap64 (rd now b.f0 + b.f2) then relaxL t (j + 1) (now.set b.f1.toNat (wrap64 (rd now b.f0 + b.f2))) (by_.set b.f1.toNat j) b.f1 else relaxL t (j + 1) now by_ ch) else none
def roundsL (l : List S72) : Nat → List Int → List Int → Option (List Int × List Int × Bool)
  | 0, now, by_ => some (now, by_, false)
  | m + 1, now, by_ => (relaxL l 0 now by_ (-1)).bind fun z => if z.2.2 < 0 then some (now, z.2.1, true) else roundsL l m z.1 z.2.1
def shift_clock_solve.f (k : Nat) (l0_0 : List Int) (a0_1 : Int) (l1 : List (S72)) : Option (Int × Int × Int × Int × Int × Int × Int × Int × Int × Int × Int × Int × Int × List Int × Bool) :=
  if l0_0.length < 1000 then ((roundsL l1 (2 * (l0_0.length + 2)) (List.replicate 13 0) (List.replicate 13 (-1))).bind fun z =>
    if z.2.2 = true then some (rd z.1 0, rd z.1 1, rd z.1 2, rd z.1 3, rd z.1 4, rd z.1 5, rd z.1 6, rd z.1 7, rd z.1 8, rd z.1 9, rd z.1 10, rd z.1 11, rd z.1 12, [], true)
    else (shift_clock_contradiction.f k l0_0 a0_1 l1 z.2.1).bind fun h => some (rd z.1 0, rd z.1 1, rd z.1 2, rd z.1 3, rd z.1 4, rd z.1 5, rd z.1 6, rd z.1 7, rd z.1 8, rd z.1 9, rd z.1 10, rd z.1 11, rd z.1 12, h, false)) else none
theorem shift_clock_solve.mono : ∀ a0 a1 a2 k, LeO (shift_clock_solve.f k a0 a1 a2) (shift_clock_solve.f (k + 1) a0 a1 a2) := by
  intro a0 a1 a2 k
  unfold shift_clock_solve.f
  refine LeO.ite (LeO.bind (LeO.refl _) fun z => LeO.ite (LeO.refl _) (LeO.bind (shift_clock_contradiction.mono _ _ _ _ _) fun _ => LeO.refl _)) (LeO.refl _)
theorem gate_dst0 {P : Program} {ops : Array Oper} {rest : List Oper} {o : Oper} {a : Act} {W : World} {Q : Exit → Act → World → Prop} (_hd : o.dst = none) (h : wpList P ops Q (o :: rest) a W) : wpList P ops Q (o :: rest) a W := h
/-- The whole of an array's variable is stored. -/
theorem store_row_ev {P : Program} {ops : Array Oper} {rest : List Oper} {o : Oper} {a : Act} {W : World} {Q : Exit → Act → World → Prop} (hgd : o.guard = none) (ty : TypeId) (x y : Operand) (ho : o.op = .store ty x y)
    (g : Nat) (cells : Array Value) (hx : a.eval x = .pointer (some ⟨g, 0, none⟩)) (hy : a.eval y = .agg cells)
    (t : TypeId) (old : Array Value) (hg : W.heap[g]? = some (.cells old t (0, 0))) (hi : (P.info? ty).map (·.size) = some cells.size)
    (hold : old.size = cells.size) (h1 : cells.all (·.oneCell') = true)
    (h : ∀ w1, w1 = W.setRow g cells → w1.heap[g]? = some (.cells cells t (0, 0)) → wpList P ops Q rest (a.put o.dst undef) w1) : wpList P ops Q (o :: rest) a W :=
  wpList_store_row hgd ty x y ho g cells hx hy t old hg hi hold h1 (h _ rfl (setRow_heap W g _ _ t _ hg))
theorem exec_load_row {P : Program} {w : World} (f : Operand → Value) (o : Oper) (ty : TypeId) (x : Operand) (ho : o.op = .load ty x)
    (g : Nat) (hx : f x = .pointer (some ⟨g, 0, none⟩)) (t : TypeId) (cs : Array Value) (fr : Nat × Nat) (d : TypeDesc) (hg : w.heap[g]? = some (.cells cs t fr))
    (hu : P.underlying ty = some d) (hd : (match d with | .struct _ | .array _ _ => true | _ => false) = true) (hi : (P.info? ty).map (·.size) = some cs.size) :
    (execOp f o).run P w = .ok (.value (.agg cs)) w := by
  unfold execOp
  simp only [ho, hx, Instr.loadAt, Instr.sureAddr, Sem.run_bind, Sem.run_pure, Result.andThen_ok, run_loadVar_row w g t ty cs fr d hg hu hd hi]
theorem exec_store_row {P : Program} {w : World} (f : Operand → Value) (o : Oper) (ty : TypeId) (x y : Operand) (ho : o.op = .store ty x y)
    (g : Nat) (cells : Array Value) (hx : f x = .pointer (some ⟨g, 0, none⟩)) (hy : f y = .agg cells)
    (t : TypeId) (old : Array Value) (hg : w.heap[g]? = some (.cells old t (0, 0))) (hi : (P.info? ty).map (·.size) = some cells.size)
    (hold : old.size = cells.size) (h1 : cells.all (·.oneCell') = true) : (execOp f o).run P w = .ok .skip (w.setRow g cells) := by
  unfold execOp
  simp only [ho, hx, hy, Instr.storeAt, Instr.sureAddr, Sem.run_bind, Sem.run_pure, Result.andThen_ok, run_storeVar_row w g t ty old cells hg hi hold h1]
theorem size49 : (Try.prog.info? 49).map (·.size) = some 2 := by kernel_rfl
theorem four_all (a b c d : Int) : (#[.int .i64 a, .int .i64 b, .int .i64 c, .int .i64 d] : Array Value).all (·.oneCell') = true := by
  rw [Array.all_eq_true_iff_forall_mem]
  intro v hv
  simp only [List.mem_toArray, List.mem_cons, List.not_mem_nil, or_false] at hv
  rcases hv with rfl | rfl | rfl | rfl <;> rfl
theorem size72 : (Try.prog.info? 72).map (·.size) = some 4 := by kernel_rfl
theorem size60 : (Try.prog.info? 60).map (·.size) = some 13 := by kernel_rfl
theorem nums_all (xs : List Int) : (nums .i64 xs).toArray.all (·.oneCell') = true := by
  rw [Array.all_eq_true_iff_forall_mem]
  intro v hv
  simp only [nums, List.mem_toArray, List.mem_map] at hv
  obtain ⟨q, _, rfl⟩ := hv
  rfl
theorem nums_size (xs : List Int) : (nums .i64 xs).toArray.size = xs.length := by simp [nums]
theorem solve_walk (k : Nat) (A0_0 : Option Addr) (c0_0 : Nat) (l0_0 : List Int) (a0_1 : Int) (A1 : Option Addr) (c1 : Nat) (l1 : List (S72)) (w : World) (hr0_0 : Kd.C (Kd.int .i64) w A0_0 l0_0.length l0_0) (hc0_0 : l0_0.length ≤ c0_0) (hr1 : Kd.C k72 w A1 l1.length l1) (hc1 : l1.length ≤ c1) (now1 by1 : List Int) (ok1 : Bool) (hn : l0_0.length < 1000) (hro : roundsL l1 (2 * (l0_0.length + 2)) (List.replicate 13 0) (List.replicate 13 (-1)) = some (now1, by1, ok1)) (hours : List Int) (hcon : (ok1 = true → hours = []) ∧ (ok1 = false → shift_clock_contradiction.f k l0_0 a0_1 l1 by1 = some hours)) :
    Calls Try.prog 47 #[.agg #[.slice A0_0 l0_0.length c0_0, .int .i64 a0_1], .slice A1 l1.length c1] w fun e w' => ∃ v13_ : Value, e = .returned (.tuple #[.agg (nums .i64 now1).toArray, v13_, .bool ok1]) ∧ Kd.R (Kd.int .i64) 3 w' w.heap.size (fun _ => True) v13_ hours ∧ Below w.heap.size w w' := by
  have HN := Aside0.mk hn
  have HRO := Aside0.mk hro
  have HCON := Aside0.mk hcon
  clear hcon
  clear hn hro
  have HR0_0 := Aside0.mk hr0_0
  have HC0_0 := Aside0.mk hc0_0
  clear hr0_0 hc0_0
  have HR1 := Aside0.mk hr1
  have HC1 := Aside0.mk hc1
  clear hr1 hc1
  go_enter Try.func47, Try.ntmps47
  go_wp2_with fail
  go_loopg [15] 14 (fun kq v15 w' => ∃ (x : Int) (by_ : List Int), v15 = .int .i64 x ∧ Aside0 (0 ≤ x ∧ x ≤ 13 ∧ (kq : Int) = 14 - x) ∧ Aside0 (SolveW w w' A0_0 l0_0.length c0_0 a0_1 (List.replicate 13 0) by_) ∧ Aside0 (∀ j, j < x.toNat → by_[j]? = some (-1)))
  case atStart => exact ⟨0, List.replicate 13 0, rfl, ⟨by omega⟩, ⟨SolveW.start _ _ _ _ _⟩, ⟨fun j hj => by simp at hj⟩⟩
  case round =>
    obtain ⟨x, by_, rfl, HX, HS, HP⟩ := hrel
    have hx0 : 0 ≤ x := HX.out.1
    by_cases hx : x < 13
    · have hd := decide_eq_true hx
      have hc := HS.out.cell3 x hx0 hx
      have hf := HS.out.fr3 x.toNat
      go_wp2_with fail
      go_roundg (gk - 1)
      case measure => have := HX.out; omega
      case rel => exact ⟨x + 1, by_.set x.toNat (-1), by go_num, ⟨by have := HX.out; omega⟩, ⟨HS.out.set3 x.toNat (-1)⟩, ⟨by
        intro j hj
        rw [List.getElem?_set]
        by_cases e : x.toNat = j
        · rw [if_pos e, if_pos (by rw [HS.out.lb]; omega)]
        · rw [if_neg e]; exact HP.out j (by omega)⟩⟩
    · have hd := decide_eq_false hx
      have h0 := cell0 HS.out
      obtain rfl : by_ = List.replicate 13 (-1) := by
        apply List.ext_getElem?
        intro j
        have hx13 : x = 13 := by have := HX.out; omega
        rcases Nat.lt_or_ge j 13 with hj | hj
        · rw [HP.out j (by omega), List.getElem?_replicate, if_pos hj]
        · rw [List.getElem?_eq_none (by rw [HS.out.lb]; exact hj), List.getElem?_eq_none (by simpa using hj)]
      have hn0 : l0_0.length < 1000 := HN.out
      clear HP HX
      go_wp2_with fail
      clear hd hx hx0
      go_loopg [27] (2 * (l0_0.length + 2) + 1) (fun kq v27 w' => ∃ (y : Int) (now by_ : List Int), v27 = .int .i64 y ∧ Aside0 (0 ≤ y ∧ (kq : Int) = 2 * (l0_0.length + 2) + 1 - y ∧ 0 < kq) ∧ Aside0 (SolveW w w' A0_0 l0_0.length c0_0 a0_1 now by_) ∧ Aside0 (roundsL l1 (kq - 1) now by_ = some (now1, by1, ok1)))
      case atStart => exact ⟨0, _, _, rfl, ⟨by omega⟩, HS, HRO⟩
      case round =>
        obtain ⟨y, now, by_, rfl, HY, HS, HA⟩ := hrel
        have hy0 : 0 ≤ y := HY.out.1
        by_cases hy : y < 2 * ((l0_0.length : Int) + 2)
        · have hd := decide_eq_true hy
          clear h0
          have h60 := Try.underlying60
          go_wp2_with (first
            | ((with_reducible refine gate_dst (N := 29) rfl ?_); refine wpList_load_row rfl 60 (.tmp 7) rfl (w.heap.size + 1 + 1) rfl 60 _ (0, 0) _ HS.out.b2 Try.underlying60 rfl (by rw [size60, nums_size, HS.out.ln]) ?_)
            | ((with_reducible refine gate_dst0 rfl ?_); refine store_row_ev rfl 60 (.tmp 11) (.tmp 29) rfl wr.heap.size (nums .i64 now).toArray rfl rfl 60 _ (blk_new _ _) (by rw [size60, nums_size, HS.out.ln]) (by rw [nums_size, HS.out.ln]; rfl) (nums_all _) ?_; intro w9 hw9 hwas0; have HW9 := Aside0.mk hw9; have HWAS := Aside0.mk hwas0; clear hw9 hwas0))
          obtain ⟨gw, hgw⟩ : ∃ g, g = wr.heap.size := ⟨_, rfl⟩
          have hgw4 : w.heap.size + 4 ≤ gw := by rw [hgw]; exact HS.out.size4
          have HS9 : Aside0 (SolveW w w9 A0_0 l0_0.length c0_0 a0_1 now by_) := ⟨by rw [HW9.out]; exact (HS.out.alloc _).setRow _ HS.out.size4 _⟩
          rw [← hgw] at HWAS ⊢
          clear HW9 HS hgw
          obtain ⟨m, hm⟩ : ∃ m, gk = m + 1 + 1 := ⟨gk - 2, by have := HY.out; omega⟩
          obtain ⟨z, hz1, hz2⟩ : ∃ z, relaxL l1 0 now by_ (-1) = some z ∧ (if z.2.2 < 0 then some (now, z.2.1, true) else roundsL l1 m z.1 z.2.1) = some (now1, by1, ok1) := by
            have h1 := HA.out
            rw [hm, show m + 1 + 1 - 1 = m + 1 from rfl] at h1
            simp only [roundsL] at h1
            exact Option.bind_eq_some_iff.1 h1
          obtain ⟨now2, by2, ch2⟩ := z
          have HZ1 := Aside0.mk hz1
          have HZ2 := Aside0.mk hz2
          have HM := Aside0.mk hm
          have hln : now.length = 13 := HS9.out.ln
          clear hz1 hz2 HA hm
          obtain ⟨gk2, hgk2⟩ : ∃ k, k = gk := ⟨_, rfl⟩
          rw [← hgk2] at HY HM
          have HGK := Aside0.mk hgk2
          clear hgk2
          go_loopg [12, 32] (l1.length + 1) (fun kq v12 v32 w' => ∃ (j ch : Int) (nowc byc : List Int), v32 = .int .i64 j ∧ v12 = .int .i64 ch ∧ Aside0 (0 ≤ j ∧ (kq : Int) = l1.length + 1 - j ∧ 0 < kq) ∧ Aside0 (SolveW w w' A0_0 l0_0.length c0_0 a0_1 nowc byc) ∧ Aside0 (w'.heap[gw]? = some (.cells (nums .i64 now).toArray 60 (0, 0))) ∧ Aside0 (relaxL (l1.drop j.toNat) j nowc byc ch = some (now2, by2, ch2)))
          case atStart => exact ⟨0, -1, _, _, rfl, rfl, ⟨by omega⟩, HS9, HWAS, HZ1⟩
          case round =>
            obtain ⟨j, ch, nowc, byc, rfl, rfl, HJ, HS, HWAS, HR⟩ := hrel
            have hj0 : 0 ≤ j := HJ.out.1
            clear HS9
            have hlm : l1.length ≤ 9223372036854775807 := HR1.out.2.1
            by_cases hj : j < (l1.length : Int)
            · have hdj := decide_eq_true hj
              obtain ⟨ad, eA, hc0, hc1, hc2, hc3⟩ := at_T72 (Kd.C_below HR1.out (by exact HS.out.below)) j hj0 hj
              cases eA
              have hdrop : l1.drop j.toNat = rd_T72 l1 j :: l1.drop (j + 1).toNat := by
                rw [List.drop_eq_getElem_cons (show j.toNat < l1.length by omega)]
                congr 1
                · simp [rd_T72, List.getD_eq_getElem?_getD, List.getElem?_eq_getElem (show j.toNat < l1.length by omega)]
                · congr 1; omega
              have hR := HR.out
              rw [hdrop] at hR
              simp only [relaxL] at hR
              generalize rd_T72 l1 j = b at hc0 hc1 hc2 hc3 hR
              obtain ⟨f0, f1, f2, f3⟩ := b
              simp only at hc0 hc1 hc2 hc3 hR
              by_cases hin : 0 ≤ f0 ∧ f0 < 13 ∧ 0 ≤ f1 ∧ f1 < 13
              · rw [if_pos hin] at hR
                obtain ⟨p0, q0, p1, q1⟩ := hin
                have HR2 := Aside0.mk hR
                clear hR HR hdrop
                go_wp2_with (first
                  | ((with_reducible refine gate_dst (N := 14) rfl ?_); refine box_event ?hg (N := 14) ?hd (cs := #[.int .i64 0, .int .i64 0, .int .i64 0, .int .i64 0]) (t := 72) ?hr ?_; (case hd => rfl); (case hg => rfl); (case hr => first | (go_simp; done) | (go_simp; rfl)); intro gb hg w10 hbox hb; have HG := Aside0.mk (show w.heap.size + 4 ≤ gb by have := HS.out.size4; omega); have HBX := Aside0.mk hbox; have HSA := Aside0.mk (HS.out.below2 hb); have HWA := Aside0.mk (blk_below HWAS.out hb); have HGN := Aside0.mk (show gw ≠ gb by have := blk_lt HWAS.out; omega); clear hg hbox hb)
                  | ((with_reducible refine gate_dst0 rfl ?_); refine store_row_ev rfl 72 (.tmp 14) (.tmp 36) rfl gb #[.int .i64 f0, .int .i64 f1, .int .i64 f2, .int .i64 f3] rfl rfl 72 _ HBX.out size72 rfl (four_all f0 f1 f2 f3) ?_; intro w11 hw11 hbx; have HB11 := Aside0.mk hbx; have HS11 := Aside0.mk (show SolveW w w11 _ _ _ _ _ _ by rw [hw11]; exact HSA.out.setRow _ HG.out _); have HWA11 := Aside0.mk ((congrArg (fun W => W.heap[gw]?) hw11).trans ((setRow_other _ _ _ _ HGN.out).trans HWA.out)); clear hw11 hbx))
                clear hc0 hc1 hc2 hc3 HGN HBX HSA HWA HWAS HS
                have hb0 : w11.cell? ⟨gb, 0, none⟩ = some (.int .i64 f0) := (blk_cell HB11.out 0).trans rfl
                have hb1 : w11.cell? ⟨gb, 1, none⟩ = some (.int .i64 f1) := (blk_cell HB11.out 1).trans rfl
                have hb2 : w11.cell? ⟨gb, 2, none⟩ = some (.int .i64 f2) := (blk_cell HB11.out 2).trans rfl
                have hv0 := HS11.out.cell2 f0 p0 q0
                have hv1 := HS11.out.cell2 f1 p1 q1
                by_cases hgt : rd nowc f1 < wrap64 (rd nowc f0 + f2)
                · have hR2 := HR2.out
                  rw [if_pos hgt] at hR2
                  have HR3 := Aside0.mk hR2
                  clear HR2 hR2
                  have hdg := decide_eq_true hgt
                  go_quiet (fail)
                  go_wp2_with fail
                  have HS12 := Aside0.mk (HS11.out.drewN nq)
                  have HB12 := Aside0.mk (blk_drewN HB11.out nq)
                  have HWA12 := Aside0.mk (blk_drewN HWA11.out nq)
                  clear hb0 hb1 hb2 hv0 hv1 HS11 HB11 HWA11
                  generalize w11.drewN nq = w12 at HS12 HB12 HWA12 ⊢
                  have hb0 : w12.cell? ⟨gb, 0, none⟩ = some (.int .i64 f0) := (blk_cell HB12.out 0).trans rfl
                  have hb1 : w12.cell? ⟨gb, 1, none⟩ = some (.int .i64 f1) := (blk_cell HB12.out 1).trans rfl
                  have hb2 : w12.cell? ⟨gb, 2, none⟩ = some (.int .i64 f2) := (blk_cell HB12.out 2).trans rfl
                  have hv0 := HS12.out.cell2 f0 p0 q0
                  have hv1 := HS12.out.cell2 f1 p1 q1
                  have hf1 := HS12.out.fr2 f1.toNat
                  go_region
                  have HS13 := Aside0.mk ((HS12.out.set2 f1.toNat (wrap64 (rd nowc f0 + f2))).drew)
                  have HB13 := Aside0.mk (blk_drew (blk_far HB12.out (p := ⟨w.heap.size + 1 + 1, f1.toNat, none⟩) (by have := HG.out; simp; omega) (.int .i64 (wrap64 (rd nowc f0 + f2)))))
                  have HWA13 := Aside0.mk (blk_drew (blk_far HWA12.out (p := ⟨w.heap.size + 1 + 1, f1.toNat, none⟩) (by simp; omega) (.int .i64 (wrap64 (rd nowc f0 + f2)))))
                  clear hb0 hb1 hb2 hv0 hv1 hf1 HS12 HB12 HWA12
                  generalize (w12.setCell ⟨w.heap.size + 1 + 1, f1.toNat, none⟩ (.int .i64 (wrap64 (rd nowc f0 + f2)))).drew = w13 at HS13 HB13 HWA13 ⊢
                  have hb1 : w13.cell? ⟨gb, 1, none⟩ = some (.int .i64 f1) := (blk_cell HB13.out 1).trans rfl
                  have hv1 := HS13.out.cell3 f1 p1 q1
                  have hf1 := HS13.out.fr3 f1.toNat
                  have HB14 := blk_far HB13.out (p := ⟨w.heap.size + 1 + 1 + 1, f1.toNat, none⟩) (by have := HG.out; simp; omega) (.int .i64 j)
                  have hb14 : (w13.setCell ⟨w.heap.size + 1 + 1 + 1, f1.toNat, none⟩ (.int .i64 j)).cell? ⟨gb, 1, none⟩ = some (.int .i64 f1) := (blk_cell HB14 1).trans rfl
                  clear HB14
                  go_wp2_with fail
                  go_roundg (gk - 1)
                  case measure => have := HJ.out; omega
                  case rel => exact ⟨j + 1, f1, _, _, by go_num, rfl, ⟨by have := HJ.out; omega⟩, ⟨HS13.out.set3 f1.toNat j⟩, ⟨blk_far HWA13.out (by simp; omega) _⟩, HR3⟩
                · have hR2 := HR2.out
                  rw [if_neg hgt] at hR2
                  have HR3 := Aside0.mk hR2
                  clear HR2 hR2
                  have hdg := decide_eq_false hgt
                  go_quiet (fail)
                  go_wp2_with fail
                  go_roundg (gk - 1)
                  case measure => have := HJ.out; omega
                  case rel => exact ⟨j + 1, ch, _, _, by go_num, rfl, ⟨by have := HJ.out; omega⟩, ⟨HS11.out.drewN nq⟩, ⟨blk_drewN HWA11.out nq⟩, HR3⟩
              · rw [if_neg hin] at hR
                exact absurd hR (by simp)
            · have hdj := decide_eq_false hj
              have hR := HR.out
              rw [List.drop_eq_nil_of_le (by omega)] at hR
              simp only [relaxL, Option.some.injEq, Prod.mk.injEq] at hR
              obtain ⟨rfl, rfl, rfl⟩ := hR
              clear HR hdj
              have hdj := decide_eq_false hj
              by_cases hch : ch < 0
              · have hz := HZ2.out
                rw [if_pos hch] at hz
                simp only [Option.some.injEq, Prod.mk.injEq] at hz
                have HE := Aside0.mk hz
                have hdc := decide_eq_true hch
                clear hz HZ2
                go_wp2_with (first
                  | ((with_reducible refine gate_dst (N := 68) rfl ?_); refine wpList_load_row rfl 60 (.tmp 11) rfl gw rfl 60 _ (0, 0) _ HWAS.out Try.underlying60 rfl (by rw [size60, nums_size, hln]) ?_)
                  | ((with_reducible refine gate_dst0 rfl ?_); refine store_row_ev rfl 60 (.tmp 4) (.tmp 68) rfl (w.heap.size + 1) (nums .i64 now).toArray rfl rfl 60 _ HS.out.b1 (by rw [size60, nums_size, hln]) (by rw [nums_size, nums_size, hln]; rfl) (nums_all _) ?_; intro w14 hw14 hres; have HW14 := Aside0.mk hw14; have HRES := Aside0.mk hres; clear hw14 hres))
                obtain ⟨rfl, rfl, rfl⟩ := HE.out
                obtain rfl := HCON.out.1 rfl
                have HB14 := Aside0.mk (show Below w.heap.size w w14 by rw [HW14.out]; exact below_setRow HS.out.below (by omega) _)
                refine bodyPost_ret (results_ctt rfl _ _ (w.heap.size + 1) 60 (nums .i64 now).toArray (0, 0) _ rfl HRES.out Try.underlying60 rfl (by rw [size60, nums_size, hln])) rfl ?_
                exact ⟨_, rfl, Kd.R_nil _ _ _ _ _, HB14.out⟩
              · have hz := HZ2.out
                rw [if_neg hch] at hz
                have HZ3 := Aside0.mk hz
                have hdc := decide_eq_false hch
                clear hz HZ2
                go_wp2_with fail
                go_roundg (gk2 - 1)
                case measure => have := HY.out; have := HGK.out; omega
                case rel => exact ⟨y + 1, nowc, byc, by go_num, ⟨by have := HY.out; have := HM.out; omega⟩, HS, ⟨by rw [HM.out]; exact HZ3.out⟩⟩
        · have hd := decide_eq_false hy
          have hgk : gk = 1 := by have := HY.out; omega
          have hz := HA.out
          rw [hgk] at hz
          simp only [Nat.sub_self, roundsL, Option.some.injEq, Prod.mk.injEq] at hz
          obtain ⟨rfl, rfl, rfl⟩ := hz
          clear HA hgk
          have HC := Aside0.mk (HCON.out.2 rfl)
          clear HCON
          go_wp2_with fail
          refine start_ (n := 8) (S := fun w' => w'.heap[w.heap.size]? = some (.cells #[.slice A0_0 l0_0.length c0_0, .int .i64 a0_1] 49 (0, 0)) ∧ w'.heap[w.heap.size + 1 + 1]? = some (.cells (nums .i64 now).toArray 60 (0, 0))) (ds := []) #[false, false, false, false, false, false, false, false] (by kernel_rfl) rfl rfl ⟨HS.out.b0, HS.out.b2⟩ (fun hHeld => ?_)
          have HS20 := Aside0.mk HS.out.drew
          clear HS
          generalize wr.drew = w20 at HS20 hHeld ⊢
          refine pure_ (i := 2) (N := some 72) (v := ?_) (a' := ?_) #[false, false, true, false, false, false, false, false] rfl rfl (by kernel_rfl) (fun _ _ _ h => h) (Or.inl ⟨by rfl, ?_⟩) ?_ ?_
          rotate_left
          · intro w'
            go_simp
            with_reducible rfl
          rotate_left
          · simp only [Act.put, List.setIfInBounds_toArray, List.set_cons_zero, List.set_cons_succ, i64_w, i32_w]
            rfl
          refine pure_ (i := 3) (N := some 73) (v := .slice (some ⟨w.heap.size + 1 + 1 + 1, 0, none⟩) 13 13) (a' := ?_) #[false, false, true, true, false, false, false, false] rfl rfl (by kernel_rfl) (fun _ _ _ h => h) (Or.inl ⟨by rfl, ?_⟩) ?_ ?_
          · intro w'
            go_simp
          rotate_left
          · simp only [Act.put, List.setIfInBounds_toArray, List.set_cons_zero, List.set_cons_succ, i64_w, i32_w]
            rfl
          refine take_ (i := 0) (N := some 70) (v := .agg (nums .i64 now).toArray) (a' := ?_) #[true, false, true, true, false, false, false, false] rfl rfl (by kernel_rfl) (fun _ _ _ h => h) (Or.inl ⟨by rfl, fun w' hS => exec_load_row _ _ 60 (.tmp 7) rfl (w.heap.size + 1 + 1) rfl 60 _ (0, 0) _ hS.2 Try.underlying60 rfl (by rw [size60, nums_size, HS20.out.ln])⟩) hHeld ?_ ?_
          rotate_left
          · simp only [Act.put, List.setIfInBounds_toArray, List.set_cons_zero, List.set_cons_succ, i64_w, i32_w]
            rfl
          refine take_ (i := 1) (N := some 71) (v := .agg #[.slice A0_0 l0_0.length c0_0, .int .i64 a0_1]) (a' := ?_) #[true, true, true, true, false, false, false, false] rfl rfl (by kernel_rfl) (fun _ _ _ h => h) (Or.inl ⟨by rfl, fun w' hS => exec_load_row _ _ 49 (.tmp 2) rfl w.heap.size rfl 49 _ (0, 0) _ hS.1 Try.underlying49 rfl size49⟩) hHeld ?_ ?_
          rotate_left
          · simp only [Act.put, List.setIfInBounds_toArray, List.set_cons_zero, List.set_cons_succ, i64_w, i32_w]
            rfl
          have hby : Kd.C (Kd.int .i64) w20 (some ⟨w.heap.size + 1 + 1 + 1, 0, none⟩) by_.length by_ := HS20.out.reads3
          refine one_ (i := 4) (N := some 74) #[true, true, true, true, true, false, false, false] rfl rfl (by kernel_rfl) (by decide) (fun K hK => ?_)
          refine goes_ Try.func58 (by kernel_rfl) rfl #[.agg #[.slice A0_0 l0_0.length c0_0, .int .i64 a0_1], .slice A1 l1.length c1, .slice (some ⟨w.heap.size + 1 + 1 + 1, 0, none⟩) by_.length 13] (by rfl) rfl rfl (by rw [HS20.out.lb]; simp only [List.map_toArray, List.map_cons, List.map_nil]; rfl) ?_
          refine (shift_clock_contradiction.calls k _ _ l0_0 a0_1 _ _ l1 _ _ by_ hours _ ?side1 ?side2 ?side3 ?side4 ?side5 ?side6 HC.out).mono ?_
          case side1 => exact Kd.C_below HR0_0.out HS20.out.below
          case side2 => exact HC0_0.out
          case side3 => exact Kd.C_below HR1.out HS20.out.below
          case side4 => exact HC1.out
          case side5 => exact hby
          case side6 => rw [HS20.out.lb]; exact Nat.le_refl _
          rintro e w21 ⟨v22, rfl, ho0, hb⟩
          refine ⟨_, rfl, ?_⟩
          have HO22 := Aside0.mk (Kd.R_lower ho0 (HS20.out.below.size))
          have HS21 := Aside0.mk (HS20.out.below2 hb)
          have HNE := Aside0.mk (show some (w.heap.size + 1) ≠ v22.ownBlock from fun e1 => by
            have h1 := Kd.R_base ho0 (w.heap.size + 1) e1.symm
            have h2 := HS20.out.size4
            omega)
          clear hb ho0 HS20 hby
          refine hK.out _ _ ⟨HS21.out.b0, HS21.out.b2⟩ (fun hHeld => ?_)
          clear hK K
          refine one_ (i := 5) (N := none) #[true, true, true, true, true, true, false, false] rfl rfl (by kernel_rfl) (by decide) (fun K hK => ?_)
          refine skip_ (w1 := w21.setRow (w.heap.size + 1) (nums .i64 now).toArray) (by rfl) rfl (exec_store_row _ _ 60 (.tmp 4) (.tmp 70) rfl (w.heap.size + 1) _ rfl rfl 60 _ HS21.out.b1 (by rw [size60, nums_size, HS21.out.ln]) (by rw [nums_size, nums_size, HS21.out.ln]; rfl) (nums_all _)) ?_
          have hg : w21.grownBy (w21.setRow (w.heap.size + 1) (nums .i64 now).toArray) (some (w.heap.size + 1)) := ⟨rfl, rfl, rfl, by simp [World.setRow], fun i hi hne => setRow_other _ _ _ _ (fun e1 => hne (by rw [e1]))⟩
          have HO23 := Aside0.mk (Kd.R_grown1 HO22.out rfl hg HNE.out)
          have HB23 := Aside0.mk (below_setRow HS21.out.below (g := w.heap.size + 1) (by omega) (nums .i64 now).toArray)
          have HRES := Aside0.mk (setRow_heap w21 (w.heap.size + 1) _ (nums .i64 now).toArray _ _ HS21.out.b1)
          refine hK.out _ _ ⟨(setRow_other _ _ _ _ (by omega)).trans HS21.out.b0, (setRow_other _ _ _ _ (by omega)).trans HS21.out.b2⟩ (fun hHeld => ?_)
          have hln : now.length = 13 := HS21.out.ln
          clear hK K HO22 HS21 hg
          generalize w21.setRow (w.heap.size + 1) (nums .i64 now).toArray = w23 at HO23 HB23 HRES hHeld ⊢
          refine pure_ (i := 6) (N := some 5) (v := ?_) (a' := ?_) #[true, true, true, true, true, true, true, false] rfl rfl (by kernel_rfl) (fun _ _ _ h => h) (Or.inl ⟨by rfl, ?_⟩) ?_ ?_
          rotate_left
          · intro w'
            go_simp
            with_reducible rfl
          rotate_left
          · simp only [Act.put, List.setIfInBounds_toArray, List.set_cons_zero, List.set_cons_succ, i64_w, i32_w]
            rfl
          refine pure_ (i := 7) (N := some 6) (v := ?_) (a' := ?_) #[true, true, true, true, true, true, true, true] rfl rfl (by kernel_rfl) (fun _ _ _ h => h) (Or.inl ⟨by rfl, ?_⟩) ?_ ?_
          rotate_left
          · intro w'
            go_simp
            with_reducible rfl
          rotate_left
          · simp only [Act.put, List.setIfInBounds_toArray, List.set_cons_zero, List.set_cons_succ, i64_w, i32_w]
            rfl
          refine done_ (by kernel_rfl) ?_
          try go_wp2
          refine bodyPost_ret (results_ctt rfl _ _ (w.heap.size + 1) 60 (nums .i64 now).toArray (0, 0) _ rfl HRES.out Try.underlying60 rfl (by rw [size60, nums_size, hln])) rfl ?_
          exact ⟨_, rfl, HO23.out, HB23.out⟩
theorem nums13 (xs : List Int) (h : xs.length = 13) : (nums .i64 xs).toArray = #[.int .i64 (rd xs 0), .int .i64 (rd xs 1), .int .i64 (rd xs 2), .int .i64 (rd xs 3), .int .i64 (rd xs 4), .int .i64 (rd xs 5), .int .i64 (rd xs 6), .int .i64 (rd xs 7), .int .i64 (rd xs 8), .int .i64 (rd xs 9), .int .i64 (rd xs 10), .int .i64 (rd xs 11), .int .i64 (rd xs 12)] := by
  match xs, h with
  | [a0, a1, a2, a3, a4, a5, a6, a7, a8, a9, a10, a11, a12], _ => rfl
theorem relaxL_len : ∀ (l : List S72) (j : Int) (now by_ : List Int) (ch : Int) (z : List Int × List Int × Int), relaxL l j now by_ ch = some z → z.1.length = now.length ∧ z.2.1.length = by_.length
  | [], j, now, by_, ch, z, h => by
    simp only [relaxL, Option.some.injEq] at h
    subst h
    exact ⟨rfl, rfl⟩
  | b :: t, j, now, by_, ch, z, h => by
    simp only [relaxL] at h
    split at h
    · split at h
      · have := relaxL_len t _ _ _ _ z h
        simpa using this
      · exact relaxL_len t _ _ _ _ z h
    · exact absurd h (by simp)
theorem roundsL_len (l : List S72) : ∀ (m : Nat) (now by_ : List Int) (z : List Int × List Int × Bool), roundsL l m now by_ = some z → z.1.length = now.length
  | 0, now, by_, z, h => by
    simp only [roundsL, Option.some.injEq] at h
    subst h
    rfl
  | m + 1, now, by_, z, h => by
    simp only [roundsL] at h
    obtain ⟨y, h1, h2⟩ := Option.bind_eq_some_iff.1 h
    split at h2
    · injection h2 with h2
      subst h2
      rfl
    · rw [roundsL_len l m _ _ z h2]
      exact (relaxL_len _ _ _ _ _ _ h1).1
theorem shift_clock_solve.calls (k : Nat) (A0_0 : Option Addr) (c0_0 : Nat) (l0_0 : List Int) (a0_1 : Int) (A1 : Option Addr) (c1 : Nat) (l1 : List (S72)) (r1 r2 r3 r4 r5 r6 r7 r8 r9 r10 r11 r12 r13 : Int) (r14 : List Int) (r15 : Bool) (w : World) (hr0_0 : Kd.C (Kd.int .i64) w A0_0 l0_0.length l0_0) (hc0_0 : l0_0.length ≤ c0_0) (hr1 : Kd.C k72 w A1 l1.length l1) (hc1 : l1.length ≤ c1) (h : shift_clock_solve.f k l0_0 a0_1 l1 = some (r1, r2, r3, r4, r5, r6, r7, r8, r9, r10, r11, r12, r13, r14, r15)) :
    Calls Try.prog 47 #[.agg #[.slice A0_0 l0_0.length c0_0, .int .i64 a0_1], .slice A1 l1.length c1] w fun e w' => ∃ v13_ : Value, e = .returned (.tuple #[.agg #[.int .i64 r1, .int .i64 r2, .int .i64 r3, .int .i64 r4, .int .i64 r5, .int .i64 r6, .int .i64 r7, .int .i64 r8, .int .i64 r9, .int .i64 r10, .int .i64 r11, .int .i64 r12, .int .i64 r13], v13_, .bool r15]) ∧ Kd.R (Kd.int .i64) 3 w' w.heap.size (fun _ => True) v13_ r14 ∧ Below w.heap.size w w' := by
  unfold shift_clock_solve.f at h
  by_cases hn : l0_0.length < 1000
  · rw [if_pos hn] at h
    obtain ⟨⟨now1, by1, ok1⟩, hz, h2⟩ := Option.bind_eq_some_iff.1 h
    have hl : now1.length = 13 := by rw [roundsL_len l1 _ _ _ _ hz]; rfl
    have hq : (ok1 = true → r14 = []) ∧ (ok1 = false → shift_clock_contradiction.f k l0_0 a0_1 l1 by1 = some r14) ∧ r15 = ok1 ∧ (nums .i64 now1).toArray = #[.int .i64 r1, .int .i64 r2, .int .i64 r3, .int .i64 r4, .int .i64 r5, .int .i64 r6, .int .i64 r7, .int .i64 r8, .int .i64 r9, .int .i64 r10, .int .i64 r11, .int .i64 r12, .int .i64 r13] := by
      cases ok1 with
      | true =>
        simp only [if_true, Option.some.injEq, Prod.mk.injEq] at h2
        obtain ⟨rfl, rfl, rfl, rfl, rfl, rfl, rfl, rfl, rfl, rfl, rfl, rfl, rfl, rfl, rfl⟩ := h2
        exact ⟨fun _ => rfl, (fun h => by cases h), rfl, nums13 now1 hl⟩
      | false =>
        simp only [Bool.false_eq_true, if_false] at h2
        obtain ⟨hh, h3, h4⟩ := Option.bind_eq_some_iff.1 h2
        simp only [Option.some.injEq, Prod.mk.injEq] at h4
        obtain ⟨rfl, rfl, rfl, rfl, rfl, rfl, rfl, rfl, rfl, rfl, rfl, rfl, rfl, rfl, rfl⟩ := h4
        exact ⟨(fun h => by cases h), fun _ => h3, rfl, nums13 now1 hl⟩
    obtain ⟨q1, q2, rfl, q4⟩ := hq
    rw [← q4]
    exact solve_walk k A0_0 c0_0 l0_0 a0_1 A1 c1 l1 w hr0_0 hc0_0 hr1 hc1 now1 by1 r15 hn hz r14 ⟨q1, q2⟩
  · rw [if_neg hn] at h
    exact absurd h (by simp)

/-! ### shift_clock_bounds: function 48 -/
mutual
def shift_clock_bounds.l0 : Nat → Int → Int → List Int → Int → List (S72) → List Int → Int → Int → List Int → Int → Option ((List (S72)))
  | 0, _, _, _, _, _, _, _, _, _, _ => none
  | k + 1, x1, x2, x3, x9, x10, x29, x30, x31, x109000, x109001 => if x31 < x30 then (if 0 ≤ x31 then (if x31 < (x29.length : Int) then (if x10.length < 4398046511104 then ((some (x10 ++ [(⟨x31, wrap64 (x31 + 1), 0, (-1)⟩ : S72)] : List (S72))).bind fun y113 => (if (wrap64 ((wrap64 (x31 + 1)) - x109001)) ≥ 0 then (if y113.length < 4398046511104 then (shift_clock_bounds.l0 k x1 x2 x3 x9 (y113 ++ [(⟨wrap64 ((wrap64 (x31 + 1)) - x109001), wrap64 (x31 + 1), wrap64 ((rd x29 x31) * x2), x31⟩ : S72)]) x29 x30 (wrap64 (x31 + 1)) x109000 x109001) else (none)) else (if y113.length < 4398046511104 then (shift_clock_bounds.l0 k x1 x2 x3 x9 (y113 ++ [(⟨wrap64 (x9 + (wrap64 ((wrap64 (x31 + 1)) - x109001))), wrap64 (x31 + 1), wrap64 ((wrap64 ((rd x29 x31) * x2)) - x1), x31⟩ : S72)]) x29 x30 (wrap64 (x31 + 1)) x109000 x109001) else (none)))) else (none)) else (none)) else (none)) else (shift_clock_bounds.l1 k x10 0 x3 (x3.length : Int) 0)
def shift_clock_bounds.l1 : Nat → List (S72) → Int → List Int → Int → Int → Option ((List (S72)))
  | 0, _, _, _, _, _ => none
  | k + 1, x10, x14, x77, x78, x79 => if x79 < x78 then (if 0 ≤ x79 then (if x79 < (x77.length : Int) then ((some (([(⟨0, wrap64 (x79 + 1), wrap64 (x14 + (rd x77 x79)), (-1)⟩ : S72), (⟨wrap64 (x79 + 1), 0, wrap64 ((wrap64 (-x14)) - (rd x77 x79)), (-1)⟩ : S72)] : List (S72)) : List (S72))).bind fun y123 => (if x10.length + y123.length < 4398046511104 then (shift_clock_bounds.l1 k (x10 ++ y123) (wrap64 (x14 + (rd x77 x79))) x77 x78 (wrap64 (x79 + 1))) else (none))) else (none)) else (none)) else (some x10)
end
def shift_clock_bounds.f (k : Nat) (l0_0 : List Int) (a0_1 : Int) (a1 : Int) (a2 : Int) (l3 : List Int) : Option ((List (S72))) := shift_clock_bounds.l0 k a1 a2 l3 (l0_0.length : Int) (([(⟨0, (l0_0.length : Int), a1, (-1)⟩ : S72), (⟨(l0_0.length : Int), 0, wrap64 (-a1), (-1)⟩ : S72)] : List (S72))) l0_0 (l0_0.length : Int) 0 l0_0 a0_1
theorem shift_clock_bounds.mono_l : ∀ k, (∀ y0 y1 y2 y3 y4 y5 y6 y7 y8 y9, LeO (shift_clock_bounds.l0 k y0 y1 y2 y3 y4 y5 y6 y7 y8 y9) (shift_clock_bounds.l0 (k + 1) y0 y1 y2 y3 y4 y5 y6 y7 y8 y9)) ∧ (∀ y0 y1 y2 y3 y4, LeO (shift_clock_bounds.l1 k y0 y1 y2 y3 y4) (shift_clock_bounds.l1 (k + 1) y0 y1 y2 y3 y4))
  | 0 => ⟨fun _ _ _ _ _ _ _ _ _ _ r h => by simp [shift_clock_bounds.l0] at h, fun _ _ _ _ _ r h => by simp [shift_clock_bounds.l1] at h⟩
  | k + 1 => by
    obtain ⟨ih0, ih1⟩ := shift_clock_bounds.mono_l k
    refine ⟨?_, ?_⟩
    · intro y0 y1 y2 y3 y4 y5 y6 y7 y8 y9
      unfold shift_clock_bounds.l0
      repeat' first
      | (with_reducible exact ih0 _ _ _ _ _ _ _ _ _ _)
      | (with_reducible exact ih1 _ _ _ _ _)
      | (with_reducible exact LeO.refl _)
      | (with_reducible exact LeO.none _)
      | (with_reducible refine LeO.ite ?_ ?_)
      | (with_reducible refine LeO.bind ?_ (fun _ => ?_))
      | exact ih0 _ _ _ _ _ _ _ _ _ _
      | exact ih1 _ _ _ _ _
      | exact LeO.none _
      | refine LeO.ite ?_ ?_
      | refine LeO.bind ?_ (fun _ => ?_)
    · intro y0 y1 y2 y3 y4
      unfold shift_clock_bounds.l1
      repeat' first
      | (with_reducible exact ih0 _ _ _ _ _ _ _ _ _ _)
      | (with_reducible exact ih1 _ _ _ _ _)
      | (with_reducible exact LeO.refl _)
      | (with_reducible exact LeO.none _)
      | (with_reducible refine LeO.ite ?_ ?_)
      | (with_reducible refine LeO.bind ?_ (fun _ => ?_))
      | exact ih0 _ _ _ _ _ _ _ _ _ _
      | exact ih1 _ _ _ _ _
      | exact LeO.none _
      | refine LeO.ite ?_ ?_
      | refine LeO.bind ?_ (fun _ => ?_)
theorem shift_clock_bounds.mono : ∀ a0 a1 a2 a3 a4 k, LeO (shift_clock_bounds.f k a0 a1 a2 a3 a4) (shift_clock_bounds.f (k + 1) a0 a1 a2 a3 a4) := by
  intro a0 a1 a2 a3 a4 k
  obtain ⟨ih0, ih1⟩ := shift_clock_bounds.mono_l k
  unfold shift_clock_bounds.f
  repeat' first
      | (with_reducible exact ih0 _ _ _ _ _ _ _ _ _ _)
      | (with_reducible exact ih1 _ _ _ _ _)
      | (with_reducible exact LeO.refl _)
      | (with_reducible exact LeO.none _)
      | (with_reducible refine LeO.ite ?_ ?_)
      | (with_reducible refine LeO.bind ?_ (fun _ => ?_))
      | exact ih0 _ _ _ _ _ _ _ _ _ _
      | exact ih1 _ _ _ _ _
      | exact LeO.none _
      | refine LeO.ite ?_ ?_
      | refine LeO.bind ?_ (fun _ => ?_)
set_option maxHeartbeats 8000000 in
set_option maxRecDepth 100000 in
theorem shift_clock_bounds.calls (k : Nat) (A0_0 : Option Addr) (c0_0 : Nat) (l0_0 : List Int) (a0_1 : Int) (a1 : Int) (a2 : Int) (A3 : Option Addr) (c3 : Nat) (l3 : List Int) (r : List (S72)) (w : World) (hr0_0 : Kd.C (Kd.int .i64) w A0_0 l0_0.length l0_0) (hc0_0 : l0_0.length ≤ c0_0) (hr3 : Kd.C (Kd.int .i64) w A3 l3.length l3) (hc3 : l3.length ≤ c3) (h : shift_clock_bounds.f k l0_0 a0_1 a1 a2 l3 = some r) :
    Calls Try.prog 48 #[.agg #[.slice A0_0 l0_0.length c0_0, .int .i64 a0_1], .int .i64 a1, .int .i64 a2, .slice A3 l3.length c3] w fun e w' => ∃ v0_ : Value, e = .returned (v0_) ∧ Kd.R k72 72 w' w.heap.size (fun _ => True) v0_ r ∧ Below w.heap.size w w' := by
  have hu49 := Try.underlying49
  have hu72 := Try.underlying72
  have HR0_0 := Aside0.mk hr0_0
  have HC0_0 := Aside0.mk hc0_0
  clear hr0_0 hc0_0
  have HR3 := Aside0.mk hr3
  have HC3 := Aside0.mk hc3
  clear hr3 hc3
  have HB := Aside0.mk (Below.refl w.heap.size w)
  have H : (shift_clock_bounds.l0 k a1 a2 l3 (l0_0.length : Int) (([(⟨0, (l0_0.length : Int), a1, (-1)⟩ : S72), (⟨(l0_0.length : Int), 0, wrap64 (-a1), (-1)⟩ : S72)] : List (S72))) l0_0 (l0_0.length : Int) 0 l0_0 a0_1) = some r := h
  clear h
  obtain ⟨y109, hy109⟩ : ∃ y_ : List (S72), y_ = (([(⟨0, (l0_0.length : Int), a1, (-1)⟩ : S72), (⟨(l0_0.length : Int), 0, wrap64 (-a1), (-1)⟩ : S72)] : List (S72))) := ⟨_, rfl⟩
  replace H : (shift_clock_bounds.l0 k a1 a2 l3 (l0_0.length : Int) y109 l0_0 (l0_0.length : Int) 0 l0_0 a0_1) = some r := by first | (rw [hy109]; with_reducible exact H) | (have H2_ := (Option.bind_some _ _).symm.trans H; rw [hy109]; with_reducible exact H2_) | (have H2_ := (Option.bind_some _ _).symm.trans H; with_reducible exact H2_) | with_reducible exact H | (rw [hy109]; exact H) | exact H
  have Ny109 := Aside0.mk hy109
  clear hy109
  have H' := Aside0.mk H
  clear H
  go_enter Try.func48, Try.ntmps48
  go_wp2_with (first | ((with_reducible refine gate_dst (N := 4) rfl ?_); refine box_event ?hg (N := 4) ?hd (cs := #[.slice A0_0 l0_0.length c0_0, .int .i64 a0_1]) (t := 49) ?hr ?_; (case hd => rfl); (case hg => rfl); (case hr => first | (go_simp; done) | (go_simp; rfl)); intro gb108 hg w5 hbox hb; have n0_ := Aside0.mk (below_step (by repeat (first | (with_reducible first | exact HB.out | apply below_alloc | apply pw_below_drewN | apply below_drew1) | exact HB.out)) hb); have n1_ := Aside0.mk (hbox); have n2_ := Aside0.mk ((by rw [hg]; exact (below_size (by repeat (first | (with_reducible first | exact HB.out | apply below_alloc | apply pw_below_drewN | apply below_drew1) | exact HB.out))) : w.heap.size ≤ gb108)); have n3_ := Aside0.mk ((by rw [hg]; exact (below_size (by repeat (first | (with_reducible first | exact HB.out | apply below_alloc | apply pw_below_drewN | apply below_drew1) | exact HB.out))) : w.heap.size ≤ gb108)); clear HB; have HB := n0_; have BK108 := n1_; have GW108 := n2_; have GE108 := n3_; clear n0_ n1_ n2_ n3_; clear hb hbox hg; have hcz6_0 : w5.cell? ⟨gb108, 0, none⟩ = some (.slice A0_0 l0_0.length c0_0) := (blk_cell BK108.out 0).trans rfl; have hcz6_1 : w5.cell? ⟨gb108, 1, none⟩ = some (.int .i64 a0_1) := (blk_cell BK108.out 1).trans rfl; have hfz6_0 := blk_frozen BK108.out 0; have hfz6_1 := blk_frozen BK108.out 1) | ((with_reducible refine gate_dst (N := 27) rfl ?_); refine Kd.R_lit k72 _ 72 ?hg (N := 27) ?hd (xs := ([(⟨0, (l0_0.length : Int), a1, (-1)⟩ : S72), (⟨(l0_0.length : Int), 0, wrap64 (-a1), (-1)⟩ : S72)] : List (S72))) (inner := [.int .i64 0, .int .i64 (l0_0.length : Int), .int .i64 a1, .int .i64 (-1), .int .i64 (l0_0.length : Int), .int .i64 0, .int .i64 (wrap64 (-a1)), .int .i64 (-1)]) (ok := fun _ => True) (okp := fun _ => True) ?hr ?hp (fun _ hk => hk) trivial (Below.refl _ _) (Nat.le_refl _) (by simp) ?_; (case hd => rfl); (case hg => rfl); (case hr => first | (go_simp; done) | (go_simp; rfl)); (case hp => exact (Reps.c4 (show Kd.M k72 _ _ _ (⟨0, (l0_0.length : Int), a1, (-1)⟩ : S72) [.int .i64 0, .int .i64 (l0_0.length : Int), .int .i64 a1, .int .i64 (-1)] from (k72_mkM _ _ _ (⟨0, (l0_0.length : Int), a1, (-1)⟩ : S72) )) (Reps.c4 (show Kd.M k72 _ _ _ (⟨(l0_0.length : Int), 0, wrap64 (-a1), (-1)⟩ : S72) [.int .i64 (l0_0.length : Int), .int .i64 0, .int .i64 (wrap64 (-a1)), .int .i64 (-1)] from (k72_mkM _ _ _ (⟨(l0_0.length : Int), 0, wrap64 (-a1), (-1)⟩ : S72) )) (Reps.none _ _)))); intro v110 w7 ho8 hb hg_ hnew_; clear hg_ hnew_; (first | rw [← Ny109.out] at ho8 | (simp only [Int.reduceToNat] at ho8; rw [← Ny109.out] at ho8)); have n0_ := Aside0.mk (Kd.R_lower ho8 (below_size (by repeat (first | (with_reducible first | exact HB.out | apply below_alloc | apply pw_below_drewN | apply below_drew1 | refine below_set ?_ GE108.out) | exact HB.out)))); have n1_ := Aside0.mk (blk_below (g := gb108) (o := .cells #[.slice A0_0 l0_0.length c0_0, .int .i64 a0_1] 49 (0, 0)) (by (with_reducible repeat (first | refine blk_drewN ?_ _ | refine blk_drew ?_ | refine blk_alloc ?_ _)); exact BK108.out) hb); have n2_ := Aside0.mk (below_step (by repeat (first | (with_reducible first | exact HB.out | apply below_alloc | apply pw_below_drewN | apply below_drew1 | refine below_set ?_ GE108.out) | exact HB.out)) hb); clear BK108; clear HB; have HO111 := n0_; have BK108 := n1_; have HB := n2_; clear n0_ n1_ n2_; clear hb ho8; have hcz9_0 : w7.cell? ⟨gb108, 0, none⟩ = some (.slice A0_0 l0_0.length c0_0) := (blk_cell BK108.out 0).trans rfl; have hcz9_1 : w7.cell? ⟨gb108, 1, none⟩ = some (.int .i64 a0_1) := (blk_cell BK108.out 1).trans rfl; have hfz9_0 := blk_frozen BK108.out 0; have hfz9_1 := blk_frozen BK108.out 1))
  go_loopg [10, 31] k (fun kq v10 v31 w' => ∃ (x10_1 : List (S72)) (x31_1 : Int), v31 = .int .i64 x31_1 ∧ Aside0 (shift_clock_bounds.l0 kq a1 a2 l3 (l0_0.length : Int) x10_1 l0_0 (l0_0.length : Int) x31_1 l0_0 a0_1 = some r) ∧ Aside0 (kq ≤ k) ∧ Aside0 (Kd.R k72 72 w' w.heap.size (fun _ => True) v10 x10_1) ∧ Aside0 (w'.heap[gb108]? = some (.cells #[(.slice A0_0 l0_0.length c0_0), .int .i64 a0_1] 49 (0, 0))) ∧ Aside0 (Below w.heap.size w w'))
  case atStart => exact ⟨(y109), (0), (by first | rfl | (simp; done) | (simp [*]; done)), H', ⟨Nat.le_refl _⟩, ⟨by (with_reducible repeat (first | apply Kd.R_alloc | apply Kd.R_drewN | apply Kd.R_drew)); exact HO111.out⟩, ⟨by (with_reducible repeat (first | refine blk_drewN ?_ _ | refine blk_drew ?_ | refine blk_alloc ?_ _)); exact BK108.out⟩, ⟨by repeat (first | (with_reducible first | exact HB.out | apply below_alloc | apply pw_below_drewN | apply below_drew1 | refine below_set ?_ GE108.out) | exact HB.out)⟩⟩
  case round =>
    clear H'
    try clear p2
    try clear c3
    try clear c4
    try clear p6
    try clear hcz6_0
    try clear hcz6_1
    try clear hcz9_0
    try clear hcz9_1
    try clear hfz6_0
    try clear hfz6_1
    try clear hfz9_0
    try clear hfz9_1
    obtain ⟨x10_1, x31_1, rfl, HA, HK1, HO_10, BK108, HB⟩ := hrel
    cases gk with
    | zero => exact absurd HA.out (by simp [shift_clock_bounds.l0])
    | succ k1 =>
      have H := HA.out
      clear HA
      simp only [shift_clock_bounds.l0] at H
      by_cases c10 : x31_1 < (l0_0.length : Int)
      · rw [if_pos c10] at H
        have c10b0 : decide (x31_1 < (l0_0.length : Int)) = true := decide_eq_true c10
        clear c10
        by_cases c11 : 0 ≤ x31_1
        · rw [if_pos c11] at H
          have c11b0 : decide (0 ≤ x31_1) = true := decide_eq_true c11
          clear c11
          by_cases c12 : x31_1 < (l0_0.length : Int)
          · rw [if_pos c12] at H
            have c12b0 : decide (x31_1 < (l0_0.length : Int)) = true := decide_eq_true c12
            clear c12
            by_cases c13 : x10_1.length < 4398046511104
            · rw [if_pos c13] at H
              have LMc13 := Aside0.mk c13
              clear c13
              obtain ⟨y113, hy113⟩ : ∃ y_ : List (S72), y_ = (x10_1 ++ [(⟨x31_1, wrap64 (x31_1 + 1), 0, (-1)⟩ : S72)]) := ⟨_, rfl⟩
              replace H : (if (wrap64 ((wrap64 (x31_1 + 1)) - a0_1)) ≥ 0 then (if y113.length < 4398046511104 then (shift_clock_bounds.l0 k1 a1 a2 l3 (l0_0.length : Int) (y113 ++ [(⟨wrap64 ((wrap64 (x31_1 + 1)) - a0_1), wrap64 (x31_1 + 1), wrap64 ((rd l0_0 x31_1) * a2), x31_1⟩ : S72)]) l0_0 (l0_0.length : Int) (wrap64 (x31_1 + 1)) l0_0 a0_1) else (none)) else (if y113.length < 4398046511104 then (shift_clock_bounds.l0 k1 a1 a2 l3 (l0_0.length : Int) (y113 ++ [(⟨wrap64 ((l0_0.length : Int) + (wrap64 ((wrap64 (x31_1 + 1)) - a0_1))), wrap64 (x31_1 + 1), wrap64 ((wrap64 ((rd l0_0 x31_1) * a2)) - a1), x31_1⟩ : S72)]) l0_0 (l0_0.length : Int) (wrap64 (x31_1 + 1)) l0_0 a0_1) else (none))) = some r := by first | (rw [hy113]; with_reducible exact H) | (have H2_ := (Option.bind_some _ _).symm.trans H; rw [hy113]; with_reducible exact H2_) | (have H2_ := (Option.bind_some _ _).symm.trans H; with_reducible exact H2_) | with_reducible exact H | (rw [hy113]; exact H) | exact H
              have Ny113 := Aside0.mk hy113
              clear hy113
              by_cases c14 : (wrap64 ((wrap64 (x31_1 + 1)) - a0_1)) ≥ 0
              · rw [if_pos c14] at H
                have c14b0 : decide (0 ≤ (wrap64 ((wrap64 (x31_1 + 1)) - a0_1))) = true := decide_eq_true c14
                clear c14
                by_cases c15 : y113.length < 4398046511104
                · rw [if_pos c15] at H
                  have LMc15 := Aside0.mk c15
                  clear c15
                  obtain ⟨y116, hy116⟩ : ∃ y_ : List (S72), y_ = (y113 ++ [(⟨wrap64 ((wrap64 (x31_1 + 1)) - a0_1), wrap64 (x31_1 + 1), wrap64 ((rd l0_0 x31_1) * a2), x31_1⟩ : S72)]) := ⟨_, rfl⟩
                  replace H : (shift_clock_bounds.l0 k1 a1 a2 l3 (l0_0.length : Int) y116 l0_0 (l0_0.length : Int) (wrap64 (x31_1 + 1)) l0_0 a0_1) = some r := by first | (rw [hy116]; with_reducible exact H) | (have H2_ := (Option.bind_some _ _).symm.trans H; rw [hy116]; with_reducible exact H2_) | (have H2_ := (Option.bind_some _ _).symm.trans H; with_reducible exact H2_) | with_reducible exact H | (rw [hy116]; exact H) | exact H
                  have Ny116 := Aside0.mk hy116
                  clear hy116
                  have H' := Aside0.mk H
                  clear H
                  have p112 : 0 ≤ (x31_1 : Int) := of_decide_eq_true (by first | (with_reducible assumption) | assumption)
                  have q112 : x31_1 < (l0_0.length : Int) := of_decide_eq_true (by first | (with_reducible assumption) | assumption)
                  obtain ⟨ad112, e112, hx112_0⟩ := Kd.at_int HR0_0.out x31_1 p112 q112
                  cases e112
                  replace hx112_0 := (HB.out.cell (World.block_lt_of_cell? w _ hx112_0)).trans hx112_0
                  replace p112 := eq_true p112
                  replace q112 := eq_true q112
                  go_wp2_with (first | ((with_reducible refine gate_builtin (b := .append) (xs := #[.tmp 36, .tmp 41]) rfl ?_); at_builtin; refine Kd.R_append k72 (w0 := w) w.heap.size rfl (.tmp 36) (.tmp 41) 63 72 (.agg #[(.int .i64 0), (.int .i64 0), (.int .i64 0), (.int .i64 0)]) 32 rfl Try.underlying63 info72 rfl (by decide) (by omega) u10 x10_1 (⟨x31_1, wrap64 (x31_1 + 1), 0, (-1)⟩ : S72) [.int .i64 x31_1, .int .i64 (wrap64 (x31_1 + 1)), .int .i64 0, .int .i64 (-1)] (fun _ => True) (fun _ => False) rfl rfl ?aP (fun _ hk => hk.elim) ?aF ?aO ?aB ?aS ?aL ?_; (case aP => exact k72_mkM _ _ _ (⟨x31_1, wrap64 (x31_1 + 1), 0, (-1)⟩ : S72)); (case aB => exact (by repeat (first | (with_reducible first | exact HB.out | apply below_alloc | apply pw_below_drewN | apply below_drew1 | refine below_set ?_ GE108.out) | exact HB.out))); (case aF => exact (fun _ _ => trivial)); (case aO => exact (by (with_reducible repeat (first | apply Kd.R_alloc | apply Kd.R_drewN | apply Kd.R_drew)); exact HO_10.out)); (case aS => exact (below_size (by repeat (first | (with_reducible first | exact HB.out | apply below_alloc | apply pw_below_drewN | apply below_drew1 | refine below_set ?_ GE108.out) | exact HB.out)))); (case aL => have := LMc13.out; omega); intro v114 w16 ho hb hg hat; rw [← Ny113.out] at ho; have n0_ := Aside0.mk (blk_grown (g := gb108) (o := .cells #[.slice (some ad112) l0_0.length c0_0, .int .i64 a0_1] 49 (0, 0)) (by (with_reducible repeat (first | refine blk_drewN ?_ _ | refine blk_drew ?_ | refine blk_alloc ?_ _)); exact BK108.out) hg (Kd.R_ne HO_10.out BK108.out (by decide))); have n1_ := Aside0.mk (hb); have n2_ := Aside0.mk (ho); clear BK108; clear HB; clear HO_10; have BK108 := n0_; have HB := n1_; have HO115 := n2_; clear n0_ n1_ n2_; clear ho hb hg hat; have hcz17_0 : w16.cell? ⟨gb108, 0, none⟩ = some (.slice (some ad112) l0_0.length c0_0) := (blk_cell BK108.out 0).trans rfl; have hcz17_1 : w16.cell? ⟨gb108, 1, none⟩ = some (.int .i64 a0_1) := (blk_cell BK108.out 1).trans rfl; have hfz17_0 := blk_frozen BK108.out 0; have hfz17_1 := blk_frozen BK108.out 1) | ((with_reducible refine gate_builtin (b := .append) (xs := #[.tmp 50, .tmp 59]) rfl ?_); at_builtin; refine Kd.R_append k72 (w0 := w) w.heap.size rfl (.tmp 50) (.tmp 59) 63 72 (.agg #[(.int .i64 0), (.int .i64 0), (.int .i64 0), (.int .i64 0)]) 32 rfl Try.underlying63 info72 rfl (by decide) (by omega) v114 y113 (⟨wrap64 ((wrap64 (x31_1 + 1)) - a0_1), wrap64 (x31_1 + 1), wrap64 ((rd l0_0 x31_1) * a2), x31_1⟩ : S72) [.int .i64 (wrap64 ((wrap64 (x31_1 + 1)) - a0_1)), .int .i64 (wrap64 (x31_1 + 1)), .int .i64 (wrap64 ((rd l0_0 x31_1) * a2)), .int .i64 x31_1] (fun _ => True) (fun _ => False) rfl rfl ?aP (fun _ hk => hk.elim) ?aF ?aO ?aB ?aS ?aL ?_; (case aP => exact k72_mkM _ _ _ (⟨wrap64 ((wrap64 (x31_1 + 1)) - a0_1), wrap64 (x31_1 + 1), wrap64 ((rd l0_0 x31_1) * a2), x31_1⟩ : S72)); (case aB => exact (by repeat (first | (with_reducible first | exact HB.out | apply below_alloc | apply pw_below_drewN | apply below_drew1 | refine below_set ?_ GE108.out) | exact HB.out))); (case aF => exact (fun _ _ => trivial)); (case aO => exact (by (with_reducible repeat (first | apply Kd.R_alloc | apply Kd.R_drewN | apply Kd.R_drew)); exact HO115.out)); (case aS => exact (below_size (by repeat (first | (with_reducible first | exact HB.out | apply below_alloc | apply pw_below_drewN | apply below_drew1 | refine below_set ?_ GE108.out) | exact HB.out)))); (case aL => have := LMc15.out; omega); intro v117 w18 ho hb hg hat; rw [← Ny116.out] at ho; have n0_ := Aside0.mk (blk_grown (g := gb108) (o := .cells #[.slice (some ad112) l0_0.length c0_0, .int .i64 a0_1] 49 (0, 0)) (by (with_reducible repeat (first | refine blk_drewN ?_ _ | refine blk_drew ?_ | refine blk_alloc ?_ _)); exact BK108.out) hg (Kd.R_ne HO115.out BK108.out (by decide))); have n1_ := Aside0.mk (hb); have n2_ := Aside0.mk (ho); clear BK108; clear HB; clear HO115; have BK108 := n0_; have HB := n1_; have HO118 := n2_; clear n0_ n1_ n2_; clear ho hb hg hat))
                  go_roundg k1
                  case measure => have := HK1.out; omega
                  case rel => exact ⟨(y116), (wrap64 (x31_1 + 1)), (by first | rfl | (simp; done) | (simp [*]; done)), H', ⟨by have := HK1.out; omega⟩, ⟨by (with_reducible repeat (first | apply Kd.R_alloc | apply Kd.R_drewN | apply Kd.R_drew)); exact HO118.out⟩, ⟨by (with_reducible repeat (first | refine blk_drewN ?_ _ | refine blk_drew ?_ | refine blk_alloc ?_ _)); exact BK108.out⟩, ⟨by repeat (first | (with_reducible first | exact HB.out | apply below_alloc | apply pw_below_drewN | apply below_drew1 | refine below_set ?_ GE108.out) | exact HB.out)⟩⟩
                · rw [if_neg c15] at H
                  exact absurd H (by simp)
              · rw [if_neg c14] at H
                have c14b0 : decide (0 ≤ (wrap64 ((wrap64 (x31_1 + 1)) - a0_1))) = false := decide_eq_false c14
                clear c14
                by_cases c19 : y113.length < 4398046511104
                · rw [if_pos c19] at H
                  have LMc19 := Aside0.mk c19
                  clear c19
                  obtain ⟨y119, hy119⟩ : ∃ y_ : List (S72), y_ = (y113 ++ [(⟨wrap64 ((l0_0.length : Int) + (wrap64 ((wrap64 (x31_1 + 1)) - a0_1))), wrap64 (x31_1 + 1), wrap64 ((wrap64 ((rd l0_0 x31_1) * a2)) - a1), x31_1⟩ : S72)]) := ⟨_, rfl⟩
                  replace H : (shift_clock_bounds.l0 k1 a1 a2 l3 (l0_0.length : Int) y119 l0_0 (l0_0.length : Int) (wrap64 (x31_1 + 1)) l0_0 a0_1) = some r := by first | (rw [hy119]; with_reducible exact H) | (have H2_ := (Option.bind_some _ _).symm.trans H; rw [hy119]; with_reducible exact H2_) | (have H2_ := (Option.bind_some _ _).symm.trans H; with_reducible exact H2_) | with_reducible exact H | (rw [hy119]; exact H) | exact H
                  have Ny119 := Aside0.mk hy119
                  clear hy119
                  have H' := Aside0.mk H
                  clear H
                  have p112 : 0 ≤ (x31_1 : Int) := of_decide_eq_true (by first | (with_reducible assumption) | assumption)
                  have q112 : x31_1 < (l0_0.length : Int) := of_decide_eq_true (by first | (with_reducible assumption) | assumption)
                  obtain ⟨ad112, e112, hx112_0⟩ := Kd.at_int HR0_0.out x31_1 p112 q112
                  cases e112
                  replace hx112_0 := (HB.out.cell (World.block_lt_of_cell? w _ hx112_0)).trans hx112_0
                  replace p112 := eq_true p112
                  replace q112 := eq_true q112
                  go_wp2_with (first | ((with_reducible refine gate_builtin (b := .append) (xs := #[.tmp 36, .tmp 41]) rfl ?_); at_builtin; refine Kd.R_append k72 (w0 := w) w.heap.size rfl (.tmp 36) (.tmp 41) 63 72 (.agg #[(.int .i64 0), (.int .i64 0), (.int .i64 0), (.int .i64 0)]) 32 rfl Try.underlying63 info72 rfl (by decide) (by omega) u10 x10_1 (⟨x31_1, wrap64 (x31_1 + 1), 0, (-1)⟩ : S72) [.int .i64 x31_1, .int .i64 (wrap64 (x31_1 + 1)), .int .i64 0, .int .i64 (-1)] (fun _ => True) (fun _ => False) rfl rfl ?aP (fun _ hk => hk.elim) ?aF ?aO ?aB ?aS ?aL ?_; (case aP => exact k72_mkM _ _ _ (⟨x31_1, wrap64 (x31_1 + 1), 0, (-1)⟩ : S72)); (case aB => exact (by repeat (first | (with_reducible first | exact HB.out | apply below_alloc | apply pw_below_drewN | apply below_drew1 | refine below_set ?_ GE108.out) | exact HB.out))); (case aF => exact (fun _ _ => trivial)); (case aO => exact (by (with_reducible repeat (first | apply Kd.R_alloc | apply Kd.R_drewN | apply Kd.R_drew)); exact HO_10.out)); (case aS => exact (below_size (by repeat (first | (with_reducible first | exact HB.out | apply below_alloc | apply pw_below_drewN | apply below_drew1 | refine below_set ?_ GE108.out) | exact HB.out)))); (case aL => have := LMc13.out; omega); intro v114 w20 ho hb hg hat; rw [← Ny113.out] at ho; have n0_ := Aside0.mk (blk_grown (g := gb108) (o := .cells #[.slice (some ad112) l0_0.length c0_0, .int .i64 a0_1] 49 (0, 0)) (by (with_reducible repeat (first | refine blk_drewN ?_ _ | refine blk_drew ?_ | refine blk_alloc ?_ _)); exact BK108.out) hg (Kd.R_ne HO_10.out BK108.out (by decide))); have n1_ := Aside0.mk (hb); have n2_ := Aside0.mk (ho); clear BK108; clear HB; clear HO_10; have BK108 := n0_; have HB := n1_; have HO115 := n2_; clear n0_ n1_ n2_; clear ho hb hg hat; have hcz21_0 : w20.cell? ⟨gb108, 0, none⟩ = some (.slice (some ad112) l0_0.length c0_0) := (blk_cell BK108.out 0).trans rfl; have hcz21_1 : w20.cell? ⟨gb108, 1, none⟩ = some (.int .i64 a0_1) := (blk_cell BK108.out 1).trans rfl; have hfz21_0 := blk_frozen BK108.out 0; have hfz21_1 := blk_frozen BK108.out 1) | ((with_reducible refine gate_builtin (b := .append) (xs := #[.tmp 61, .tmp 74]) rfl ?_); at_builtin; refine Kd.R_append k72 (w0 := w) w.heap.size rfl (.tmp 61) (.tmp 74) 63 72 (.agg #[(.int .i64 0), (.int .i64 0), (.int .i64 0), (.int .i64 0)]) 32 rfl Try.underlying63 info72 rfl (by decide) (by omega) v114 y113 (⟨wrap64 ((l0_0.length : Int) + (wrap64 ((wrap64 (x31_1 + 1)) - a0_1))), wrap64 (x31_1 + 1), wrap64 ((wrap64 ((rd l0_0 x31_1) * a2)) - a1), x31_1⟩ : S72) [.int .i64 (wrap64 ((l0_0.length : Int) + (wrap64 ((wrap64 (x31_1 + 1)) - a0_1)))), .int .i64 (wrap64 (x31_1 + 1)), .int .i64 (wrap64 ((wrap64 ((rd l0_0 x31_1) * a2)) - a1)), .int .i64 x31_1] (fun _ => True) (fun _ => False) rfl rfl ?aP (fun _ hk => hk.elim) ?aF ?aO ?aB ?aS ?aL ?_; (case aP => exact k72_mkM _ _ _ (⟨wrap64 ((l0_0.length : Int) + (wrap64 ((wrap64 (x31_1 + 1)) - a0_1))), wrap64 (x31_1 + 1), wrap64 ((wrap64 ((rd l0_0 x31_1) * a2)) - a1), x31_1⟩ : S72)); (case aB => exact (by repeat (first | (with_reducible first | exact HB.out | apply below_alloc | apply pw_below_drewN | apply below_drew1 | refine below_set ?_ GE108.out) | exact HB.out))); (case aF => exact (fun _ _ => trivial)); (case aO => exact (by (with_reducible repeat (first | apply Kd.R_alloc | apply Kd.R_drewN | apply Kd.R_drew)); exact HO115.out)); (case aS => exact (below_size (by repeat (first | (with_reducible first | exact HB.out | apply below_alloc | apply pw_below_drewN | apply below_drew1 | refine below_set ?_ GE108.out) | exact HB.out)))); (case aL => have := LMc19.out; omega); intro v120 w22 ho hb hg hat; rw [← Ny119.out] at ho; have n0_ := Aside0.mk (blk_grown (g := gb108) (o := .cells #[.slice (some ad112) l0_0.length c0_0, .int .i64 a0_1] 49 (0, 0)) (by (with_reducible repeat (first | refine blk_drewN ?_ _ | refine blk_drew ?_ | refine blk_alloc ?_ _)); exact BK108.out) hg (Kd.R_ne HO115.out BK108.out (by decide))); have n1_ := Aside0.mk (hb); have n2_ := Aside0.mk (ho); clear BK108; clear HB; clear HO115; have BK108 := n0_; have HB := n1_; have HO121 := n2_; clear n0_ n1_ n2_; clear ho hb hg hat))
                  go_roundg k1
                  case measure => have := HK1.out; omega
                  case rel => exact ⟨(y119), (wrap64 (x31_1 + 1)), (by first | rfl | (simp; done) | (simp [*]; done)), H', ⟨by have := HK1.out; omega⟩, ⟨by (with_reducible repeat (first | apply Kd.R_alloc | apply Kd.R_drewN | apply Kd.R_drew)); exact HO121.out⟩, ⟨by (with_reducible repeat (first | refine blk_drewN ?_ _ | refine blk_drew ?_ | refine blk_alloc ?_ _)); exact BK108.out⟩, ⟨by repeat (first | (with_reducible first | exact HB.out | apply below_alloc | apply pw_below_drewN | apply below_drew1 | refine below_set ?_ GE108.out) | exact HB.out)⟩⟩
                · rw [if_neg c19] at H
                  exact absurd H (by simp)
            · rw [if_neg c13] at H
              exact absurd H (by simp)
          · rw [if_neg c12] at H
            exact absurd H (by simp)
        · rw [if_neg c11] at H
          exact absurd H (by simp)
      · rw [if_neg c10] at H
        have c10b0 : decide (x31_1 < (l0_0.length : Int)) = false := decide_eq_false c10
        clear c10
        have H' := Aside0.mk H
        clear H
        go_wp2
        go_loopg [10, 14, 79] k1 (fun kq v10 v14 v79 w' => ∃ (x10_2 : List (S72)) (x14_2 : Int) (x79_2 : Int), v14 = .int .i64 x14_2 ∧ v79 = .int .i64 x79_2 ∧ Aside0 (shift_clock_bounds.l1 kq x10_2 x14_2 l3 (l3.length : Int) x79_2 = some r) ∧ Aside0 (kq ≤ k1) ∧ Aside0 (Kd.R k72 72 w' w.heap.size (fun _ => True) v10 x10_2) ∧ Aside0 (w'.heap[gb108]? = some (.cells #[(.slice A0_0 l0_0.length c0_0), .int .i64 a0_1] 49 (0, 0))) ∧ Aside0 (Below w.heap.size w w'))
        case atStart => exact ⟨(x10_1), (0), (0), (by first | rfl | (simp; done) | (simp [*]; done)), (by first | rfl | (simp; done) | (simp [*]; done)), H', ⟨Nat.le_refl _⟩, ⟨by (with_reducible repeat (first | apply Kd.R_alloc | apply Kd.R_drewN | apply Kd.R_drew)); exact HO_10.out⟩, ⟨by (with_reducible repeat (first | refine blk_drewN ?_ _ | refine blk_drew ?_ | refine blk_alloc ?_ _)); exact BK108.out⟩, ⟨by repeat (first | (with_reducible first | exact HB.out | apply below_alloc | apply pw_below_drewN | apply below_drew1 | refine below_set ?_ GE108.out) | exact HB.out)⟩⟩
        case round =>
          clear H'
          try clear c1
          try clear p1
          try clear q1
          try clear hx1
          try clear p2
          try clear c3
          try clear c4
          try clear p6
          try clear c10
          try clear c10b0
          try clear c11
          try clear c11b0
          try clear p11
          try clear q11
          try clear hx11
          try clear c12
          try clear c12b0
          try clear c13
          try clear c14
          try clear c14b0
          try clear c15
          try clear c19
          try clear hcz17_0
          try clear hcz17_1
          try clear hcz21_0
          try clear hcz21_1
          try clear hcz6_0
          try clear hcz6_1
          try clear hcz9_0
          try clear hcz9_1
          try clear hfz17_0
          try clear hfz17_1
          try clear hfz21_0
          try clear hfz21_1
          try clear hfz6_0
          try clear hfz6_1
          try clear hfz9_0
          try clear hfz9_1
          try clear hx112_0
          try clear p112
          try clear p2
          try clear p6
          try clear q112
          obtain ⟨x10_2, x14_2, x79_2, rfl, rfl, HA, HK2, HO_10, BK108, HB⟩ := hrel
          cases gk with
          | zero => exact absurd HA.out (by simp [shift_clock_bounds.l1])
          | succ k2 =>
            have H := HA.out
            clear HA
            simp only [shift_clock_bounds.l1] at H
            by_cases c23 : x79_2 < (l3.length : Int)
            · rw [if_pos c23] at H
              have c23b0 : decide (x79_2 < (l3.length : Int)) = true := decide_eq_true c23
              clear c23
              by_cases c24 : 0 ≤ x79_2
              · rw [if_pos c24] at H
                have c24b0 : decide (0 ≤ x79_2) = true := decide_eq_true c24
                clear c24
                by_cases c25 : x79_2 < (l3.length : Int)
                · rw [if_pos c25] at H
                  have c25b0 : decide (x79_2 < (l3.length : Int)) = true := decide_eq_true c25
                  clear c25
                  obtain ⟨y123, hy123⟩ : ∃ y_ : List (S72), y_ = (([(⟨0, wrap64 (x79_2 + 1), wrap64 (x14_2 + (rd l3 x79_2)), (-1)⟩ : S72), (⟨wrap64 (x79_2 + 1), 0, wrap64 ((wrap64 (-x14_2)) - (rd l3 x79_2)), (-1)⟩ : S72)] : List (S72))) := ⟨_, rfl⟩
                  replace H : (if x10_2.length + y123.length < 4398046511104 then (shift_clock_bounds.l1 k2 (x10_2 ++ y123) (wrap64 (x14_2 + (rd l3 x79_2))) l3 (l3.length : Int) (wrap64 (x79_2 + 1))) else (none)) = some r := by first | (rw [hy123]; with_reducible exact H) | (have H2_ := (Option.bind_some _ _).symm.trans H; rw [hy123]; with_reducible exact H2_) | (have H2_ := (Option.bind_some _ _).symm.trans H; with_reducible exact H2_) | with_reducible exact H | (rw [hy123]; exact H) | exact H
                  have Ny123 := Aside0.mk hy123
                  clear hy123
                  by_cases c26 : x10_2.length + y123.length < 4398046511104
                  · rw [if_pos c26] at H
                    have LMc26 := Aside0.mk c26
                    clear c26
                    obtain ⟨y126, hy126⟩ : ∃ y_ : List (S72), y_ = (x10_2 ++ y123) := ⟨_, rfl⟩
                    replace H : (shift_clock_bounds.l1 k2 y126 (wrap64 (x14_2 + (rd l3 x79_2))) l3 (l3.length : Int) (wrap64 (x79_2 + 1))) = some r := by first | (rw [hy126]; with_reducible exact H) | (have H2_ := (Option.bind_some _ _).symm.trans H; rw [hy126]; with_reducible exact H2_) | (have H2_ := (Option.bind_some _ _).symm.trans H; with_reducible exact H2_) | with_reducible exact H | (rw [hy126]; exact H) | exact H
                    have Ny126 := Aside0.mk hy126
                    clear hy126
                    have H' := Aside0.mk H
                    clear H
                    have p122 : 0 ≤ (x79_2 : Int) := of_decide_eq_true (by first | (with_reducible assumption) | assumption)
                    have q122 : x79_2 < (l3.length : Int) := of_decide_eq_true (by first | (with_reducible assumption) | assumption)
                    obtain ⟨ad122, e122, hx122_0⟩ := Kd.at_int HR3.out x79_2 p122 q122
                    cases e122
                    replace hx122_0 := (HB.out.cell (World.block_lt_of_cell? w _ hx122_0)).trans hx122_0
                    replace p122 := eq_true p122
                    replace q122 := eq_true q122
                    go_wp2_with (first | ((with_reducible refine gate_dst (N := 98) rfl ?_); refine Kd.R_lit k72 _ 72 ?hg (N := 98) ?hd (xs := ([(⟨0, wrap64 (x79_2 + 1), wrap64 (x14_2 + (rd l3 x79_2)), (-1)⟩ : S72), (⟨wrap64 (x79_2 + 1), 0, wrap64 ((wrap64 (-x14_2)) - (rd l3 x79_2)), (-1)⟩ : S72)] : List (S72))) (inner := [.int .i64 0, .int .i64 (wrap64 (x79_2 + 1)), .int .i64 (wrap64 (x14_2 + (rd l3 x79_2))), .int .i64 (-1), .int .i64 (wrap64 (x79_2 + 1)), .int .i64 0, .int .i64 (wrap64 ((wrap64 (-x14_2)) - (rd l3 x79_2))), .int .i64 (-1)]) (ok := fun _ => True) (okp := fun _ => True) ?hr ?hp (fun _ hk => hk) trivial (Below.refl _ _) (Nat.le_refl _) (by simp) ?_; (case hd => rfl); (case hg => rfl); (case hr => first | (go_simp; done) | (go_simp; rfl)); (case hp => exact (Reps.c4 (show Kd.M k72 _ _ _ (⟨0, wrap64 (x79_2 + 1), wrap64 (x14_2 + (rd l3 x79_2)), (-1)⟩ : S72) [.int .i64 0, .int .i64 (wrap64 (x79_2 + 1)), .int .i64 (wrap64 (x14_2 + (rd l3 x79_2))), .int .i64 (-1)] from (k72_mkM _ _ _ (⟨0, wrap64 (x79_2 + 1), wrap64 (x14_2 + (rd l3 x79_2)), (-1)⟩ : S72) )) (Reps.c4 (show Kd.M k72 _ _ _ (⟨wrap64 (x79_2 + 1), 0, wrap64 ((wrap64 (-x14_2)) - (rd l3 x79_2)), (-1)⟩ : S72) [.int .i64 (wrap64 (x79_2 + 1)), .int .i64 0, .int .i64 (wrap64 ((wrap64 (-x14_2)) - (rd l3 x79_2))), .int .i64 (-1)] from (k72_mkM _ _ _ (⟨wrap64 (x79_2 + 1), 0, wrap64 ((wrap64 (-x14_2)) - (rd l3 x79_2)), (-1)⟩ : S72) )) (Reps.none _ _)))); intro v124 w27 ho28 hb hg_ hnew_; clear hg_ hnew_; (first | rw [← Ny123.out] at ho28 | (simp only [Int.reduceToNat] at ho28; rw [← Ny123.out] at ho28)); have n0_ := Aside0.mk (Kd.R_elder' (by (with_reducible repeat (first | apply Kd.R_alloc | apply Kd.R_drewN | apply Kd.R_drew)); exact HO_10.out) (Kd.R_base ho28) hb); have n1_ := Aside0.mk (Kd.R_lower (Kd.R_new' ho28 (Kd.R_lt (by (with_reducible repeat (first | apply Kd.R_alloc | apply Kd.R_drewN | apply Kd.R_drew)); exact HO_10.out))) (below_size (by repeat (first | (with_reducible first | exact HB.out | apply below_alloc | apply pw_below_drewN | apply below_drew1 | refine below_set ?_ GE108.out) | exact HB.out)))); have n2_ := Aside0.mk (blk_below (g := gb108) (o := .cells #[.slice A0_0 l0_0.length c0_0, .int .i64 a0_1] 49 (0, 0)) (by (with_reducible repeat (first | refine blk_drewN ?_ _ | refine blk_drew ?_ | refine blk_alloc ?_ _)); exact BK108.out) hb); have n3_ := Aside0.mk (below_step (by repeat (first | (with_reducible first | exact HB.out | apply below_alloc | apply pw_below_drewN | apply below_drew1 | refine below_set ?_ GE108.out) | exact HB.out)) hb); clear HO_10; clear BK108; clear HB; have HO_10 := n0_; have HO125 := n1_; have BK108 := n2_; have HB := n3_; clear n0_ n1_ n2_ n3_; clear hb ho28; obtain ⟨Ao30, co30, eo30⟩ := Kd.R_slice HO125.out; subst eo30) | ((with_reducible refine gate_builtin (b := .append) (xs := #[.tmp 84, .tmp 98]) rfl ?_); at_builtin; refine Kd.R_append_rows k72 (w0 := w) w.heap.size rfl (.tmp 84) (.tmp 98) 63 72 (.agg #[(.int .i64 0), (.int .i64 0), (.int .i64 0), (.int .i64 0)]) 32 rfl Try.underlying63 info72 rfl (by decide) (by omega) u10 x10_2 y123 _ _ _ (fun k_ => some k_ ≠ (.slice Ao30 y123.length co30 : Value).ownBlock) (fun _ => False) rfl rfl ?aO ?aR (fun _ _ h => h) (fun _ h => h.elim) ?aF ?aB ?aS ?aL ?_; (case aR => repeat (first | exact (Kd.R_reads' HO125.out).2.2 | (with_reducible refine Kd.C_alloc ?_ _) | (with_reducible refine Kd.C_drewN ?_ _) | (with_reducible refine Kd.C_drew ?_))); (case aB => exact (by repeat (first | (with_reducible first | exact HB.out | apply below_alloc | apply pw_below_drewN | apply below_drew1 | refine below_set ?_ GE108.out) | exact HB.out))); (case aF => exact (fun k_ hk => Kd.fresh' (Kd.R_lt (by (with_reducible repeat (first | apply Kd.R_alloc | apply Kd.R_drewN | apply Kd.R_drew)); exact HO125.out)) k_ hk)); (case aO => exact (by (with_reducible repeat (first | apply Kd.R_alloc | apply Kd.R_drewN | apply Kd.R_drew)); exact Kd.R_mono HO_10.out (fun _ hk => hk.2))); (case aS => exact (below_size (by repeat (first | (with_reducible first | exact HB.out | apply below_alloc | apply pw_below_drewN | apply below_drew1 | refine below_set ?_ GE108.out) | exact HB.out)))); (case aL => have := LMc26.out; omega); intro v127 w29 ho hb hg hat; rw [← Ny126.out] at ho; have n0_ := Aside0.mk (blk_grown (g := gb108) (o := .cells #[.slice A0_0 l0_0.length c0_0, .int .i64 a0_1] 49 (0, 0)) (by (with_reducible repeat (first | refine blk_drewN ?_ _ | refine blk_drew ?_ | refine blk_alloc ?_ _)); exact BK108.out) hg (Kd.R_ne HO_10.out BK108.out (by decide))); have n1_ := Aside0.mk (Kd.R_after (ok := (fun _ => True)) (by (with_reducible repeat (first | apply Kd.R_alloc | apply Kd.R_drewN | apply Kd.R_drew)); exact HO125.out) hg hat); have n2_ := Aside0.mk (hb); have n3_ := Aside0.mk (ho); clear BK108; clear HO125; clear HB; clear HO_10; have BK108 := n0_; have HO125 := n1_; have HB := n2_; have HO128 := n3_; clear n0_ n1_ n2_ n3_; clear ho hb hg hat))
                    go_roundg k2
                    case measure => have := HK1.out; have := HK2.out; omega
                    case rel => exact ⟨(y126), (wrap64 (x14_2 + (rd l3 x79_2))), (wrap64 (x79_2 + 1)), (by first | rfl | (simp; done) | (simp [*]; done)), (by first | rfl | (simp; done) | (simp [*]; done)), H', ⟨by have := HK1.out; have := HK2.out; omega⟩, ⟨by (with_reducible repeat (first | apply Kd.R_alloc | apply Kd.R_drewN | apply Kd.R_drew)); exact Kd.R_mono HO128.out (fun _ hk => trivial)⟩, ⟨by (with_reducible repeat (first | refine blk_drewN ?_ _ | refine blk_drew ?_ | refine blk_alloc ?_ _)); exact BK108.out⟩, ⟨by repeat (first | (with_reducible first | exact HB.out | apply below_alloc | apply pw_below_drewN | apply below_drew1 | refine below_set ?_ GE108.out) | exact HB.out)⟩⟩
                  · rw [if_neg c26] at H
                    exact absurd H (by simp)
                · rw [if_neg c25] at H
                  exact absurd H (by simp)
              · rw [if_neg c24] at H
                exact absurd H (by simp)
            · rw [if_neg c23] at H
              have c23b0 : decide (x79_2 < (l3.length : Int)) = false := decide_eq_false c23
              clear c23
              obtain rfl := Option.some.inj H
              go_wp2
              go_ret
              exact ⟨_, by first | rfl | (simp [errW_none, errW_some] <;> rfl) | (simp [*, errW_none, errW_some] <;> rfl), by (with_reducible repeat (first | apply Kd.R_alloc | apply Kd.R_drewN | apply Kd.R_drew)); exact HO_10.out, by repeat (first | (with_reducible first | exact HB.out | apply below_alloc | apply pw_below_drewN | apply below_drew1 | refine below_set ?_ GE108.out) | exact HB.out)⟩

end Go.Proofs.Ytfopdfolbdmnjaa.P
