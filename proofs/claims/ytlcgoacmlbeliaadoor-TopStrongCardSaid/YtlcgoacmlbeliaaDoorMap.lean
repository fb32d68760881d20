/- What a walk needs of a map of slices (the streets to each corner): a look-up hands out the same in every world in which the map's block is the same; the groups in every later world. Conditions: as each says. -/
import Derived.Maps.OwnRows
import Derived.Maps.GroupsBeside
import Derived.Test.YtlcgoacmlbeliaaDoorPre
namespace Go.Proofs.YtlcgoacmlbeliaaDoor.P
set_option linter.unusedVariables false
set_option linter.unusedSimpArgs false
open Go Go.RowKit Go.Maps Go.WideElems Go.MapKept Go.Proofs.YtlcgoacmlbeliaaDoorW.PrintWords Go.Proofs.YtlcgoacmlbeliaaDoorW.PrintLast Go.Proofs.YtlcgoacmlbeliaaDoorW.PrintMore
/-- What branch.read hands out beside its error: a town in a block of its own (60: the town's type). -/
def TownAt (a0 : Int) (A : Option Addr) (n c : Nat) (base : Nat) (w' : World) (r : Int) (v : Value) : Prop := r = 0 → ∃ g m, v = .pointer (some ⟨g, 0, none⟩) ∧ base ≤ g ∧ w'.heap[g]? = some (.cells #[.int .i64 a0, .slice A n c, .map m] 76 (0, 0))
section
variable {H : Type} {P : Program} {k E e t : TypeId} {q : IntKind} {b n base : Nat} {D : DataW H}
theorem look_same (K : Keyed P k) (ht : P.underlying t = some (.map k E)) (hz : ∀ w, (zeroValue E).run P w = .ok (.slice none 0 0) w) {w : World} (h : w.ownsGroups (H := H) P k base e q b n D) (hn : n < maxLen) {key : Value} {kl : Lit} (hkey : keyOf P k key = some kl) :
    ∃ v zs, (∀ w', w'.heap[b]? = w.heap[b]? → (Instr.lookup t (.map (some b)) key false).run P w' = .ok v w') ∧ w.ownsInts base e q v zs ∧ zs.length ≤ n ∧ w.groupBack (H := H) P t k base e q b n D key kl v := by
  obtain ⟨v, zs, hrun, _, hoi, hzl, hback⟩ := h.at K ht (hz w) hn hkey
  refine ⟨v, zs, fun w' hw' => ?_, hoi, hzl, hback⟩
  obtain ⟨es, clock, hb, F, _⟩ := h
  have hp : es.toList.Pairwise (fun x y => x.key ≠ y.key) := ((stamped_iff es clock).1 F.stamped).2.2
  have hb' : w'.heap[b]? = some (.map es clock) := hw'.trans hb
  have uniq : ∀ x ∈ es.toList, ∀ y ∈ es.toList, x.key = y.key → x = y := by
    intro x hx y hy hxy
    obtain ⟨i, hi, rfl⟩ := List.getElem_of_mem hx
    obtain ⟨j, hj, rfl⟩ := List.getElem_of_mem hy
    have hpg := List.pairwise_iff_getElem.1 hp
    rcases Nat.lt_trichotomy i j with h1 | h1 | h1
    · exact absurd hxy (hpg i j hi hj h1)
    · subst h1; rfl
    · exact absurd hxy.symm (hpg j i hj hi h1)
  have F0 : Fit (H := H) P k (fun _ => some (.nil, [])) es clock := ⟨F.size, F.stamped, fun x hx => by
    obtain ⟨y, hy⟩ := F.reads x hx
    have := rd_key hy
    exact ⟨(y.1, .nil), by simp [Go.WideElems.rd, this]⟩⟩
  rcases Maps.fit_look false K ht (hz w) hb F0 hkey with ⟨r1, n1, _⟩ | ⟨e1, y1, m1, k1, r1, _⟩ <;>
    rcases Maps.fit_look false K ht (hz w') hb' F0 hkey with ⟨r2, n2, _⟩ | ⟨e2, y2, m2, k2, r2, _⟩
  · rw [r1] at hrun; cases hrun; exact r2
  · exact absurd k2 (n1 e2 m2)
  · exact absurd k1 (n2 e1 m1)
  · rw [r1] at hrun; cases hrun
    rw [uniq e1 m1 e2 m2 (k1.trans k2.symm)]
    exact r2
theorem groups_below {w w' : World} (h : w.ownsGroups (H := H) P k base e q b n D) (hb : Below w.heap.size w w') : w'.ownsGroups (H := H) P k base e q b n D := by
  have hg : w.grownBy w' none := ⟨hb.os, hb.tape, hb.output, hb.size, fun i hi _ => hb.block i hi⟩
  refine h.kept hg (by simp) (fun es clock _ x _ => ?_)
  cases x.val.ownBlock <;> simp
theorem ints_below {w w' : World} {v : Value} {zs : List Int} (h : w.ownsInts base e q v zs) (hb : Below w.heap.size w w') : w'.ownsInts base e q v zs := by
  have hg : w.grownBy w' none := ⟨hb.os, hb.tape, hb.output, hb.size, fun i hi _ => hb.block i hi⟩
  refine h.kept hg ?_
  cases v.ownBlock <;> simp
theorem grown_below {w w' : World} (row : Option Nat) (hb : Below w.heap.size w w') : w.grownBy w' row := ⟨hb.os, hb.tape, hb.output, hb.size, fun i hi _ => hb.block i hi⟩
theorem groups_lt {w : World} (h : w.ownsGroups (H := H) P k base e q b n D) : b < w.heap.size := by
  obtain ⟨es, clock, hb, _⟩ := h
  exact blk_lt hb
theorem groups_ne {w : World} (h : w.ownsGroups (H := H) P k base e q b n D) {g t : Nat} {cs : Array Value} {x : Nat × Nat} (hg : w.heap[g]? = some (.cells cs t x)) : g ≠ b := by
  obtain ⟨es, clock, hb, _⟩ := h
  rintro rfl
  rw [hb] at hg
  cases hg
theorem row_ne {w : World} {size m : Nat} {v : Value} {xs : List Value} (h : w.ownsRow base e size v m xs) {g t : Nat} {cs : Array Value} (hg : w.heap[g]? = some (.cells cs t (0, 0))) (ht : e ≠ t) : some g ≠ v.ownBlock := by
  intro h1
  obtain ⟨cells, h2⟩ := own_typed h g h1.symm
  rw [hg] at h2
  injection h2 with h3
  injection h3 with _ h4
  exact ht h4.symm
end
section
variable {P : Program} {o : Oper} {a : Act} {w w' : World}
theorem run_append_ {s x : Operand} {t : TypeId} {v y v' : Value} (ho : o.op = .call { callee := .builtin .append, args := #[s, x], argTypes := #[t, t] }) (hs : a.eval s = v) (hx : a.eval x = y) (hr : (Builtin.append_ #[t, t] o.type #[v, y]).run P w = .ok v' w') : (execOp a.eval o).run P w = .ok (.value v') w' := by
  unfold execOp
  simp only [ho, resolve, invoke, builtin, Sem.run_bind, Sem.run_pure, Result.andThen_ok, List.map_toArray, List.map_cons, List.map_nil, hs, hx, hr]
theorem run_update_ {m x u : Operand} {t : TypeId} {vm vx vu : Value} (ho : o.op = .mapUpdate t m x u) (hm : a.eval m = vm) (hx : a.eval x = vx) (hu : a.eval u = vu) (hr : (Instr.mapUpdate t vm vx vu).run P w = .ok () w') : (execOp a.eval o).run P w = .ok .skip w' := by
  simp [execOp, ho, hm, hx, hu, hr, Result.andThen]
end
set_option maxRecDepth 100000 in
/-- A look-up in no map at all. -/
theorem look_nil_ (x : Int) (w : World) : (Instr.lookup 77 (.map none) (.int .i64 x) false).run Tryd.prog w = .ok (.bool false) w := by kernel_rfl
theorem tw_ {w W : World} {g : Nat} {o : Obj} (ht : w.heap[g]? = some o) (h : Below w.heap.size w W := by exact bl_) : W.heap[g]? = some o := blk_below ht h
/-- A call of a function value, as an arm of go_wp2_with. -/
theorem goesV_ {P : Program} {ops : Array Oper} {Q : Exit → Act → World → Prop} {rest : List Oper} {oi : Oper} {a : Act} {w : World} (N : Option Tmp) (hd : oi.dst = N) (hg : oi.guard = none) {f : FuncId} {fn : Func} {op : Operand} {xs : Array Operand} {ts : Array TypeId} {cap : Array Value} (hop : oi.op = .call { callee := .value op, args := xs, argTypes := ts }) (hv : a.eval op = .func (.func f) #[] cap) (hf : P.funcs[f]? = some fn) (hname : (fn.name == "runtime.NumGoroutine") = false) (hb : fn.body.isSome = true) (args : Array Value)
    (hargs : xs.map a.eval ++ cap = args)
    (h : Calls P f args w fun e w' => ∃ v, e = .returned v ∧ wpList P ops Q rest (a.put N v) w') : wpList P ops Q (oi :: rest) a w := by
  refine wpList_plain hg fun K hK => ?_
  have he := enters_ hf hname hb args w
  have hrun : (execOp a.eval oi).run P w = .ok (.enter f args) w := by
    unfold execOp
    have hv' : a.eval op = .func (.func f) #[] cap := hv
    simp [hop, resolve, Deferred.ofValue, invoke, Act.eval, ← hargs, he] at hv' ⊢
    simp [hv', invoke, Act.eval, hargs, he]
  unfold Oper.wp
  rw [hrun, Oper.upon_enter]
  refine h.mono fun e w'' hh => ?_
  obtain ⟨v, rfl, hk⟩ := hh
  subst hd
  exact hK _ _ hk
/-- All blocks that were there are as they were, but those of S. -/
structure KeptBy (S : Nat → Prop) (w w' : World) : Prop where
  os : w'.os = w.os
  tape : w'.tape = w.tape
  output : w'.output = w.output
  size : w.heap.size ≤ w'.heap.size
  block : ∀ k, k < w.heap.size → ¬ S k → w'.heap[k]? = w.heap[k]?
section
variable {S : Nat → Prop} {w W W2 : World}
theorem KeptBy.of_below (h : Below w.heap.size w W) : KeptBy S w W := ⟨h.os, h.tape, h.output, h.size, fun k hk _ => h.block k hk⟩
theorem KeptBy.trans (h : KeptBy S w W) (h2 : KeptBy S W W2) : KeptBy S w W2 :=
  ⟨h2.os.trans h.os, h2.tape.trans h.tape, h2.output.trans h.output, Nat.le_trans h.size h2.size, fun k hk hn => (h2.block k (Nat.lt_of_lt_of_le hk h.size) hn).trans (h.block k hk hn)⟩
theorem KeptBy.set (h : KeptBy S w W) {p : Addr} (hp : S p.block ∨ w.heap.size ≤ p.block) (u : Value) : KeptBy S w (W.setCell p u) :=
  ⟨h.os, h.tape, h.output, by simpa [World.setCell] using h.size, fun k hk hn => (Below.heap_setCell W p u k (by rintro rfl; rcases hp with h1 | h1; exact hn h1; omega)).trans (h.block k hk hn)⟩
theorem KeptBy.drewN (h : KeptBy S w W) (n : Nat) : KeptBy S w (W.drewN n) := ⟨h.os, h.tape, h.output, h.size, h.block⟩
theorem KeptBy.kept (h : KeptBy S w W) : Kept w W S := ⟨h.size, h.block⟩
theorem KeptBy.below (h : KeptBy S w W) {B : Nat} {w0 : World} (h0 : Below B w0 w) (hB : B ≤ w.heap.size) (hS : ∀ k, S k → B ≤ k) : Below B w0 W :=
  ⟨h.os.trans h0.os, h.tape.trans h0.tape, h.output.trans h0.output, Nat.le_trans h0.size h.size, fun k hk => (h.block k (Nat.lt_of_lt_of_le hk hB) (fun h1 => by have := hS k h1; omega)).trans (h0.block k hk)⟩
end
/-- What the closure 'tell' of finder leaves in its three cells: a list, how many, whether one was found. -/
def Told3 (gF gB gM : Nat) (P : Nat → Prop) (w w' : World) (r1 : List Int) (r2 : Int) (r3 : Bool) : Prop :=
  ∃ v0 : Value, w'.heap[gB]? = some (.cells #[v0] 29 (0, 0)) ∧ w'.heap[gM]? = some (.cells #[.int .i64 r2] 3 (0, 0)) ∧ w'.heap[gF]? = some (.cells #[.bool r3] 4 (0, 0)) ∧
    Kd.V (Kd.int .i64) 3 w' w.heap.size (fun k_ => P k_ ∨ w.heap.size ≤ k_) v0 r1 ∧ KeptBy (fun k => k = gB ∨ k = gM ∨ k = gF) w w'
end Go.Proofs.YtlcgoacmlbeliaaDoor.P
