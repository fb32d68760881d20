/- Short names for steps that the walks of this seat take again and again. Conditions: as each says. -/
import Derived.Test.YtlcgoacmlbeliaaDoorProg
import Derived.Below
import Derived.Deep.Draws
import Derived.Deep.AppendLies
import Derived.Maps.AppendAt
import Derived.OwnWalk
import Derived.Laws.BytesArg
import Derived.Laws.MakeOwn
import Derived.Laws.OwnMore
import Derived.Deep.OwnRows
import Derived.Tactics
import Derived.Lib.ConvBytes
import Derived.Laws.Slices
import Derived.WalkKit
import Derived.KernelRfl
import Derived.RowKit3
import Derived.Deep.LoopGhost
import Derived.Deep.QuietTactic
import Derived.BigQuiet
import Derived.WideLaws
import Derived.Deep.DeepCutAuto
import Derived.Deep.CutBlock
import Derived.Deep.RegionHeld3
import Derived.Laws.Rows
import Derived.Lib.AppendStr
import Derived.ArgAppend
import Derived.Laws.IdiomCopy
import Derived.OrdersHeld
import Derived.Laws.BitsLemmas
import Derived.RowKit
import Derived.Laws.RangeString
import Derived.Lib.OthersKept
import Derived.Lib.SliceRun
import Derived.Shelf.Strings.SlTrimAscii
import Derived.Test.YtlcgoacmlbeliaaDoorWWords
import Derived.Test.YtlcgoacmlbeliaaDoorWLast
import Derived.Test.YtlcgoacmlbeliaaDoorWTab
import Derived.Test.YtlcgoacmlbeliaaDoorWFour
import Derived.Test.YtlcgoacmlbeliaaDoorWQPut
import Derived.Test.YtlcgoacmlbeliaaDoorWApart
import Derived.Test.YtlcgoacmlbeliaaDoorWArr
import Derived.Test.YtlcgoacmlbeliaaDoorWZeros
import Derived.Test.YtlcgoacmlbeliaaDoorWFoot
import Derived.Test.YtlcgoacmlbeliaaDoorWKept
import Derived.Test.YtlcgoacmlbeliaaDoorWShare
import Derived.Test.YtlcgoacmlbeliaaDoorWN
import Derived.Test.YtlcgoacmlbeliaaDoorWFootNe
import Derived.Test.YtlcgoacmlbeliaaDoorWAt
import Derived.Test.YtlcgoacmlbeliaaDoorWEqStruct
import Derived.Test.YtlcgoacmlbeliaaDoorWRepsOne
import Derived.Test.YtlcgoacmlbeliaaDoorWInv
import Derived.Test.YtlcgoacmlbeliaaDoorWInvWords
import Derived.Test.YtlcgoacmlbeliaaDoorWGuard
import Derived.Test.YtlcgoacmlbeliaaDoorWNEv
import Derived.Test.YtlcgoacmlbeliaaDoorWMore
namespace Go.Proofs.YtlcgoacmlbeliaaDoor.P
open Go.RowKit Go.Proofs.YtlcgoacmlbeliaaDoorW.PrintWords Go.Proofs.YtlcgoacmlbeliaaDoorW.PrintLast Go.Proofs.YtlcgoacmlbeliaaDoorW.PrintMore
theorem fl_ {p : Prop} (h : ¬p → False) : p := Classical.byContradiction h
theorem od_ {p : Prop} [Decidable p] (h : decide p = true := by first | (with_reducible assumption) | assumption) : p := of_decide_eq_true h
theorem bl_ {B : Nat} {w W : World} (h : Below B w W := by repeat (first | (with_reducible first | exact HB.out | apply below_alloc | apply pw_below_drewN | apply below_drew1 | refine below_set ?_ (Aside0.out (by assumption))) | exact HB.out)) : Below B w W := h
theorem as_ {a b : Array Value} (h : a = b := by (try simp only [List.map_toArray, List.map_cons, List.map_nil]); first | done | rfl | (simp only [List.length_drop, List.length_take]; rfl)) : a = b := h
theorem kr_ {q p : Prop} (a : q) (h : q → p := by intro h_; (with_reducible repeat (first | apply Kd.R_alloc | apply Kd.R_drewN | apply Kd.R_drew)); exact h_) : p := h a
theorem kv_ {q p : Prop} (a : q) (h : q → p := by intro h_; (with_reducible repeat (first | apply Kd.V_alloc | apply Kd.V_drewN | apply Kd.V_drew)); exact h_) : p := h a
theorem ks_ {q p : Prop} (a : q) (h : q → p := by intro h_; (with_reducible repeat (first | apply Kd.S_alloc | apply Kd.S_drewN | apply Kd.S_drew)); exact h_) : p := h a
theorem bk_ {q p : Prop} (a : q) (h : q → p := by intro h_; (with_reducible repeat (first | refine blk_drewN ?_ _ | refine blk_drew ?_ | refine blk_alloc ?_ _)); exact h_) : p := h a
theorem nf_ {q r p : Prop} (a : q) (b : r) (h : q → r → p := by intro a_ b_; first | exact Nat.ne_of_lt (Nat.lt_of_lt_of_le (by have := World.block_lt_of_cell? _ _ a_; first | rwa [add_block] at this | exact this) b_) | (rw [add_block]; exact Nat.ne_of_lt (Nat.lt_of_lt_of_le (by have := World.block_lt_of_cell? _ _ a_; first | rwa [add_block] at this | exact this) b_)) | (show (Addr.add _ _).block ≠ _; rw [add_block]; exact Nat.ne_of_lt (Nat.lt_of_lt_of_le (by have := World.block_lt_of_cell? _ _ a_; first | rwa [add_block] at this | exact this) b_)) | (dsimp only; exact Nat.ne_of_lt (Nat.lt_of_lt_of_le (by have := World.block_lt_of_cell? _ _ a_; first | rwa [add_block] at this | exact this) b_))) : p := h a b
section
variable {P : Program} {ops : Array Oper} {Q : Exit → Act → World → Prop} {md : Region.Mode} {S : World → Prop} {ds : List Nat}
/-- An operation that yields in every world, with its checks (see pure_). -/
theorem pu_ (i K : Nat) {T : Bool × List (List Nat × List Nat)} {v : Value} {oi : Oper} {fuel : Nat} {l l' : Array Bool} {a a' : Act} {w : World} (hT : rtab md ops = T) (hi : ops[i]? = some oi := by rfl) (hN : oi.dst = some K := by rfl) (_he : l.setIfInBounds i true = l' := by simp only [List.setIfInBounds_toArray, List.set_cons_zero, List.set_cons_succ]; rfl) (hc : anyT T l.toList l'.toList i = true := by kernel_rfl)
    (hQ : ∀ c a w, Q (.panic c) (a.put oi.dst v) w → Q (.panic c) a w := by exact fun _ _ _ h => h) (hy : Yields P ops oi v a := by exact Or.inl ⟨by rfl, by intro w'; go_simp; with_reducible rfl⟩) (ha : a.put (some K) v = a' := by simp only [Act.put, List.setIfInBounds_toArray, List.set_cons_zero, List.set_cons_succ, i64_w, i32_w]; rfl)
    (h : wpAnyLast P md ops Q S ds fuel l' a' w) : wpAnyLast P md ops Q S ds (fuel + 1) l a w := pure_ l' hi hN (any_of hT hc) hQ hy ha h
/-- One that is left out. -/
theorem pn_ (i K : Nat) {T : Bool × List (List Nat × List Nat)} {oi : Oper} {fuel : Nat} {l l' : Array Bool} {a a' : Act} {w : World} (hT : rtab md ops = T) (hi : ops[i]? = some oi := by rfl) (hN : oi.dst = some K := by rfl) (_he : l.setIfInBounds i true = l' := by simp only [List.setIfInBounds_toArray, List.set_cons_zero, List.set_cons_succ]; rfl) (hc : anyT T l.toList l'.toList i = true := by kernel_rfl)
    (hQ : ∀ c a w, Q (.panic c) (a.put oi.dst undef) w → Q (.panic c) a w := by exact fun _ _ _ h => h) (hy : Yields P ops oi undef a := by exact Or.inr ⟨by rfl, rfl⟩) (ha : a.put (some K) undef = a' := by simp only [Act.put, List.setIfInBounds_toArray, List.set_cons_zero, List.set_cons_succ, i64_w, i32_w]; rfl)
    (h : wpAnyLast P md ops Q S ds fuel l' a' w) : wpAnyLast P md ops Q S ds (fuel + 1) l a w := pure_ l' hi hN (any_of hT hc) hQ hy ha h
/-- One that reads what is held (see take_). -/
theorem ta_ (i K : Nat) {T : Bool × List (List Nat × List Nat)} {B : List Nat} {v : Value} {oi : Oper} {fuel : Nat} {l l' : Array Bool} {a a' : Act} {w : World} (hT : rtab md ops = T) (hB : waitsOk T.2 B = true) (hS : S w) (hi : ops[i]? = some oi := by rfl) (hN : oi.dst = some K := by rfl) (_he : l.setIfInBounds i true = l' := by simp only [List.setIfInBounds_toArray, List.set_cons_zero, List.set_cons_succ]; rfl) (hc : takeW T B ds l.toList l'.toList i = true := by kernel_rfl)
    (hQ : ∀ c a w, Q (.panic c) (a.put oi.dst v) w → Q (.panic c) a w := by exact fun _ _ _ h => h) (hy : YieldsIf P ops S oi v a := by exact Or.inl ⟨by rfl, by intro w' hs_; go_simp; with_reducible rfl⟩) (ha : a.put (some K) v = a' := by simp only [Act.put, List.setIfInBounds_toArray, List.set_cons_zero, List.set_cons_succ, i64_w, i32_w]; rfl)
    (h : wpAnyLast P md ops Q S ds fuel l' a' w) : wpAnyLast P md ops Q S ds (fuel + 1) l a w := take_ l' hi hN (take_ofW hT hB hc) hQ hy hS ha h
end
/-! Shorter still: facts told again in a later world. -/
section
variable {w W W0 w1 : World} {g g' t : Nat} {o : Obj} {cs : Array Value}
theorem gw_ (hg : g = W.heap.size) (h : Below w.heap.size w W := by exact bl_) : Aside0 (w.heap.size ≤ g) := ⟨hg ▸ below_size h⟩
theorem hb_ (k : Below W.heap.size W w1) (h : Below w.heap.size w W := by exact bl_) : Aside0 (Below w.heap.size w w1) := ⟨below_step h k⟩
theorem bb_ (a : Aside0 (W0.heap[g]? = some o)) (hb : Below W.heap.size W w1) (h : W0.heap[g]? = some o → W.heap[g]? = some o := by intro h_; exact bk_ h_) : Aside0 (w1.heap[g]? = some o) := ⟨blk_below (h a.out) hb⟩
theorem nl_ (hg : g' = W.heap.size) (a : Aside0 (W0.heap[g]? = some o)) (h : W0.heap[g]? = some o → W.heap[g]? = some o := by intro h_; exact bk_ h_) : Aside0 (g ≠ g') := ⟨hg ▸ Nat.ne_of_lt (blk_lt (h a.out))⟩
theorem sy_ (a : Aside0 (g ≠ g')) : Aside0 (g' ≠ g) := ⟨a.out.symm⟩
theorem bc_ (a : Aside0 (W.heap[g]? = some (.cells cs t (0, 0)))) (i : Nat) (v : Value) (h : cs[i]? = some v := by rfl) : W.cell? ⟨g, i, none⟩ = some v := (blk_cell a.out i).trans h
theorem bz_ (a : Aside0 (W.heap[g]? = some (.cells cs t (0, 0)))) (i : Nat) : W.frozen? ⟨g, i, none⟩ = false := blk_frozen a.out i
theorem hc_ {ad : Addr} {v : Value} (a : Aside0 (Below w.heap.size w W)) (h : w.cell? ad = some v) : W.cell? ad = some v := (a.out.cell (World.block_lt_of_cell? w _ h)).trans h
section
variable {α β : Type} {d : Kd α} {d' : Kd β} {e e' base base' : Nat} {ok ok' : Nat → Prop} {v u : Value} {xs : List α} {ys : List β}
theorem rb_ (a : Aside0 (Kd.R d e W0 base ok v xs)) (hb : Below W.heap.size W w1) (h : Kd.R d e W0 base ok v xs → Kd.R d e W base ok v xs := by intro h_; exact kr_ h_) : Aside0 (Kd.R d e w1 base ok v xs) := ⟨Kd.R_below (h a.out) hb⟩
theorem re_ (a : Aside0 (Kd.R d e W0 base ok v xs)) (r : Kd.R d' e' w1 W.heap.size ok' u ys) (hb : Below W.heap.size W w1) (h : Kd.R d e W0 base ok v xs → Kd.R d e W base ok v xs := by intro h_; exact kr_ h_) : Aside0 (Kd.R d e w1 base (fun k => ok k ∧ some k ≠ u.ownBlock) v xs) := ⟨Kd.R_elder' (h a.out) (Kd.R_base r) hb⟩
theorem ve_ (a : Aside0 (Kd.V d e W0 base ok v xs)) (hg : g = W.heap.size) (hb : Below W.heap.size W w1) (h : Kd.V d e W0 base ok v xs → Kd.V d e W base ok v xs := by intro h_; exact kv_ h_) : Aside0 (Kd.V d e w1 base (fun k => ok k ∧ k ≠ g) v xs) := ⟨Kd.V_below (Kd.V_elderB (h a.out) g (Nat.le_of_eq hg.symm)) hb⟩
theorem rl_ (r : Kd.R d e w1 W.heap.size ok v xs) (h : Below w.heap.size w W := by exact bl_) : Aside0 (Kd.R d e w1 w.heap.size ok v xs) := ⟨Kd.R_lower r (below_size h)⟩
theorem rn_ (r : Kd.R d e w1 W.heap.size ok v xs) (a : Aside0 (Kd.R d' e' W0 base' ok' u ys)) (h : Kd.R d' e' W0 base' ok' u ys → Kd.R d' e' W base' ok' u ys := by intro h_; exact kr_ h_) : Kd.R d e w1 W.heap.size (fun k => ok k ∧ some k ≠ u.ownBlock) v xs := Kd.R_new' r (Kd.R_lt (h a.out))
theorem ai_ {k : IntKind} {zs : List Int} {A : Option Addr} {n : Nat} (h : (Kd.int k).C w A n zs) (i : Int) (h0 : 0 ≤ i := by exact od_) (h1 : i < n := by exact od_) : ∃ ad, A = some ad ∧ w.cell? (ad.add i.toNat) = some (.int k (rd zs i)) ∧ (0 ≤ i) = True ∧ (i < (n : Int)) = True := by
  obtain ⟨ad, a, b⟩ := Kd.at_int h i h0 h1
  exact ⟨ad, a, b, eq_true h0, eq_true h1⟩
end
section
variable {P : Program} {ops : Array Oper} {rest : List Oper} {o : Oper} {a : Act} {Q : Exit → Act → World → Prop}
theorem be_ {W : World} (cs : Array Value) (t : TypeId) (h : ∀ g, g = W.heap.size → ∀ w1, w1.heap[g]? = some (.cells cs t (0, 0)) → Below W.heap.size W w1 → wpList P ops Q rest (a.put o.dst (.pointer (some ⟨g, 0, none⟩))) w1) (hgd : o.guard = none := by rfl)
    (hrun : (execOp a.eval o).run P W = .ok (.value (.pointer (some ⟨W.heap.size, 0, none⟩))) (W.alloc (.cells cs t (0, 0))) := by first | (go_simp; done) | (go_simp; rfl)) : wpList P ops Q (o :: rest) a W := Kd.event_run hgd hrun (h _ rfl _ (blk_new W _) (below_alloc (Below.refl _ _) _))
end
end
theorem fp_ {α : Type} {c : Prop} [Decidable c] {a : Option α} {r : α} (h : (if c then a else none) = some r) : decide c = true ∧ a = some r := by
  by_cases hc : c
  · exact ⟨decide_eq_true hc, by rwa [if_pos hc] at h⟩
  · rw [if_neg hc] at h; exact absurd h (by simp)
theorem bi_ {α β : Type} {o : Option α} {f : α → Option β} {r : β} (h : o.bind f = some r) : ∃ a, Aside0 (o = some a) ∧ f a = some r := by
  obtain ⟨a, h1, h2⟩ := Option.bind_eq_some_iff.mp h
  exact ⟨a, ⟨h1⟩, h2⟩
theorem cb_ {q p : Prop} (a : q) (h : q → p := by intro h_; repeat (first | exact Kd.C_below h_ HB.out | (with_reducible refine Kd.C_alloc ?_ _) | (with_reducible refine Kd.C_drewN ?_ _) | (with_reducible refine Kd.C_drew ?_))) : p := h a
theorem cr_ {q p : Prop} (a : q) (h : q → p := by intro h_; repeat (first | exact (Kd.R_reads' h_).2.2 | (with_reducible refine Kd.C_alloc ?_ _) | (with_reducible refine Kd.C_drewN ?_ _) | (with_reducible refine Kd.C_drew ?_))) : p := h a
theorem er_ {p : Prop} (h : p := by first | rfl | (simp [errW_none, errW_some] <;> rfl) | (simp [*, errW_none, errW_some] <;> rfl)) : p := h
theorem rs_ {p : Prop} (h : p := by first | rfl | (simp; done) | (simp [*]; done)) : p := h
theorem mo_ {p : Prop} (h : p := by repeat' first | (with_reducible exact LeO.refl _) | (with_reducible exact LeO.none _) | (with_reducible refine LeO.ite ?_ ?_) | (with_reducible refine LeO.bind ?_ (fun _ => ?_)) | exact LeO.none _ | refine LeO.ite ?_ ?_ | refine LeO.bind ?_ (fun _ => ?_)) : p := h
section
variable {P : Program} {ops : Array Oper} {Q : Exit → Act → World → Prop} {md : Region.Mode} {S : World → Prop} {ds : List Nat}
theorem nm_ {fuel : Nat} {l : Array Bool} {a a' : Act} {w : World} (h : wpAnyLast P md ops Q S ds fuel l a' w) (ha : a = a' := by first | (simp only [putAll, Act.put, List.setIfInBounds_toArray, List.set_cons_zero, List.set_cons_succ]; done) | (simp only [putAll, Act.put, List.setIfInBounds_toArray, List.set_cons_zero, List.set_cons_succ]; rfl)) : wpAnyLast P md ops Q S ds fuel l a w := norm_ ha h
theorem np_ {fuel : Nat} {l : Array Bool} {a a' : Act} {w : World} {v : Value} (N : Nat) (ha : a.put (some N) v = a' := by simp only [Act.put, List.setIfInBounds_toArray, List.set_cons_zero, List.set_cons_succ, i64_w, i32_w]; rfl) (h : wpAnyLast P md ops Q S ds fuel l a' w) : wpAnyLast P md ops Q S ds fuel l (a.put (some N) v) w := norm_ ha h
end
end Go.Proofs.YtlcgoacmlbeliaaDoor.P
