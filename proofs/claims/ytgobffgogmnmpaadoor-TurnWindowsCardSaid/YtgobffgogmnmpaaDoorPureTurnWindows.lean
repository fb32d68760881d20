/- The statement TurnWindows, of what the walked functions compute: both tell the same windows and the same judgement. Conditions: none but the bounds of the law. -/
import Derived.Test.YtgobffgogmnmpaaDoorPx41
import Derived.Test.YtgobffgogmnmpaaDoorRfw
namespace Go.Proofs.YtgobffgogmnmpaaDoor.Pure
open Go.RowKit Go.Proofs.YtgobffgogmnmpaaDoor.P Go.Proofs.YtgobffgogmnmpaaDoorW.PrintWords Go.Proofs.YtgobffgogmnmpaaDoorW.PrintLast Go.Proofs.YtgobffgogmnmpaaDoorW.PrintMore
theorem ne_self {a : Int} : (a != a) = false := by simp
theorem gset {α : Type} {r : List α} {i j : Nat} {v d : α} (h : i < r.length) : (r.set i v).getD j d = if j = i then v else r.getD j d := by
  rw [List.getD_eq_getElem?_getD, List.getElem?_set, List.getD_eq_getElem?_getD]
  by_cases c : i = j
  · subst c; rw [if_pos rfl, if_pos rfl, if_pos h]; rfl
  · rw [if_neg c, if_neg (fun x => c x.symm)]
section
variable {l : List Int} {p q E : Int} {W : List (List S51)}
theorem win_l2 (hW : W.length ≤ 8) (hr : ∀ i, i < W.length → (rd_L2 W i).length ≤ 20) {t : Nat} {i : Nat} (hi : i < W.length)
    (next : ∀ x : List (List S51), x.length = W.length → (∀ j : Nat, i + 1 ≤ j → rd_L2 x j = rd_L2 W j) → Ev (fun k => trishawlaw01_TurnWindows.l1 k l W E t x ((i + 1 : Nat) : Int) p q) true) :
    ∀ (d m : Nat) (x : List (List S51)), m + d = (rd_L2 W i).length → x.length = W.length → (∀ j : Nat, i + 1 ≤ j → rd_L2 x j = rd_L2 W j) → (rd_L2 x i).length = (rd_L2 W i).length → (∀ j : Nat, m ≤ j → rd_T51 (rd_L2 x i) j = rd_T51 (rd_L2 W i) j) →
      Ev (fun k => trishawlaw01_TurnWindows.l2 k l W E t x i m p q) true := by
  intro d
  have hri := hr i hi
  induction d with
  | zero =>
    intro m x hm hx h1 h2 h3
    refine Ev.step (fun k => by rw [trishawlaw01_TurnWindows.l2]) (ev_pos (by omega) (ev_pos (by omega) (ev_neg (by omega) ?_)))
    rw [wrap_id (n := (i : Int) + 1) (by omega)]
    exact next x hx h1
  | succ d ih =>
    intro m x hm hx h1 h2 h3
    have e := h3 m (Nat.le_refl _)
    refine Ev.step (fun k => by rw [trishawlaw01_TurnWindows.l2]) (ev_pos (by omega) (ev_pos (by omega) (ev_pos (by omega) (ev_pos (by omega) (ev_pos (by omega) (ev_pos (by omega) ?_))))))
    rw [e, wrap_id (n := (m : Int) + 1) (by omega), Int.toNat_natCast, Int.toNat_natCast]
    refine ev_neg (by simp) ?_
    have hself : ∀ v, rd_L2 (x.set i v) (i : Int) = v := fun v => by rw [rd_L2_nat, gset (by omega), if_pos rfl]
    refine ih (m + 1) _ (by omega) (by rw [List.length_set]; exact hx) (fun j hj => ?_) ?_ (fun j hj => ?_)
    · rw [rd_L2_nat, gset (by omega), if_neg (by omega), ← rd_L2_nat]; exact h1 j hj
    · rw [hself, List.length_set]; exact h2
    · rw [hself, rd_T51_nat, gset (by omega), if_neg (by omega), ← rd_T51_nat]; exact h3 j (by omega)
theorem win_l1 (hW : W.length ≤ 8) (hr : ∀ i, i < W.length → (rd_L2 W i).length ≤ 20) {t : Nat} (ht : t < 2)
    (next : Ev (fun k => trishawlaw01_TurnWindows.l0 k l W E ((t + 1 : Nat) : Int) p q) true) :
    ∀ (d i : Nat) (x : List (List S51)), i + d = W.length → x.length = W.length → (∀ j : Nat, i ≤ j → rd_L2 x j = rd_L2 W j) → Ev (fun k => trishawlaw01_TurnWindows.l1 k l W E t x i p q) true := by
  intro d
  induction d with
  | zero =>
    intro i x hi hx h1
    refine Ev.step (fun k => by rw [trishawlaw01_TurnWindows.l1]) (ev_neg (by omega) ?_)
    rw [wrap_id (n := (t : Int) + 1) (by omega)]
    exact next
  | succ d ih =>
    intro i x hi hx h1
    have e := h1 i (Nat.le_refl _)
    refine Ev.step (fun k => by rw [trishawlaw01_TurnWindows.l1]) (ev_pos (by omega) (ev_pos (by omega) (ev_pos (by omega) (ev_pos (by rw [e]) ?_))))
    exact win_l2 hW hr (show i < W.length by omega) (fun y hy h => ih (i + 1) y (by omega) hy h) (rd_L2 W i).length 0 x (by omega) hx (fun j hj => h1 j (by omega)) (by rw [e]) (fun j _ => by rw [e])
theorem win_l0 (hW : W.length ≤ 8) (hr : ∀ i, i < W.length → (rd_L2 W i).length ≤ 20) (hf : Ev (fun k => turn_Windows.f k l p q) (W, E)) {t : Nat} (ht : t < 2)
    (next : Ev (fun k => trishawlaw01_TurnWindows.l0 k l W E ((t + 1 : Nat) : Int) p q) true) : Ev (fun k => trishawlaw01_TurnWindows.l0 k l W E t p q) true := by
  refine Ev.step (fun k => by rw [trishawlaw01_TurnWindows.l0]) (ev_pos (by omega) (Ev.bind hf (ev_pos rfl ?_)))
  rw [ne_self]
  refine Ev.step (fun k => by rw [trishawlaw01_TurnWindows.j1]) (ev_neg Bool.false_ne_true ?_)
  exact win_l1 hW hr ht next W.length 0 W (by omega) rfl (fun j _ => rfl)
theorem win_end {z z' : Bool} (hz : z = z') (h1 : Ev (fun k => turn_Feasible.f k l p q) (z, E)) (h2 : Ev (fun k => trishawref01_Feasible.f k l p q) (z', E)) : Ev (fun k => trishawlaw01_TurnWindows.l0 k l W E ((1 + 1 : Nat) : Int) p q) true := by
  subst hz
  exact Ev.step (fun k => by rw [trishawlaw01_TurnWindows.l0]) (ev_neg (by omega) (Ev.bind h1 (Ev.bind h2 (ev_pos (beq_self_eq_true _) (ev_pos rfl alive_ev')))))
theorem win_all {z z' : Bool} (hz : z = z') (hW : W.length ≤ 8) (hr : ∀ i, i < W.length → (rd_L2 W i).length ≤ 20) (hf : Ev (fun k => turn_Windows.f k l p q) (W, E)) (h1 : Ev (fun k => turn_Feasible.f k l p q) (z, E)) (h2 : Ev (fun k => trishawref01_Feasible.f k l p q) (z', E)) : Ev (fun k => trishawlaw01_TurnWindows.l0 k l W E ((0 : Nat) : Int) p q) true :=
  win_l0 hW hr hf (by omega) (win_l0 hW hr hf (t := 1) (by omega) (win_end hz h1 h2))
end
theorem i64_rng {a : Int} (h : (Lit.int .i64 a).wf = true) : -9223372036854775808 ≤ a ∧ a ≤ 9223372036854775807 := by
  have h1 : IntKind.i64.min ≤ a ∧ a ≤ IntKind.i64.max := by simpa [Lit.wf] using h
  have e0 : IntKind.i64.min = -9223372036854775808 := rfl
  have e1 : IntKind.i64.max = 9223372036854775807 := rfl
  omega
theorem TurnWindows (l : List Int) (p q : Int) (hp : (Lit.int .i64 p).wf = true) (hq : (Lit.int .i64 q).wf = true) : ∃ k, trishawlaw01_TurnWindows.f k l p q = some true := by
  refine Ev.rounds (g := fun k => trishawlaw01_TurnWindows.f k l p q) ?_
  unfold trishawlaw01_TurnWindows.f
  rw [few_f]
  refine Ev.bind (Ev.now _) ?_
  by_cases hf : decide (l.length ≤ 30 ∧ ([] : List Int).length ≤ 500) = true
  rotate_left
  · exact ev_neg hf alive_ev'
  refine ev_pos hf ?_
  by_cases hb : bnE l p q = 0
  · obtain ⟨g, b⟩ := bn_ok.1 hb
    obtain ⟨ws, e1, h1⟩ := RefWindows_good g b
    obtain ⟨vs, e2, h2⟩ := Windows_good g b
    obtain rfl := h1.uniq h2
    obtain ⟨z, e3, h3⟩ := Feasible_good g b
    obtain ⟨z', e4, h4⟩ := RefFeasible_good g b
    have hn := g.len
    have hl := h1.len
    refine Ev.bind e1 (win_all (W := ws) (z := z) (z' := z') ?_ (by omega) (fun i hi => ?_) e2 e3 e4)
    · rw [Bool.eq_iff_iff, h3, h4]
    · have r := h1.row i (by omega)
      have := g.high i (by omega)
      omega
  · exact Ev.bind (RefWindows_bad hb) (win_all rfl (by simp) (fun i hi => absurd hi (by simp)) (Windows_bad (i64_rng hp) (i64_rng hq) hb) (Feasible_bad (i64_rng hp) (i64_rng hq) hb) (RefFeasible_bad hb))
end Go.Proofs.YtgobffgogmnmpaaDoor.Pure
