/- Whom Greedy calls. Conditions: shares of the document, at most 400 days. -/
import Derived.Test.YtgobffgogmnmpaaDoorPx23
import Derived.Test.YtgobffgogmnmpaaDoorRun
namespace Go.Proofs.YtgobffgogmnmpaaDoor.Pure
open Go.RowKit Go.Proofs.YtgobffgogmnmpaaDoor.P Go.Proofs.YtgobffgogmnmpaaDoorW.PrintWords Go.Proofs.YtgobffgogmnmpaaDoorW.PrintLast Go.Proofs.YtgobffgogmnmpaaDoorW.PrintMore

/-- Greedy's pick: who is owed most, the least one. -/
def gbest (y : Nat → Int) : Nat → Nat → Nat → Nat
  | 0, _, b => b
  | d + 1, i, b => gbest y d (i + 1) (if y i > y b then i else b)
theorem gbest_lt {y : Nat → Int} {n : Nat} : ∀ (d i b : Nat), i + d = n → b < n → gbest y d i b < n := by
  intro d
  induction d with
  | zero => intro i b _ h; exact h
  | succ d ih =>
    intro i b hi hb
    show gbest y d (i + 1) _ < n
    refine ih (i + 1) _ (by omega) ?_
    split <;> omega
theorem gbest_is {y : Nat → Int} : ∀ (d i b : Nat), b < i → (∀ j, j < i → y j ≤ y b ∧ (j < b → y j < y b)) → ∀ j, j < i + d → y j ≤ y (gbest y d i b) ∧ (j < gbest y d i b → y j < y (gbest y d i b)) := by
  intro d
  induction d with
  | zero => intro i b _ h; exact h
  | succ d ih =>
    intro i b hb h j hj
    refine ih (i + 1) _ ?_ ?_ j (by omega)
    · split <;> omega
    · intro j hj
      by_cases c : y i > y b
      · rw [if_pos c]
        by_cases e : j = i
        · subst e; exact ⟨Int.le_refl _, fun h => by omega⟩
        · have := h j (by omega); exact ⟨by omega, fun _ => by omega⟩
      · rw [if_neg c]
        by_cases e : j = i
        · subst e; exact ⟨by omega, fun h => by omega⟩
        · exact h j (by omega)
def pickG (l : List Int) (c : Nat → Nat) (t : Nat) : Nat := gbest (due l c t) l.length 0 0
theorem pickG_lt {l : List Int} (g : Good l) (c : Nat → Nat) (t : Nat) : pickG l c t < l.length := gbest_lt l.length 0 0 (by omega) g.pos
theorem pickG_one {l : List Int} (g : Good l) (c : Nat → Nat) (t : Nat) : pickG l c t = gbest (due l c t) (l.length - 1) 1 0 := by
  unfold pickG
  obtain ⟨n, hn⟩ : ∃ n, l.length = n + 1 := ⟨l.length - 1, by have := g.pos; omega⟩
  rw [hn]
  show gbest (due l c t) n 1 (if due l c t 0 > due l c t 0 then 0 else 0) = _
  rw [if_neg (by omega)]; rfl
theorem pickG_is {l : List Int} (g : Good l) (c : Nat → Nat) (t : Nat) : ∀ j, j < l.length → due l c t j ≤ due l c t (pickG l c t) ∧ (j < pickG l c t → due l c t j < due l c t (pickG l c t)) := by
  rw [pickG_one g]
  intro j hj
  exact gbest_is (y := due l c t) (l.length - 1) 1 0 (by omega) (fun j hj => by
    obtain rfl : j = 0 := by omega
    exact ⟨Int.le_refl _, fun h => by omega⟩) j (by omega)
theorem greedy_l0 {l : List Int} (g : Good l) {c : Nat → Nat} {t : Nat} (ht : t ≤ 500) {cl : List Int} (hc : Cs cl l.length c) (hct : ∀ i, c i ≤ t) : ∀ (d i b : Nat), i + d = l.length → b < l.length →
    Ev (fun k => turn_Greedy_1.l0 k ((t + 1 : Nat) : Int) cl b cl cl.length i l (tot l)) (gbest (due l c t) d i b : Int) := by
  intro d
  have hn := g.len
  have hcl := hc.len
  induction d with
  | zero =>
    intro i b hi hb
    show Ev _ (b : Int)
    exact Ev.step (fun k => by rw [turn_Greedy_1.l0]) (ev_neg (by omega) (Ev.now _))
  | succ d ih =>
    intro i b hi hb
    have h := ih (i + 1) (if due l c t i > due l c t b then i else b) (by omega) (by split <;> omega)
    refine Ev.step (fun k => by rw [turn_Greedy_1.l0]) (ev_pos (by omega) (ev_pos (by omega) (ev_pos (by omega) ?_)))
    rw [rd_nat, rd_nat, owed_due g ht (by omega) (hct i) (hc.at_ i (by omega)), owed_due g ht hb (hct b) (hc.at_ b hb), wrap_id (n := (i : Int) + 1) (by omega)]
    refine Ev.bind (Ev.now _) (ev_pos (by omega) (ev_pos (by omega) (Ev.bind (Ev.now _) ?_)))
    show Ev _ (gbest (due l c t) d (i + 1) (if due l c t i > due l c t b then i else b) : Int)
    by_cases cc : due l c t i > due l c t b
    · rw [if_pos cc] at h ⊢; exact ev_pos cc h
    · rw [if_neg cc] at h ⊢; exact ev_neg cc h
theorem calledG_l0 {l : List Int} (g : Good l) {many : Nat} (hm : many ≤ 400) : ∀ (d t : Nat) (cl : List Int), t + d = many → Cs cl l.length (run (pickG l) t) →
    Ev (fun k => turn_called_G.l0 k cl (lst (called (pickG l)) t) many t l (tot l)) (lst (called (pickG l)) many, 0) := by
  intro d
  have hn := g.len
  induction d with
  | zero =>
    intro t cl ht hc
    obtain rfl : t = many := by omega
    exact Ev.step (fun k => by rw [turn_called_G.l0]) (ev_neg (by omega) (Ev.now _))
  | succ d ih =>
    intro t cl ht hc
    have hcl := hc.len
    have hlt := pickG_lt g (run (pickG l) t) t
    have hb : cl.getD (pickG l (run (pickG l) t) t) 0 = _ := hc.at_ _ hlt
    have hb2 := run_le (pickG l) t (pickG l (run (pickG l) t) t)
    have h := ih (t + 1) (cl.set (pickG l (run (pickG l) t) t) (cl.getD (pickG l (run (pickG l) t) t) 0 + 1)) (by omega) (hc.bump hlt rfl)
    rw [lst_succ] at h
    refine Ev.step (fun k => by rw [turn_called_G.l0]) (ev_pos (by omega) ?_)
    rw [wrap_id (n := (t : Int) + 1) (by omega), show (t : Int) + 1 = ((t + 1 : Nat) : Int) by omega]
    refine Ev.bind (a := (pickG l (run (pickG l) t) t : Int)) ?_ (ev_pos (by omega) (ev_pos (by omega) (ev_pos (by rw [lst_len]; omega) ?_)))
    · unfold turn_Greedy_1.f
      exact greedy_l0 g (by omega) hc (run_le _ _) l.length 0 0 (by omega) g.pos
    · rw [Int.toNat_natCast, rd_nat, wrap_id (n := cl.getD _ 0 + 1) (by omega)]
      exact h
theorem calledG_f (l : List Int) (many : Int) : Ev (fun k => turn_called_G.f k l many) (if maE l many = 0 then (lst (called (pickG l)) many.toNat, 0) else ([], maE l many)) := by
  unfold turn_called_G.f
  by_cases hs : shE l = 0
  · have g := sh_good.1 hs
    have hn := g.len
    refine Ev.bind (read_good g) (ev_pos rfl ?_)
    by_cases c1 : many < 0
    · have e : maE l many = 2 := by unfold maE; rw [if_pos hs, if_pos (.inl c1)]
      rw [e]; exact ev_pos c1 (Ev.now _)
    refine ev_neg c1 ?_
    by_cases c2 : many > 400
    · have e : maE l many = 2 := by unfold maE; rw [if_pos hs, if_pos (.inr c2)]
      rw [e]; exact ev_pos c2 (Ev.now _)
    have e : maE l many = 0 := ma_ok.2 ⟨g, by omega, by omega⟩
    rw [if_pos e]
    obtain ⟨m, rfl⟩ := Int.eq_ofNat_of_zero_le (show 0 ≤ many by omega)
    refine ev_neg c2 (ev_pos (by omega) (ev_pos (by rw [Int.toNat_natCast]; omega) ?_))
    rw [Int.toNat_natCast, Int.toNat_natCast]
    exact calledG_l0 g (by omega) m 0 _ (by omega) (Cs.zero _)
  · have e : maE l many = shE l := if_neg hs
    rw [e, if_neg hs]
    exact Ev.bind (read_bad hs) (ev_neg hs (Ev.now _))
theorem Greedy_f (l : List Int) (many : Int) : Ev (fun k => turn_Greedy.f k l many) (if maE l many = 0 then (lst (called (pickG l)) many.toNat, 0) else ([], maE l many)) := by
  unfold turn_Greedy.f
  exact Ev.bind (calledG_f l many) (Ev.now _)

end Go.Proofs.YtgobffgogmnmpaaDoor.Pure
