/- The round that the program's Round makes. Conditions: shares of the document. -/
import Derived.Test.YtgobffgogmnmpaaDoorPx7
import Derived.Test.YtgobffgogmnmpaaDoorLea
namespace Go.Proofs.YtgobffgogmnmpaaDoor.Pure
open Go.RowKit Go.Proofs.YtgobffgogmnmpaaDoor.P Go.Proofs.YtgobffgogmnmpaaDoorW.PrintWords Go.Proofs.YtgobffgogmnmpaaDoorW.PrintLast Go.Proofs.YtgobffgogmnmpaaDoorW.PrintMore

/-- A list of days, as whole numbers. -/
def il (σ : List Nat) : List Int := σ.map fun x : Nat => (x : Int)
theorem il_len (σ : List Nat) : (il σ).length = σ.length := by unfold il; simp
/-- A day may go to a driver, and the rest can be filled. -/
def May (C : Claims) (c : Nat → Nat) (d j : Nat) : Prop := c j < C.s j ∧ C.lo j (c j) ≤ (d : Int) ∧ (d : Int) ≤ C.hi j (c j) ∧ Fill C (bump c j) (d + 1)
theorem may_some {C : Claims} {c : Nat → Nat} {d : Nat} (hd : d < C.T) (hf : Fill C c d) : ∃ j, j < C.n ∧ May C c d j := by
  obtain ⟨σ, h⟩ := hf
  cases σ with
  | nil => have := h.1; omega
  | cons x σ => exact ⟨x, h.2.1, h.2.2.1, h.2.2.2.1, h.2.2.2.2.1, σ, h.2.2.2.2.2⟩
section
variable {l : List Int} {p q : Int} {ws : List (List S51)} {g : Good l} {b : Bnd p q} {h : WsIs l p q ws}
theorem round_l1 {c : Nat → Nat} {d : Nat} (hd : (d : Int) < tot l) (st : St l c d) (hf : Fill (cl l p q ws g b h) c d) {out : List Int} (ho : out.length ≤ 200)
    (next : ∀ j, j < l.length → (c j : Int) < sh l j → Fill (cl l p q ws g b h) (bump c j) (d + 1) → ∀ c1, Cs c1 l.length (bump c j) → ∃ σ, First (cl l p q ws g b h) (bump c j) (d + 1) σ ∧ Ev (fun n => turn_Round.l0 n l ws c1 (out ++ [(j : Int)]) (tot l) ((d + 1 : Nat) : Int) l (tot l)) (out ++ [(j : Int)] ++ il σ, 0)) :
    ∀ (r i : Nat) (c0 : List Int), i + r = l.length → Cs c0 l.length c → (∀ j, j < i → ¬ May (cl l p q ws g b h) c d j) →
      ∃ σ, First (cl l p q ws g b h) c d σ ∧ Ev (fun n => turn_Round.l1 n l ws c0 out d (tot l) d c0.length i l (tot l)) (out ++ il σ, 0) := by
  intro r
  have hn := g.len
  have hT := g.tot_le
  have hwl := h.len
  have hdT : d < (cl l p q ws g b h).T := by have := cl_T (g := g) (b := b) (h := h); omega
  induction r with
  | zero =>
    intro i c0 hi hc hno
    obtain ⟨j, hj, hm⟩ := may_some hdT hf
    have hj' : j < l.length := hj
    exact absurd hm (hno j (by omega))
  | succ r ih =>
    intro i c0 hi hc hno
    have hil : i < l.length := by omega
    have hcl := hc.len
    have hs := cl_s (g := g) (b := b) (h := h) hil
    have hrow := h.row i hil
    have hci := st.le i hil
    have hat := hc.at_ i hil
    have hsl : sh l i = l.getD i 0 := rfl
    have hsh := g.high i hil
    have skip : ¬ May (cl l p q ws g b h) c d i → ∃ σ, First (cl l p q ws g b h) c d σ ∧ Ev (fun n => turn_Round.j2 n l ws c0 out d i (tot l) d c0.length i true l (tot l)) (out ++ il σ, 0) := fun hx => by
      obtain ⟨σ, f, e⟩ := ih (i + 1) c0 (by omega) hc (fun j hj => by
        by_cases c1 : j = i
        · rw [c1]; exact hx
        · exact hno j (by omega))
      refine ⟨σ, f, Ev.step (fun n => by rw [turn_Round.j2]) (ev_pos rfl ?_)⟩
      rw [wrap_id (n := (i : Int) + 1) (by omega)]
      exact e
    have go : ∀ σ, Ev (fun n => if c0.getD i 0 = l.getD i 0 then (turn_Round.j2 n l ws c0 out d i (tot l) d c0.length i true l (tot l)) else (if (i : Int) < (ws.length : Int) then (if 0 ≤ c0.getD i 0 then (if c0.getD i 0 < ((rd_L2 ws i).length : Int) then (if ((rd_T51 (rd_L2 ws i) (c0.getD i 0)).f0) > (d : Int) then (turn_Round.j2 n l ws c0 out d i (tot l) d c0.length i true l (tot l)) else (turn_Round.j2 n l ws c0 out d i (tot l) d c0.length i (decide (((rd_T51 (rd_L2 ws i) (c0.getD i 0)).f1) < (d : Int))) l (tot l))) else (none)) else (none)) else (none))) (out ++ il σ, 0) →
        Ev (fun n => turn_Round.l1 n l ws c0 out d (tot l) d c0.length i l (tot l)) (out ++ il σ, 0) := by
      intro σ hz
      refine Ev.step (fun n => by rw [turn_Round.l1]) (ev_pos (by omega) (ev_pos (by omega) (ev_pos (by omega) (ev_pos (by omega) ?_))))
      rw [rd_nat, rd_nat]
      exact hz
    by_cases hfull : c0.getD i 0 = l.getD i 0
    · obtain ⟨σ, f, e⟩ := skip (fun hm => by have := hm.1; omega)
      exact ⟨σ, f, go σ (ev_pos hfull e)⟩
    have hlt : (c i : Int) < sh l i := by omega
    have elo := cl_lo (g := g) (b := b) (h := h) hil hlt
    have ehi := cl_hi (g := g) (b := b) (h := h) hil hlt
    have w1 : (rd_T51 (rd_L2 ws i) (c0.getD i 0)).f0 = (cl l p q ws g b h).lo i (c i) := by rw [elo, hat]; rfl
    have w2 : (rd_T51 (rd_L2 ws i) (c0.getD i 0)).f1 = (cl l p q ws g b h).hi i (c i) := by rw [ehi, hat]; rfl
    by_cases hlo : (cl l p q ws g b h).lo i (c i) > (d : Int)
    · obtain ⟨σ, f, e⟩ := skip (fun hm => by have := hm.2.1; omega)
      exact ⟨σ, f, go σ (ev_neg hfull (ev_pos (by omega) (ev_pos (by omega) (ev_pos (by omega) (ev_pos (by rw [w1]; exact hlo) e)))))⟩
    have base : ∀ σ, Ev (fun n => turn_Round.j2 n l ws c0 out d i (tot l) d c0.length i (decide ((cl l p q ws g b h).hi i (c i) < (d : Int))) l (tot l)) (out ++ il σ, 0) → Ev (fun n => turn_Round.l1 n l ws c0 out d (tot l) d c0.length i l (tot l)) (out ++ il σ, 0) := fun σ hz =>
      go σ (ev_neg hfull (ev_pos (by omega) (ev_pos (by omega) (ev_pos (by omega) (ev_neg (by rw [w1]; exact hlo) (by rw [w2]; exact hz))))))
    by_cases hhi : (cl l p q ws g b h).hi i (c i) < (d : Int)
    · obtain ⟨σ, f, e⟩ := skip (fun hm => by have := hm.2.2.1; omega)
      exact ⟨σ, f, base σ (by rw [decide_eq_true hhi]; exact e)⟩
    have hcb := hc.bump hil (v := c0.getD i 0 + 1) rfl
    obtain ⟨z, ez, hz⟩ := fits_f g b h (d := d + 1) (by omega) (st.bump hil hlt) hcb
    have step : ∀ σ, Ev (fun n => if z = true then (if out.length < 17592186044416 then (turn_Round.l0 n l ws (c0.set i (c0.getD i 0 + 1)) (out ++ [(i : Int)]) (tot l) ((d + 1 : Nat) : Int) l (tot l)) else (none)) else (turn_Round.l1 n l ws ((c0.set i (c0.getD i 0 + 1)).set i (c0.getD i 0)) out d (tot l) d c0.length ((i + 1 : Nat) : Int) l (tot l))) (out ++ il σ, 0) →
        Ev (fun n => turn_Round.l1 n l ws c0 out d (tot l) d c0.length i l (tot l)) (out ++ il σ, 0) := by
      intro σ hz'
      refine base σ ?_
      rw [decide_eq_false hhi]
      refine Ev.step (fun n => by rw [turn_Round.j2]) (ev_neg Bool.false_ne_true (ev_pos (by omega) (ev_pos (by omega) ?_)))
      rw [Int.toNat_natCast, rd_nat, wrap_id (n := c0.getD i 0 + 1) (by omega), wrap_id (n := (d : Int) + 1) (by omega), show (d : Int) + 1 = ((d + 1 : Nat) : Int) by omega]
      refine Ev.bind (Ev.now _) (Ev.bind ez ?_)
      rw [rd_nat, getD_set (by omega), if_pos rfl, show c0.getD i 0 + 1 - 1 = c0.getD i 0 by omega, wrap_id (n := c0.getD i 0) (by omega), wrap_id (n := (i : Int) + 1) (by omega), show (i : Int) + 1 = ((i + 1 : Nat) : Int) by omega]
      exact hz'
    cases z with
    | true =>
      have hF := hz.1 rfl
      obtain ⟨σ, f, e⟩ := next i hil hlt hF _ hcb
      refine ⟨i :: σ, ⟨hdT, hil, by omega, by omega, by omega, hF, fun y hy => hno y hy, f⟩, step (i :: σ) (ev_pos rfl (ev_pos (by omega) ?_))⟩
      rw [show out ++ il (i :: σ) = out ++ [(i : Int)] ++ il σ by unfold il; simp]
      exact e
    | false =>
      have hnm : ¬ May (cl l p q ws g b h) c d i := fun hm => Bool.false_ne_true (hz.2 hm.2.2.2)
      have hc2 : Cs ((c0.set i (c0.getD i 0 + 1)).set i (c0.getD i 0)) l.length c := by
        refine ⟨by rw [List.length_set, List.length_set]; exact hcl, fun j hj => ?_⟩
        rw [getD_set (by rw [List.length_set]; omega)]
        by_cases c1 : j = i
        · rw [if_pos c1, c1]; exact hat
        · rw [if_neg c1, getD_set (by omega), if_neg c1]; exact hc.at_ j hj
      obtain ⟨σ, f, e⟩ := ih (i + 1) _ (by omega) hc2 (fun j hj => by
        by_cases c1 : j = i
        · rw [c1]; exact hnm
        · exact hno j (by omega))
      refine ⟨σ, f, step σ (ev_neg Bool.false_ne_true ?_)⟩
      rw [List.length_set, List.length_set] at e
      exact e
theorem round_l0 : ∀ (r d : Nat) (c : Nat → Nat) (c0 : List Int) (out : List Int), (d : Int) + r = tot l → (out.length : Int) = d → St l c d → Cs c0 l.length c → Fill (cl l p q ws g b h) c d →
    ∃ σ, First (cl l p q ws g b h) c d σ ∧ Ev (fun n => turn_Round.l0 n l ws c0 out (tot l) d l (tot l)) (out ++ il σ, 0) := by
  intro r
  have hT := g.tot_le
  induction r with
  | zero =>
    intro d c c0 out hd ho st hc hf
    refine ⟨[], by show d = (cl l p q ws g b h).T; have := cl_T (g := g) (b := b) (h := h); omega, ?_⟩
    rw [show out ++ il [] = out by unfold il; simp]
    exact Ev.step (fun n => by rw [turn_Round.l0]) (ev_neg (by omega) (Ev.now _))
  | succ r ih =>
    intro d c c0 out hd ho st hc hf
    obtain ⟨σ, f, e⟩ := round_l1 (g := g) (b := b) (h := h) (by omega) st hf (out := out) (by omega) (fun j hj hcj hF c1 hc1 => by
      exact ih (d + 1) (bump c j) c1 (out ++ [(j : Int)]) (by omega) (by rw [List.length_append]; simp; omega) (st.bump hj hcj) hc1 hF) l.length 0 c0 (by omega) hc (fun j hj => by omega)
    refine ⟨σ, f, Ev.step (fun n => by rw [turn_Round.l0]) (ev_pos (by omega) ?_)⟩
    exact e
end
/-- The first round with the least deviation. -/
structure IsRou (l : List Int) (m : Int) (σ : List Nat) : Prop where
  len : (σ.length : Int) = tot l
  round : IsRound l (el σ)
  keeps : Keeps l (el σ) m
  first : ∀ τ : List Nat, (τ.length : Int) = tot l → IsRound l (el τ) → Keeps l (el τ) m → σ = τ ∨ ∃ k, k < σ.length ∧ (∀ i, i < k → σ.getD i 0 = τ.getD i 0) ∧ σ.getD k 0 < τ.getD k 0
theorem first_rou {l : List Int} (g : Good l) {m : Int} {ws : List (List S51)} (bn : Bnd (red m (tot l)).1 (red m (tot l)).2) (h : WsIs l (red m (tot l)).1 (red m (tot l)).2 ws) {σ : List Nat}
    (hf : Fill (cl l _ _ ws g bn h) (fun _ => 0) 0) (f : First (cl l _ _ ws g bn h) (fun _ => 0) 0 σ) : IsRou l m σ := by
  have hT := g.tot_pos
  have hp := g.pos
  have hk := fun e => keeps_iff (l := l) (e := e) (m := m) (red_pos (a := m) (show 0 < tot l by omega)) (red_cross (by omega))
  obtain ⟨h1, h2, h3⟩ := comp_round (First.comp σ _ 0 hf f)
  exact ⟨h1, h2, (hk _).1 h3, fun τ t1 t2 t3 => First.least σ τ _ 0 f (round_comp t1 t2 ((hk _).2 t3))⟩
theorem IsRou.uniq {l : List Int} {m : Int} {σ τ : List Nat} (a : IsRou l m σ) (b : IsRou l m τ) : σ = τ := by
  rcases a.first τ b.len b.round b.keeps with h | ⟨k, k1, k2, k3⟩
  · exact h
  · rcases b.first σ a.len a.round a.keeps with h | ⟨j, j1, j2, j3⟩
    · exact h.symm
    · exfalso
      by_cases c : k < j
      · have := j2 k c; omega
      · by_cases c' : j < k
        · have := k2 j c'; omega
        · obtain rfl : j = k := by omega
          omega
theorem tround_f {l : List Int} (g : Good l) {m : Int} (hm : IsLe l m) : ∃ σ, Ev (fun n => turn_Round.f n l) (il σ, 0) ∧ IsRou l m σ := by
  have hn := g.len
  have hT := g.tot_pos
  have hp := g.pos
  have bn := red_bnd g (hm.nonneg g) (by have := hm.lt g; omega)
  obtain ⟨ws, e, h⟩ := windows_f g bn
  have hf : Fill (cl l _ _ ws g bn h) (fun _ => 0) 0 := (fill_feas g bn h).2 ((feas_red g m).2 hm.fe)
  obtain ⟨σ, f, e2⟩ := round_l0 (g := g) (b := bn) (h := h) (tot l).toNat 0 (fun _ => 0) (List.replicate l.length 0) [] (by omega) rfl (St.zero g) (Cs.zero _) hf
  refine ⟨σ, ?_, first_rou g bn h hf f⟩
  unfold turn_Round.f
  refine Ev.bind (read_good g) (ev_pos rfl (Ev.bind (tleast_is g hm) (Ev.bind e (ev_pos (by omega) (ev_pos (by rw [Int.toNat_natCast]; omega) ?_)))))
  rw [Int.toNat_natCast]
  exact e2
theorem tround_bad {l : List Int} (hs : shE l ≠ 0) : Ev (fun n => turn_Round.f n l) ([], shE l) := by
  unfold turn_Round.f
  exact Ev.bind (read_bad hs) (ev_neg hs (Ev.now _))
end Go.Proofs.YtgobffgogmnmpaaDoor.Pure
