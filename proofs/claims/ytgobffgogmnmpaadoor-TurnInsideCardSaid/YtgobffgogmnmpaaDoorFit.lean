/- The claims of a bound, and that the program's fits tells whether the days that are left can be filled. Conditions: shares of the document, a bound from 0 to 1. -/
import Derived.Test.YtgobffgogmnmpaaDoorPx5
import Derived.Test.YtgobffgogmnmpaaDoorWin
namespace Go.Proofs.YtgobffgogmnmpaaDoor.Pure
open Go.RowKit Go.Proofs.YtgobffgogmnmpaaDoor.P Go.Proofs.YtgobffgogmnmpaaDoorW.PrintWords Go.Proofs.YtgobffgogmnmpaaDoorW.PrintLast Go.Proofs.YtgobffgogmnmpaaDoorW.PrintMore

/-- The claims of windows. -/
def cl (l : List Int) (p q : Int) (ws : List (List S51)) (g : Good l) (b : Bnd p q) (h : WsIs l p q ws) : Claims where
  n := l.length
  T := (tot l).toNat
  s := fun i => (sh l i).toNat
  lo := fun i k => if i < l.length ∧ (k : Int) < sh l i then (wAt ws i k).1 else 0
  hi := fun i k => if i < l.length ∧ (k : Int) < sh l i then (wAt ws i k).2 else -1
  mono := by
    intro i k d h1 h2 h3 h4
    have hT := g.tot_pos
    by_cases c : i < l.length ∧ ((k + 1 : Nat) : Int) < sh l i
    · rw [if_pos c] at h1 h2
      rw [if_pos c, if_pos ⟨c.1, by omega⟩]
      have hs : 0 ≤ sh l i * q := Int.mul_nonneg (by have := g.low i c.1; omega) (by have := b.q1; omega)
      have hA : 0 ≤ tot l * q := Int.mul_nonneg (by omega) (by have := b.q1; omega)
      have a1 := h.win i c.1 k (by omega)
      have a2 := h.win i c.1 (k + 1) c.2
      rw [show (((k + 1) + 1 : Nat) : Int) = ((k + 1 : Nat) : Int) + 1 by omega] at a2
      exact a1.mono hs hA a2 h3 (by omega) ⟨h1, h2⟩
    · rw [if_neg c] at h1 h2; omega
section
variable {l : List Int} {p q : Int} {ws : List (List S51)} {g : Good l} {b : Bnd p q} {h : WsIs l p q ws}
theorem cl_n : (cl l p q ws g b h).n = l.length := rfl
theorem cl_T : ((cl l p q ws g b h).T : Int) = tot l := by have := g.tot_pos; show ((tot l).toNat : Int) = _; omega
theorem cl_s {i : Nat} (hi : i < l.length) : ((cl l p q ws g b h).s i : Int) = sh l i := by have := g.low i hi; show ((sh l i).toNat : Int) = _; omega
theorem cl_lo {i k : Nat} (hi : i < l.length) (hk : (k : Int) < sh l i) : (cl l p q ws g b h).lo i k = (wAt ws i k).1 := if_pos ⟨hi, hk⟩
theorem cl_hi {i k : Nat} (hi : i < l.length) (hk : (k : Int) < sh l i) : (cl l p q ws g b h).hi i k = (wAt ws i k).2 := if_pos ⟨hi, hk⟩
end
/-- The sum of counts. -/
def su (c : Nat → Nat) (n : Nat) : Int := sm (fun i => (c i : Int)) n
theorem su_bump (c : Nat → Nat) {j n : Nat} (hj : j < n) : su (bump c j) n = su c n + 1 := by
  have e : su (bump c j) n = sm (fun i => (c i : Int) + if i = j then 1 else 0) n := sm_eq fun i _ => by
    unfold bump; split <;> omega
  rw [e, sm_add, sm_one, if_pos hj]; rfl
theorem sum_full {c : Nat → Nat} {s : Nat → Int} : ∀ {n : Nat}, (∀ i, i < n → (c i : Int) ≤ s i) → su c n = sm s n → ∀ i, i < n → (c i : Int) = s i := by
  intro n
  induction n with
  | zero => intro _ _ i hi; omega
  | succ n ih =>
    intro h e i hi
    have e' : su c n + (c n : Int) = sm s n + s n := e
    have h1 : su c n ≤ sm s n := sm_le fun j hj => h j (by omega)
    have h2 := h n (by omega)
    by_cases ci : i = n
    · subst ci; omega
    · exact ih (fun j hj => h j (by omega)) (by omega) i (by omega)
/-- A state of the search: counts of which none is above its share, as many as days. -/
structure St (l : List Int) (c : Nat → Nat) (d : Nat) : Prop where
  le : ∀ i, i < l.length → (c i : Int) ≤ sh l i
  sum : su c l.length = (d : Int)
theorem St.zero {l : List Int} (g : Good l) : St l (fun _ => 0) 0 := ⟨fun i hi => by have := g.low i hi; show (0 : Int) ≤ _; omega, by show sm (fun _ => ((0 : Nat) : Int)) _ = _; exact sm_zero _⟩
theorem St.bump {l : List Int} {c : Nat → Nat} {d j : Nat} (s : St l c d) (hj : j < l.length) (hc : (c j : Int) < sh l j) : St l (bump c j) (d + 1) := by
  refine ⟨fun i hi => ?_, by rw [su_bump c hj, s.sum]; omega⟩
  unfold Pure.bump
  have := s.le i hi
  split
  · rename_i e; subst e; omega
  · exact this
theorem St.full {l : List Int} {c : Nat → Nat} {d : Nat} (s : St l c d) (hd : (d : Int) = tot l) : ∀ i, i < l.length → (c i : Int) = sh l i := sum_full s.le (by rw [s.sum, hd]; rfl)

/-- What the search of one day knows. -/
structure Pk (C : Claims) (c : Nat → Nat) (d i : Nat) (o : Option Nat) : Prop where
  none : o = none → ∀ j, j < i → ¬ (c j < C.s j ∧ C.lo j (c j) ≤ (d : Int))
  some : ∀ b, o = some b → b < i ∧ c b < C.s b ∧ C.lo b (c b) ≤ (d : Int) ∧ ∀ j, j < i → c j < C.s j → C.lo j (c j) ≤ (d : Int) → C.hi b (c b) ≤ C.hi j (c j)
  late : ∀ j, j < i → c j < C.s j → (d : Int) ≤ C.hi j (c j)
def enc (o : Option Nat) : Int := match o with | Option.none => -1 | Option.some b => (b : Int)
theorem Pk.zero (C : Claims) (c : Nat → Nat) (d : Nat) : Pk C c d 0 .none := ⟨fun _ j hj => by omega, fun b hb => (by cases hb), fun j hj => by omega⟩
theorem Pk.skip {C : Claims} {c : Nat → Nat} {d i : Nat} {o : Option Nat} (h : Pk C c d i o) (hl : c i < C.s i → (d : Int) ≤ C.hi i (c i)) (hn : ¬ (c i < C.s i ∧ C.lo i (c i) ≤ (d : Int))) : Pk C c d (i + 1) o := by
  refine ⟨fun ho j hj => ?_, fun b hb => ?_, fun j hj => ?_⟩
  · by_cases e : j = i
    · subst e; exact hn
    · exact h.none ho j (by omega)
  · obtain ⟨a1, a2, a3, a4⟩ := h.some b hb
    refine ⟨by omega, a2, a3, fun j hj h1 h2 => ?_⟩
    by_cases e : j = i
    · subst e; exact absurd ⟨h1, h2⟩ hn
    · exact a4 j (by omega) h1 h2
  · by_cases e : j = i
    · subst e; exact hl
    · exact h.late j (by omega)
theorem Pk.take {C : Claims} {c : Nat → Nat} {d i : Nat} {o : Option Nat} (h : Pk C c d i o) (h1 : c i < C.s i) (h2 : C.lo i (c i) ≤ (d : Int)) (hl : (d : Int) ≤ C.hi i (c i)) (hb : ∀ b, o = .some b → C.hi i (c i) ≤ C.hi b (c b)) : Pk C c d (i + 1) (.some i) := by
  refine ⟨fun ho => (by cases ho), fun b hb' => ?_, fun j hj => ?_⟩
  · obtain rfl : i = b := Option.some.inj hb'
    refine ⟨by omega, h1, h2, fun j hj k1 k2 => ?_⟩
    by_cases e : j = i
    · subst e; exact Int.le_refl _
    · cases ho : o with
      | none => exact absurd ⟨k1, k2⟩ (h.none ho j (by omega))
      | some b0 => exact Int.le_trans (hb b0 ho) ((h.some b0 ho).2.2.2 j (by omega) k1 k2)
  · by_cases e : j = i
    · subst e; exact fun _ => hl
    · exact h.late j (by omega)
theorem Pk.keep {C : Claims} {c : Nat → Nat} {d i b0 : Nat} (h : Pk C c d i (.some b0)) (hl : c i < C.s i → (d : Int) ≤ C.hi i (c i)) (hb : C.hi b0 (c b0) ≤ C.hi i (c i)) : Pk C c d (i + 1) (.some b0) := by
  refine ⟨fun ho => (by cases ho), fun b hb' => ?_, fun j hj => ?_⟩
  · obtain rfl : b0 = b := Option.some.inj hb'
    obtain ⟨a1, a2, a3, a4⟩ := h.some b0 rfl
    refine ⟨by omega, a2, a3, fun j hj k1 k2 => ?_⟩
    by_cases e : j = i
    · subst e; exact hb
    · exact a4 j (by omega) k1 k2
  · by_cases e : j = i
    · subst e; exact hl
    · exact h.late j (by omega)

theorem fits_l1 {l : List Int} {p q : Int} {ws : List (List S51)} {g : Good l} {b : Bnd p q} {h : WsIs l p q ws} {c : Nat → Nat} {d : Nat} (hd : (d : Int) < tot l) (st : St l c d) {c0 : List Int} (hc : Cs c0 l.length c)
    (next : ∀ j, j < l.length → (c j : Int) < sh l j → ∃ z, Ev (fun n => turn_table_fits.l0 n ws (c0.set j (wrap64 (c0.getD j 0 + 1))) (wrap64 ((d : Int) + 1)) l (tot l)) z ∧ (z = true ↔ Fill (cl l p q ws g b h) (bump c j) (d + 1))) :
    ∀ (r i : Nat) (o : Option Nat), i + r = l.length → Pk (cl l p q ws g b h) c d i o →
      ∃ z, Ev (fun n => turn_table_fits.l1 n ws c0 d (enc o) c0 c0.length i l (tot l)) z ∧ (z = true ↔ Fill (cl l p q ws g b h) c d) := by
  intro r
  have hn := g.len
  have hcl := hc.len
  have hwl := h.len
  have hT := g.tot_le
  have hdT : d < (cl l p q ws g b h).T := by have := cl_T (g := g) (b := b) (h := h); omega
  induction r with
  | zero =>
    intro i o hi pk
    obtain rfl : i = l.length := by omega
    cases o with
    | none =>
      refine ⟨false, Ev.step (fun n => by rw [turn_table_fits.l1]) (ev_neg (by omega) (ev_pos (by show (-1 : Int) < 0; omega) (Ev.now _))), ⟨fun hx => (Bool.false_ne_true hx).elim, fun hf => ?_⟩⟩
      obtain ⟨j, j1, j2, j3⟩ := hf.some hdT
      exact absurd ⟨j2, j3⟩ (pk.none rfl j j1)
    | some b0 =>
      obtain ⟨b1, b2, b3, b4⟩ := pk.some b0 rfl
      have hs := cl_s (g := g) (b := b) (h := h) b1
      obtain ⟨z, e, hz⟩ := next b0 b1 (by omega)
      have pck : Pick (cl l p q ws g b h) c d b0 := ⟨b1, b2, b3, fun j j1 j2 j3 => b4 j j1 j2 j3⟩
      refine ⟨z, Ev.step (fun n => by rw [turn_table_fits.l1]) (ev_neg (by omega) (ev_neg (by show ¬ (b0 : Int) < 0; omega) (ev_pos (by show 0 ≤ (b0 : Int); omega) (ev_pos (by show (b0 : Int) < _; omega) ?_)))), hz.trans ⟨fun hf => hf.unpick hdT pck (pk.late b0 b1 b2), fun hf => hf.pick pck⟩⟩
      show Ev (fun n => turn_table_fits.l0 n ws (c0.set ((b0 : Int)).toNat (wrap64 (rd c0 (b0 : Int) + 1))) (wrap64 ((d : Int) + 1)) l (tot l)) z
      rw [Int.toNat_natCast, rd_nat]
      exact e
  | succ r ih =>
    intro i o hi pk
    have hil : i < l.length := by omega
    have hs := cl_s (g := g) (b := b) (h := h) hil
    have hrow := h.row i hil
    have hci := st.le i hil
    have hat := hc.at_ i hil
    have go : ∀ z, Ev (fun n => if c0.getD i 0 = l.getD i 0 then (turn_table_fits.l1 n ws c0 d (enc o) c0 c0.length ((i + 1 : Nat) : Int) l (tot l)) else (if (i : Int) < (ws.length : Int) then (if 0 ≤ c0.getD i 0 then (if c0.getD i 0 < ((rd_L2 ws i).length : Int) then (if ((rd_T51 (rd_L2 ws i) (c0.getD i 0)).f1) < (d : Int) then (some false) else (if ((rd_T51 (rd_L2 ws i) (c0.getD i 0)).f0) ≤ (d : Int) then (if enc o < 0 then (turn_table_fits.l1 n ws c0 d i c0 c0.length ((i + 1 : Nat) : Int) l (tot l)) else (if 0 ≤ enc o then (if enc o < (ws.length : Int) then (if enc o < (c0.length : Int) then (if 0 ≤ (rd c0 (enc o)) then (if (rd c0 (enc o)) < ((rd_L2 ws (enc o)).length : Int) then (if ((rd_T51 (rd_L2 ws i) (c0.getD i 0)).f1) < ((rd_T51 (rd_L2 ws (enc o)) (rd c0 (enc o))).f1) then (turn_table_fits.l1 n ws c0 d i c0 c0.length ((i + 1 : Nat) : Int) l (tot l)) else (turn_table_fits.l1 n ws c0 d (enc o) c0 c0.length ((i + 1 : Nat) : Int) l (tot l))) else (none)) else (none)) else (none)) else (none)) else (none))) else (turn_table_fits.l1 n ws c0 d (enc o) c0 c0.length ((i + 1 : Nat) : Int) l (tot l)))) else (none)) else (none)) else (none))) z →
        Ev (fun n => turn_table_fits.l1 n ws c0 d (enc o) c0 c0.length i l (tot l)) z := by
      intro z hz
      refine Ev.step (fun n => by rw [turn_table_fits.l1]) (ev_pos (by omega) (ev_pos (by omega) (ev_pos (by omega) (ev_pos (by omega) ?_))))
      rw [rd_nat, rd_nat, wrap_id (n := (i : Int) + 1) (by omega), show (i : Int) + 1 = ((i + 1 : Nat) : Int) by omega]
      exact hz
    by_cases hfull : c0.getD i 0 = l.getD i 0
    · have hns : ¬ c i < (cl l p q ws g b h).s i := by
        have : sh l i = l.getD i 0 := rfl
        omega
      obtain ⟨z, e, hz⟩ := ih (i + 1) o (by omega) (pk.skip (fun hx => absurd hx hns) (fun hx => hns hx.1))
      exact ⟨z, go z (ev_pos hfull e), hz⟩
    · have hlt : (c i : Int) < sh l i := by
        have : sh l i = l.getD i 0 := rfl
        omega
      have hltN : c i < (cl l p q ws g b h).s i := by omega
      have elo := cl_lo (g := g) (b := b) (h := h) hil hlt
      have ehi := cl_hi (g := g) (b := b) (h := h) hil hlt
      have w1 : (rd_T51 (rd_L2 ws i) (c0.getD i 0)).f0 = (cl l p q ws g b h).lo i (c i) := by rw [elo, hat]; rfl
      have w2 : (rd_T51 (rd_L2 ws i) (c0.getD i 0)).f1 = (cl l p q ws g b h).hi i (c i) := by rw [ehi, hat]; rfl
      by_cases hlate : (cl l p q ws g b h).hi i (c i) < (d : Int)
      · refine ⟨false, go false (ev_neg hfull (ev_pos (by omega) (ev_pos (by omega) (ev_pos (by omega) (ev_pos (by rw [w2]; exact hlate) (Ev.now _)))))), ⟨fun hx => (Bool.false_ne_true hx).elim, fun hf => ?_⟩⟩
        have := hf.late i hil hltN
        omega
      · have base : ∀ z, Ev (fun n => if ((rd_T51 (rd_L2 ws i) (c0.getD i 0)).f0) ≤ (d : Int) then (if enc o < 0 then (turn_table_fits.l1 n ws c0 d i c0 c0.length ((i + 1 : Nat) : Int) l (tot l)) else (if 0 ≤ enc o then (if enc o < (ws.length : Int) then (if enc o < (c0.length : Int) then (if 0 ≤ (rd c0 (enc o)) then (if (rd c0 (enc o)) < ((rd_L2 ws (enc o)).length : Int) then (if ((rd_T51 (rd_L2 ws i) (c0.getD i 0)).f1) < ((rd_T51 (rd_L2 ws (enc o)) (rd c0 (enc o))).f1) then (turn_table_fits.l1 n ws c0 d i c0 c0.length ((i + 1 : Nat) : Int) l (tot l)) else (turn_table_fits.l1 n ws c0 d (enc o) c0 c0.length ((i + 1 : Nat) : Int) l (tot l))) else (none)) else (none)) else (none)) else (none)) else (none))) else (turn_table_fits.l1 n ws c0 d (enc o) c0 c0.length ((i + 1 : Nat) : Int) l (tot l))) z →
            Ev (fun n => turn_table_fits.l1 n ws c0 d (enc o) c0 c0.length i l (tot l)) z := fun z hz =>
          go z (ev_neg hfull (ev_pos (by omega) (ev_pos (by omega) (ev_pos (by omega) (ev_neg (by rw [w2]; exact hlate) hz)))))
        by_cases hlo : (cl l p q ws g b h).lo i (c i) ≤ (d : Int)
        · cases o with
          | none =>
            obtain ⟨z, e, hz⟩ := ih (i + 1) (some i) (by omega) (pk.take hltN hlo (by omega) (fun b hb => by cases hb))
            exact ⟨z, base z (ev_pos (by rw [w1]; exact hlo) (ev_pos (by show (-1 : Int) < 0; omega) e)), hz⟩
          | some b0 =>
            obtain ⟨b1, b2, b3, b4⟩ := pk.some b0 rfl
            have hbl : b0 < l.length := by omega
            have hs0 := cl_s (g := g) (b := b) (h := h) hbl
            have hat0 := hc.at_ b0 hbl
            have hrow0 := h.row b0 hbl
            have ehi0 := cl_hi (g := g) (b := b) (h := h) (k := c b0) hbl (by omega)
            have w3 : (rd_T51 (rd_L2 ws (b0 : Int)) (c0.getD b0 0)).f1 = (cl l p q ws g b h).hi b0 (c b0) := by rw [ehi0, hat0]; rfl
            have inner : ∀ z, Ev (fun n => if ((rd_T51 (rd_L2 ws i) (c0.getD i 0)).f1) < ((rd_T51 (rd_L2 ws (b0 : Int)) (c0.getD b0 0)).f1) then (turn_table_fits.l1 n ws c0 d i c0 c0.length ((i + 1 : Nat) : Int) l (tot l)) else (turn_table_fits.l1 n ws c0 d (enc (some b0)) c0 c0.length ((i + 1 : Nat) : Int) l (tot l))) z →
                Ev (fun n => turn_table_fits.l1 n ws c0 d (enc (some b0)) c0 c0.length i l (tot l)) z := by
              intro z hz
              have hrd : rd c0 (enc (some b0)) = c0.getD b0 0 := rd_nat c0 b0
              refine base z (ev_pos (by rw [w1]; exact hlo) (ev_neg (by show ¬ (b0 : Int) < 0; omega) (ev_pos (by show 0 ≤ (b0 : Int); omega) (ev_pos (by show (b0 : Int) < _; omega) (ev_pos (by show (b0 : Int) < _; omega) ?_)))))
              rw [hrd]
              refine ev_pos (by omega) (ev_pos (by show c0.getD b0 0 < ((rd_L2 ws (b0 : Int)).length : Int); omega) ?_)
              exact hz
            by_cases hlt2 : (cl l p q ws g b h).hi i (c i) < (cl l p q ws g b h).hi b0 (c b0)
            · obtain ⟨z, e, hz⟩ := ih (i + 1) (some i) (by omega) (pk.take hltN hlo (by omega) (fun b hb => by obtain rfl : b0 = b := Option.some.inj hb; omega))
              exact ⟨z, inner z (ev_pos (by rw [w2, w3]; exact hlt2) e), hz⟩
            · obtain ⟨z, e, hz⟩ := ih (i + 1) (some b0) (by omega) (pk.keep (fun _ => by omega) (by omega))
              exact ⟨z, inner z (ev_neg (by rw [w2, w3]; exact hlt2) e), hz⟩
        · obtain ⟨z, e, hz⟩ := ih (i + 1) o (by omega) (pk.skip (fun _ => by omega) (fun hx => hlo hx.2))
          exact ⟨z, base z (ev_neg (by rw [w1]; exact hlo) e), hz⟩
theorem fits_l0 {l : List Int} {p q : Int} {ws : List (List S51)} (g : Good l) (b : Bnd p q) (h : WsIs l p q ws) : ∀ (r d : Nat) (c : Nat → Nat) (c0 : List Int), (d : Int) + r = tot l → St l c d → Cs c0 l.length c →
    ∃ z, Ev (fun n => turn_table_fits.l0 n ws c0 d l (tot l)) z ∧ (z = true ↔ Fill (cl l p q ws g b h) c d) := by
  intro r
  have hT := g.tot_le
  induction r with
  | zero =>
    intro d c c0 hd st hc
    refine ⟨true, Ev.step (fun n => by rw [turn_table_fits.l0]) (ev_neg (by omega) (Ev.now _)), ⟨fun _ => Fill.end (by have := cl_T (g := g) (b := b) (h := h); omega) fun i hi => ?_, fun _ => rfl⟩⟩
    have := st.full (by omega) i hi
    have := cl_s (g := g) (b := b) (h := h) hi
    omega
  | succ r ih =>
    intro d c c0 hd st hc
    have hcl := hc.len
    obtain ⟨z, e, hz⟩ := fits_l1 (g := g) (b := b) (h := h) (by omega) st hc (fun j hj hcj => by
      have hj2 := g.high j hj
      have hat := hc.at_ j hj
      rw [wrap_id (n := c0.getD j 0 + 1) (by omega), wrap_id (n := (d : Int) + 1) (by omega)]
      exact ih (d + 1) (bump c j) _ (by omega) (st.bump hj hcj) (hc.bump hj rfl)) l.length 0 none (by omega) (Pk.zero _ _ _)
    refine ⟨z, Ev.step (fun n => by rw [turn_table_fits.l0]) (ev_pos (by omega) ?_), hz⟩
    exact e
theorem fits_f {l : List Int} {p q : Int} {ws : List (List S51)} (g : Good l) (b : Bnd p q) (h : WsIs l p q ws) {d : Nat} {c : Nat → Nat} {c0 : List Int} (hd : (d : Int) ≤ tot l) (st : St l c d) (hc : Cs c0 l.length c) :
    ∃ z, Ev (fun n => turn_table_fits.f n l (tot l) ws c0 d) z ∧ (z = true ↔ Fill (cl l p q ws g b h) c d) := by
  obtain ⟨z, e, hz⟩ := fits_l0 g b h (tot l - d).toNat d c c0 (by omega) st hc
  have hcl := hc.len
  have hn := g.len
  refine ⟨z, ?_, hz⟩
  unfold turn_table_fits.f
  exact Ev.bind (clone_f c0 (by omega)) e
end Go.Proofs.YtgobffgogmnmpaaDoor.Pure
