/- The document's search tells whether the days that are left can be filled, and its least bound is the least one. Conditions: shares of the document. -/
import Derived.Test.YtgobffgogmnmpaaDoorPx12
import Derived.Test.YtgobffgogmnmpaaDoorFit
namespace Go.Proofs.YtgobffgogmnmpaaDoor.Pure
open Go.RowKit Go.Proofs.YtgobffgogmnmpaaDoor.P Go.Proofs.YtgobffgogmnmpaaDoorW.PrintWords Go.Proofs.YtgobffgogmnmpaaDoorW.PrintLast Go.Proofs.YtgobffgogmnmpaaDoorW.PrintMore
theorem goes_l1 {l : List Int} {p q : Int} {ws : List (List S51)} {g : Good l} {b : Bnd p q} {h : WsIs l p q ws} {c : Nat → Nat} {d : Nat} (hd : (d : Int) < tot l) (st : St l c d) {c0 : List Int} (hc : Cs c0 l.length c)
    (next : ∀ j, j < l.length → (c j : Int) < sh l j → ∃ z, Ev (fun n => trishawref01_goes.l0 n ws (tot l) (c0.set j (wrap64 (c0.getD j 0 + 1))) (wrap64 ((d : Int) + 1))) z ∧ (z = true ↔ Fill (cl l p q ws g b h) (bump c j) (d + 1))) :
    ∀ (r i : Nat) (o : Option Nat), i + r = l.length → Pk (cl l p q ws g b h) c d i o →
      ∃ z, Ev (fun n => trishawref01_goes.l1 n ws (tot l) c0 d (enc o) i) z ∧ (z = true ↔ Fill (cl l p q ws g b h) c d) := by
  intro r
  have hn := g.len
  have hcl := hc.len
  have hwl := h.len
  have hT := g.tot_le
  have hdT : d < (cl l p q ws g b h).T := by have := cl_T (g := g) (b := b) (h := h); omega
  induction r with
  | zero =>
    intro i o hi pk
    obtain rfl : i = l.length := by omega
    cases o with
    | none =>
      refine ⟨false, Ev.step (fun n => by rw [trishawref01_goes.l1]) (ev_neg (by omega) (ev_pos (by show (-1 : Int) < 0; omega) (Ev.now _))), ⟨fun hx => (Bool.false_ne_true hx).elim, fun hf => ?_⟩⟩
      obtain ⟨j, j1, j2, j3⟩ := hf.some hdT
      exact absurd ⟨j2, j3⟩ (pk.none rfl j j1)
    | some b0 =>
      obtain ⟨b1, b2, b3, b4⟩ := pk.some b0 rfl
      have hs := cl_s (g := g) (b := b) (h := h) b1
      obtain ⟨z, e, hz⟩ := next b0 b1 (by omega)
      have pck : Pick (cl l p q ws g b h) c d b0 := ⟨b1, b2, b3, fun j j1 j2 j3 => b4 j j1 j2 j3⟩
      refine ⟨z, Ev.step (fun n => by rw [trishawref01_goes.l1]) (ev_neg (by omega) (ev_neg (by show ¬ (b0 : Int) < 0; omega) (ev_pos (by show 0 ≤ (b0 : Int); omega) (ev_pos (by show (b0 : Int) < _; omega) ?_)))), hz.trans ⟨fun hf => hf.unpick hdT pck (pk.late b0 b1 b2), fun hf => hf.pick pck⟩⟩
      show Ev (fun n => trishawref01_goes.l0 n ws (tot l) (c0.set ((b0 : Int)).toNat (wrap64 (rd c0 (b0 : Int) + 1))) (wrap64 ((d : Int) + 1))) z
      rw [Int.toNat_natCast, rd_nat]
      exact e
  | succ r ih =>
    intro i o hi pk
    have hil : i < l.length := by omega
    have hs := cl_s (g := g) (b := b) (h := h) hil
    have hrow := h.row i hil
    have hci := st.le i hil
    have hat := hc.at_ i hil
    have go : ∀ z, Ev (fun n => if c0.getD i 0 = ((rd_L2 ws i).length : Int) then (trishawref01_goes.l1 n ws (tot l) c0 d (enc o) ((i + 1 : Nat) : Int)) else (if 0 ≤ c0.getD i 0 then (if c0.getD i 0 < ((rd_L2 ws i).length : Int) then (if ((rd_T51 (rd_L2 ws i) (c0.getD i 0)).f1) < (d : Int) then (some false) else (if ((rd_T51 (rd_L2 ws i) (c0.getD i 0)).f0) ≤ (d : Int) then (if enc o < 0 then (trishawref01_goes.l1 n ws (tot l) c0 d i ((i + 1 : Nat) : Int)) else (if 0 ≤ enc o then (if enc o < (ws.length : Int) then (if enc o < (c0.length : Int) then (if 0 ≤ (rd c0 (enc o)) then (if (rd c0 (enc o)) < ((rd_L2 ws (enc o)).length : Int) then (if ((rd_T51 (rd_L2 ws i) (c0.getD i 0)).f1) < ((rd_T51 (rd_L2 ws (enc o)) (rd c0 (enc o))).f1) then (trishawref01_goes.l1 n ws (tot l) c0 d i ((i + 1 : Nat) : Int)) else (trishawref01_goes.l1 n ws (tot l) c0 d (enc o) ((i + 1 : Nat) : Int))) else (none)) else (none)) else (none)) else (none)) else (none))) else (trishawref01_goes.l1 n ws (tot l) c0 d (enc o) ((i + 1 : Nat) : Int)))) else (none)) else (none))) z →
        Ev (fun n => trishawref01_goes.l1 n ws (tot l) c0 d (enc o) i) z := by
      intro z hz
      refine Ev.step (fun n => by rw [trishawref01_goes.l1]) (ev_pos (by omega) (ev_pos (by omega) (ev_pos (by omega) ?_)))
      rw [rd_nat, wrap_id (n := (i : Int) + 1) (by omega), show (i : Int) + 1 = ((i + 1 : Nat) : Int) by omega]
      exact hz
    by_cases hfull : c0.getD i 0 = ((rd_L2 ws i).length : Int)
    · have hns : ¬ c i < (cl l p q ws g b h).s i := by
        omega
      obtain ⟨z, e, hz⟩ := ih (i + 1) o (by omega) (pk.skip (fun hx => absurd hx hns) (fun hx => hns hx.1))
      exact ⟨z, go z (ev_pos hfull e), hz⟩
    · have hlt : (c i : Int) < sh l i := by
        omega
      have hltN : c i < (cl l p q ws g b h).s i := by omega
      have elo := cl_lo (g := g) (b := b) (h := h) hil hlt
      have ehi := cl_hi (g := g) (b := b) (h := h) hil hlt
      have w1 : (rd_T51 (rd_L2 ws i) (c0.getD i 0)).f0 = (cl l p q ws g b h).lo i (c i) := by rw [elo, hat]; rfl
      have w2 : (rd_T51 (rd_L2 ws i) (c0.getD i 0)).f1 = (cl l p q ws g b h).hi i (c i) := by rw [ehi, hat]; rfl
      by_cases hlate : (cl l p q ws g b h).hi i (c i) < (d : Int)
      · refine ⟨false, go false (ev_neg hfull (ev_pos (by omega) (ev_pos (by omega) (ev_pos (by rw [w2]; exact hlate) (Ev.now _))))), ⟨fun hx => (Bool.false_ne_true hx).elim, fun hf => ?_⟩⟩
        have := hf.late i hil hltN
        omega
      · have base : ∀ z, Ev (fun n => if ((rd_T51 (rd_L2 ws i) (c0.getD i 0)).f0) ≤ (d : Int) then (if enc o < 0 then (trishawref01_goes.l1 n ws (tot l) c0 d i ((i + 1 : Nat) : Int)) else (if 0 ≤ enc o then (if enc o < (ws.length : Int) then (if enc o < (c0.length : Int) then (if 0 ≤ (rd c0 (enc o)) then (if (rd c0 (enc o)) < ((rd_L2 ws (enc o)).length : Int) then (if ((rd_T51 (rd_L2 ws i) (c0.getD i 0)).f1) < ((rd_T51 (rd_L2 ws (enc o)) (rd c0 (enc o))).f1) then (trishawref01_goes.l1 n ws (tot l) c0 d i ((i + 1 : Nat) : Int)) else (trishawref01_goes.l1 n ws (tot l) c0 d (enc o) ((i + 1 : Nat) : Int))) else (none)) else (none)) else (none)) else (none)) else (none))) else (trishawref01_goes.l1 n ws (tot l) c0 d (enc o) ((i + 1 : Nat) : Int))) z →
            Ev (fun n => trishawref01_goes.l1 n ws (tot l) c0 d (enc o) i) z := fun z hz =>
          go z (ev_neg hfull (ev_pos (by omega) (ev_pos (by omega) (ev_neg (by rw [w2]; exact hlate) hz))))
        by_cases hlo : (cl l p q ws g b h).lo i (c i) ≤ (d : Int)
        · cases o with
          | none =>
            obtain ⟨z, e, hz⟩ := ih (i + 1) (some i) (by omega) (pk.take hltN hlo (by omega) (fun b hb => by cases hb))
            exact ⟨z, base z (ev_pos (by rw [w1]; exact hlo) (ev_pos (by show (-1 : Int) < 0; omega) e)), hz⟩
          | some b0 =>
            obtain ⟨b1, b2, b3, b4⟩ := pk.some b0 rfl
            have hbl : b0 < l.length := by omega
            have hs0 := cl_s (g := g) (b := b) (h := h) hbl
            have hat0 := hc.at_ b0 hbl
            have hrow0 := h.row b0 hbl
            have ehi0 := cl_hi (g := g) (b := b) (h := h) (k := c b0) hbl (by omega)
            have w3 : (rd_T51 (rd_L2 ws (b0 : Int)) (c0.getD b0 0)).f1 = (cl l p q ws g b h).hi b0 (c b0) := by rw [ehi0, hat0]; rfl
            have inner : ∀ z, Ev (fun n => if ((rd_T51 (rd_L2 ws i) (c0.getD i 0)).f1) < ((rd_T51 (rd_L2 ws (b0 : Int)) (c0.getD b0 0)).f1) then (trishawref01_goes.l1 n ws (tot l) c0 d i ((i + 1 : Nat) : Int)) else (trishawref01_goes.l1 n ws (tot l) c0 d (enc (some b0)) ((i + 1 : Nat) : Int))) z →
                Ev (fun n => trishawref01_goes.l1 n ws (tot l) c0 d (enc (some b0)) i) z := by
              intro z hz
              have hrd : rd c0 (enc (some b0)) = c0.getD b0 0 := rd_nat c0 b0
              refine base z (ev_pos (by rw [w1]; exact hlo) (ev_neg (by show ¬ (b0 : Int) < 0; omega) (ev_pos (by show 0 ≤ (b0 : Int); omega) (ev_pos (by show (b0 : Int) < _; omega) (ev_pos (by show (b0 : Int) < _; omega) ?_)))))
              rw [hrd]
              refine ev_pos (by omega) (ev_pos (by show c0.getD b0 0 < ((rd_L2 ws (b0 : Int)).length : Int); omega) ?_)
              exact hz
            by_cases hlt2 : (cl l p q ws g b h).hi i (c i) < (cl l p q ws g b h).hi b0 (c b0)
            · obtain ⟨z, e, hz⟩ := ih (i + 1) (some i) (by omega) (pk.take hltN hlo (by omega) (fun b hb => by obtain rfl : b0 = b := Option.some.inj hb; omega))
              exact ⟨z, inner z (ev_pos (by rw [w2, w3]; exact hlt2) e), hz⟩
            · obtain ⟨z, e, hz⟩ := ih (i + 1) (some b0) (by omega) (pk.keep (fun _ => by omega) (by omega))
              exact ⟨z, inner z (ev_neg (by rw [w2, w3]; exact hlt2) e), hz⟩
        · obtain ⟨z, e, hz⟩ := ih (i + 1) o (by omega) (pk.skip (fun _ => by omega) (fun hx => hlo hx.2))
          exact ⟨z, base z (ev_neg (by rw [w1]; exact hlo) e), hz⟩
theorem goes_l0 {l : List Int} {p q : Int} {ws : List (List S51)} (g : Good l) (b : Bnd p q) (h : WsIs l p q ws) : ∀ (r d : Nat) (c : Nat → Nat) (c0 : List Int), (d : Int) + r = tot l → St l c d → Cs c0 l.length c →
    ∃ z, Ev (fun n => trishawref01_goes.l0 n ws (tot l) c0 d) z ∧ (z = true ↔ Fill (cl l p q ws g b h) c d) := by
  intro r
  have hT := g.tot_le
  induction r with
  | zero =>
    intro d c c0 hd st hc
    refine ⟨true, Ev.step (fun n => by rw [trishawref01_goes.l0]) (ev_neg (by omega) (Ev.now _)), ⟨fun _ => Fill.end (by have := cl_T (g := g) (b := b) (h := h); omega) fun i hi => ?_, fun _ => rfl⟩⟩
    have := st.full (by omega) i hi
    have := cl_s (g := g) (b := b) (h := h) hi
    omega
  | succ r ih =>
    intro d c c0 hd st hc
    have hcl := hc.len
    obtain ⟨z, e, hz⟩ := goes_l1 (g := g) (b := b) (h := h) (by omega) st hc (fun j hj hcj => by
      have hj2 := g.high j hj
      have hat := hc.at_ j hj
      rw [wrap_id (n := c0.getD j 0 + 1) (by omega), wrap_id (n := (d : Int) + 1) (by omega)]
      exact ih (d + 1) (bump c j) _ (by omega) (st.bump hj hcj) (hc.bump hj rfl)) l.length 0 none (by omega) (Pk.zero _ _ _)
    refine ⟨z, Ev.step (fun n => by rw [trishawref01_goes.l0]) (ev_pos (by omega) ?_), hz⟩
    exact e
theorem goes_f {l : List Int} {p q : Int} {ws : List (List S51)} (g : Good l) (b : Bnd p q) (h : WsIs l p q ws) {d : Nat} {c : Nat → Nat} {c0 : List Int} (hd : (d : Int) ≤ tot l) (st : St l c d) (hc : Cs c0 l.length c) :
    ∃ z, Ev (fun n => trishawref01_goes.f n ws c0 d (tot l)) z ∧ (z = true ↔ Fill (cl l p q ws g b h) c d) := by
  obtain ⟨z, e, hz⟩ := goes_l0 g b h (tot l - d).toNat d c c0 (by omega) st hc
  have hcl := hc.len
  have hn := g.len
  refine ⟨z, ?_, hz⟩
  unfold trishawref01_goes.f
  refine Ev.bind (Ev.now _) (ev_pos (by simp only [List.length_nil]; omega) ?_)
  rw [List.nil_append]
  exact e
end Go.Proofs.YtgobffgogmnmpaaDoor.Pure
