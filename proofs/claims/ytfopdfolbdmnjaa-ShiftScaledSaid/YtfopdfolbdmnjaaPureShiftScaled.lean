/- The statement ShiftScaled, of what the walked functions compute: Share grows with the needs, and Least at most as much. Conditions: none but the bounds of the law. -/
import Derived.Test.YtfopdfolbdmnjaaPx16
import Derived.Test.YtfopdfolbdmnjaaShare
import Derived.Test.YtfopdfolbdmnjaaDual
namespace Go.Proofs.Ytfopdfolbdmnjaa.Pure
open Go.RowKit Go.Proofs.Ytfopdfolbdmnjaa.P Go.Proofs.YtfopdfolbdmnjaaW.PrintWords Go.Proofs.YtfopdfolbdmnjaaW.PrintLast Go.Proofs.YtfopdfolbdmnjaaW.PrintMore

/-- The share is the least ratio for all times, not only for those up to the hours. -/
theorem share_min {l : List Int} {t P Q A B g : Nat} (gd : Good l t) (s : ShareIs l t P Q A B g) {T : Nat} {S : Int} (h : Can l t T S []) : (A : Int) * T ≤ S * B := by
  have ht1 : 1 ≤ t := by have := gd.one; omega
  have htn : t ≤ l.length := by have := gd.top; omega
  obtain ⟨hs, W, w1, w2, w3, w4, w5, w6⟩ := met gd
  have hps := psum_le gd.high gd.low hs w4
  have d1 := dual ht1 htn h w3 w4
  have hIs : IsL l t W (psum l hs) := ⟨w6, fun S' hS' hc => by
    have d2 := dual ht1 htn hc w3 w4
    have := Int.le_of_mul_le_mul_right d2 (by omega)
    omega⟩
  obtain ⟨N, hN⟩ : ∃ N : Nat, psum l hs = N := ⟨(psum l hs).toNat, by omega⟩
  rw [hN] at hIs d1
  have m := s.min W N w1 (by omega) hIs
  have m' : (A : Int) * W ≤ N * B := by exact_mod_cast m
  have hW : (0 : Int) < W := by omega
  apply Int.le_of_mul_le_mul_right (a := (W : Int)) _ hW
  have a1 : (A : Int) * W * T ≤ N * B * T := Int.mul_le_mul_of_nonneg_right m' (by omega)
  have a2 : (N : Int) * T * B ≤ S * W * B := Int.mul_le_mul_of_nonneg_right d1 (by omega)
  calc (A : Int) * T * W = A * W * T := Int.mul_right_comm ..
    _ ≤ N * B * T := a1
    _ = N * T * B := Int.mul_right_comm ..
    _ ≤ S * W * B := a2
    _ = S * B * W := Int.mul_right_comm ..
theorem can_up {l : List Int} {t : Nat} {T S k : Int} (hk : 0 ≤ k) : Can l t T S [] → Can l t (k * T) (k * S) [] := by
  intro ⟨y, c, _⟩
  refine ⟨fun v => k * y v, ⟨?_, ?_, ?_, ?_⟩, fun j hj => absurd hj (Nat.not_lt_zero _)⟩
  · show k * y l.length = k * y 0 + k * S
    rw [c.size, Int.mul_add]
  · intro h hl; exact Int.mul_le_mul_of_nonneg_left (c.up h hl) hk
  · intro h hl ht
    have := Int.mul_le_mul_of_nonneg_left (c.low h hl ht) hk
    rw [Int.mul_add, Int.mul_left_comm] at this
    exact this
  · intro h hl ht
    have := Int.mul_le_mul_of_nonneg_left (c.wrap h hl ht) hk
    rw [Int.mul_sub, Int.mul_add, Int.mul_left_comm] at this
    exact this
theorem getD_map (l : List Int) (k : Int) (h : Nat) : (l.map fun x => k * x).getD h 0 = k * l.getD h 0 := by
  rw [List.getD_eq_getElem?_getD, List.getD_eq_getElem?_getD, List.getElem?_map]
  cases l[h]? with
  | none => show (0 : Int) = k * 0; omega
  | some x => rfl
theorem can_map (l : List Int) (t : Nat) (T S k : Int) : Can (l.map fun x => k * x) t T S [] ↔ Can l t (k * T) S [] := by
  have e : ∀ h, (l.map fun x => k * x).getD h 0 * T = l.getD h 0 * (k * T) := by
    intro h; rw [getD_map, Int.mul_comm k, Int.mul_assoc]
  constructor
  · intro ⟨y, c, f⟩
    refine ⟨y, ⟨by have := c.size; rwa [List.length_map] at this, fun h hl => c.up h (by rw [List.length_map]; exact hl), fun h hl ht => ?_, fun h hl ht => ?_⟩, f⟩
    · have := c.low h (by rw [List.length_map]; exact hl) ht; rwa [e] at this
    · have := c.wrap h (by rw [List.length_map]; exact hl) ht; rwa [e, List.length_map] at this
  · intro ⟨y, c, f⟩
    refine ⟨y, ⟨by rw [List.length_map]; exact c.size, fun h hl => c.up h (by rwa [List.length_map] at hl), fun h hl ht => ?_, fun h hl ht => ?_⟩, f⟩
    · rw [e]; exact c.low h (by rwa [List.length_map] at hl) ht
    · rw [e, List.length_map]; exact c.wrap h (by rwa [List.length_map] at hl) ht
theorem scaled_end {l : List Int} {t : Nat} (g : Good l t) {k : Nat} (k1 : 1 ≤ k) (k5 : k ≤ 5) (g' : Good (l.map fun x => (k : Int) * x) t) {P Q A B gg P' Q' A' B' gg' : Nat} (s : ShareIs l t P Q A B gg) (s' : ShareIs (l.map fun x => (k : Int) * x) t P' Q' A' B' gg') : k * P * Q' = P' * Q := by
  have h1 : A * (k * B') ≤ A' * B := by
    have := share_min g s (T := k * B') (S := A') (by rw [Int.natCast_mul]; exact (can_map l t B' A' k).1 s'.least.can)
    exact_mod_cast this
  have h2 : A' * B ≤ k * A * B' := by
    have hc : Can (l.map fun x => (k : Int) * x) t B (k * A) [] := (can_map l t B (k * A) k).2 (can_up (by omega) s.least.can)
    have := share_min g' s' hc
    exact_mod_cast this
  have h3 : k * A * B' = A' * B := by
    have : A * (k * B') = k * A * B' := by rw [Nat.mul_comm k A, Nat.mul_assoc]
    omega
  rw [s.a, s'.b, s'.a, s.b, ← Nat.mul_assoc k P gg] at h3
  exact cancel (P := k * P) s.pos s'.pos h3
theorem scaled_l0 {l : List Int} {t : Nat} (g : Good l t) {k : Nat} (k1 : 1 ≤ k) (k5 : k ≤ 5) : ∀ (d i : Nat), i + d = l.length → (∀ j, j < i → (k : Int) * l.getD j 0 ≤ 50) →
    Ev (fun n => trishawlaw07_ShiftScaled.l0 n l t k ((l.take i).map fun x => (k : Int) * x) i) true := by
  intro d
  have hl := g.len
  have hp := g.pos
  have ht1 : 1 ≤ t := by have := g.one; omega
  induction d with
  | zero =>
    intro i hi hj
    obtain rfl : i = l.length := by omega
    rw [List.take_length]
    have g' : Good (l.map fun x => (k : Int) * x) t := by
      refine ⟨by rw [List.length_map]; exact hl, by rw [List.length_map]; exact hp, ?_, ?_, g.one, by rw [List.length_map]; exact g.top⟩
      · intro x hx
        obtain ⟨y, hy, rfl⟩ := List.mem_map.1 hx
        exact Int.mul_nonneg (by omega) (g.low y hy)
      · intro x hx
        obtain ⟨y, hy, rfl⟩ := List.mem_map.1 hx
        obtain ⟨j, hj', rfl⟩ := mem_getD hy
        exact hj j hj'
    obtain ⟨P, Q, A, B, gg, e1, s1, hA⟩ := Share_good g
    obtain ⟨P', Q', A', B', gg', e2, s2, hA'⟩ := Share_good g'
    obtain ⟨L, e3, h3, h3'⟩ := Least_good g
    obtain ⟨L', e4, h4, h4'⟩ := Least_good g'
    have hsc := scaled_end g k1 k5 g' s1 s2
    have sm := prod_lt s1.a s1.b s1.pos hA (by have := s1.top; omega)
    have sm' := prod_lt s2.a s2.b s2.pos hA' (by have := s2.top; rw [List.length_map] at this; omega)
    have q1 : 0 < Q := by
      have := s1.one; rw [s1.b] at this
      exact Nat.pos_of_mul_pos_right this
    have q2 : 0 < Q' := by
      have := s2.one; rw [s2.b] at this
      exact Nat.pos_of_mul_pos_right this
    have hL0 := h3.nonneg
    have hL0' := h4.nonneg
    have b1 : L' ≤ k * L := h4.le ((can_map l t 1 _ k).2 (can_up (by omega) h3.can))
    have b2 : (k : Int) * (L - 1) < L' := by
      apply Classical.byContradiction
      intro hn
      have hc : Can l t (k * 1) L' [] := (can_map l t 1 _ k).1 h4.can
      rw [Int.mul_one] at hc
      have hc2 := can_mono hp ht1 (show L' ≤ (L - 1) * k by rw [Int.mul_comm]; omega) hc
      exact h3.low (L - 1) (by omega) (can_div (by omega) hc2)
    have w1 : k * P ≤ 5 * 7200 := Nat.mul_le_mul k5 sm.1
    have w2 : k * P * Q' ≤ 5 * 7200 * 12 := Nat.mul_le_mul w1 sm'.2
    have w3 : P' * Q ≤ 7200 * 12 := Nat.mul_le_mul sm'.1 sm.2
    have w4 : (k : Int) * L ≤ 5 * 7200 := Int.mul_le_mul (by omega) h3' hL0 (by omega)
    have w5 : (k : Int) * (L - 1) = k * L - k := by rw [Int.mul_sub, Int.mul_one]
    have w6 : 0 ≤ (k : Int) * L := Int.mul_nonneg (by omega) hL0
    refine Ev.step (fun n => by rw [trishawlaw07_ShiftScaled.l0]) (ev_neg (by omega) (Ev.bind e1 (Ev.bind e2 (Ev.bind e3 (Ev.bind e4 (ev_pos rfl (ev_pos rfl (ev_pos rfl (ev_pos rfl ?_)))))))))
    dsimp only
    rw [wrap_id (n := L - 1) (by omega), wrap_id (n := (k : Int) * (L - 1)) (by omega), wrap_id (n := (k : Int) * L) (by omega), ← Int.natCast_mul, wrap_id (n := ((k * P : Nat) : Int)) (by omega), ← Int.natCast_mul, wrap_id (n := ((k * P * Q' : Nat) : Int)) (by omega), ← Int.natCast_mul P' Q, wrap_id (n := ((P' * Q : Nat) : Int)) (by omega)]
    exact ev_neg (by omega) (ev_neg (by omega) (ev_neg (by omega) (ev_neg (by omega) (ev_neg (by omega) (ev_neg (by omega) (ev_pos (by omega) (ev_pos b1 (ev_pos b2 alive_ev'))))))))
  | succ d ih =>
    intro i hi hj
    have hlt : i < l.length := by omega
    have x0 := g.low _ (getD_mem hlt)
    have x1 := g.high _ (getD_mem hlt)
    have y0 : (0 : Int) ≤ k * l.getD i 0 := Int.mul_nonneg (by omega) x0
    have y1 : (k : Int) * l.getD i 0 ≤ 5 * 50 := Int.mul_le_mul (by omega) x1 x0 (by omega)
    refine Ev.step (fun n => by rw [trishawlaw07_ShiftScaled.l0]) (ev_pos (by omega) (ev_pos (by omega) ?_))
    rw [rd_nat, wrap_id (n := (k : Int) * l.getD i 0) (by omega), wrap_id (n := (i : Int) + 1) (by omega)]
    by_cases hc : (k : Int) * l.getD i 0 > 50
    · exact ev_pos hc alive_ev'
    · refine ev_neg hc (ev_pos (by rw [List.length_map, List.length_take]; omega) ?_)
      have e := ih (i + 1) (by omega) (fun j hj' => by
        by_cases h : j = i
        · rw [h]; omega
        · exact hj j (by omega))
      rw [List.take_add_one, List.getElem?_eq_getElem hlt, Option.toList_some, List.map_append] at e
      have e2 : l.getD i 0 = l[i] := by rw [List.getD_eq_getElem?_getD, List.getElem?_eq_getElem hlt]; rfl
      rw [e2]
      exact e
theorem ShiftScaled : trishawlaw07_ShiftScaled.Pure := by
  intro l a b hl _ _ _ hb
  refine Ev.rounds (g := fun k => trishawlaw07_ShiftScaled.f k l a b) ?_
  unfold trishawlaw07_ShiftScaled.f
  rw [few_f]
  have out : Ev (fun k => trishawlaw07_ShiftScaled.j0 k l a b true) true := Ev.step (fun k => by rw [trishawlaw07_ShiftScaled.j0]) (ev_pos rfl alive_ev')
  by_cases hf : decide (l.length ≤ 40 ∧ ([] : List Int).length ≤ 100) = true
  · refine ev_pos hf (Ev.bind (day_f l a) ?_)
    by_cases hg : dayE l a = 0
    · have g := day_good.1 hg
      obtain ⟨t, rfl⟩ := g.nat
      have hb' : 0 ≤ b ∧ b ≤ 255 := by simpa [Lit.wf, IntKind.min, IntKind.max, IntKind.signed, IntKind.bits] using hb
      rw [hg]
      refine Ev.step (fun k => by rw [trishawlaw07_ShiftScaled.j0]) (ev_neg (fun h => by cases h) ?_)
      have hk : wrap64 (1 + wrap64 (Int.tmod b 5)) = ((1 + b % 5).toNat : Int) := by
        rw [Int.tmod_eq_emod_of_nonneg hb'.1, wrap_id (n := b % 5) (by omega), wrap_id (by omega)]; omega
      rw [hk]
      exact scaled_l0 g (k := (1 + b % 5).toNat) (by omega) (by omega) l.length 0 (by omega) (fun j hj => absurd hj (Nat.not_lt_zero _))
    · have : (dayE l a != 0) = true := bne_iff_ne.2 hg
      rw [this]; exact out
  · exact ev_neg hf out
end Go.Proofs.Ytfopdfolbdmnjaa.Pure
