/- The document's search ends at the least size of a plan too. Conditions: one to twelve hours, needs of 0 to 50, up to twelvefold. -/
import Derived.Test.YtfopdfolbdmnjaaPx12
import Derived.Test.YtfopdfolbdmnjaaLst
namespace Go.Proofs.Ytfopdfolbdmnjaa.Pure
open Go.RowKit Go.Proofs.Ytfopdfolbdmnjaa.P Go.Proofs.YtfopdfolbdmnjaaW.PrintWords Go.Proofs.YtfopdfolbdmnjaaW.PrintLast Go.Proofs.YtfopdfolbdmnjaaW.PrintMore

def arcR (b : S75) : Arc := (b.f0.toNat, b.f1.toNat, b.f2)
structure OkR (N : Int) (b : S75) : Prop where
  a0 : 0 ≤ b.f0
  a1 : b.f0 < N
  b0 : 0 ≤ b.f1
  b1 : b.f1 < N
  w0 : -1000000 ≤ b.f2
  w1 : b.f2 ≤ 1000000

theorem fits_l1 (N : Nat) (l : List S75) (hok : ∀ b, b ∈ l → OkR N b) (hl : l.length ≤ 1000) (rd_ : Int) : ∀ (r : List S75) (i : Nat) (x : List Int) (fl : Bool) (C : Int), l.drop i = r → i ≤ l.length → x.length = N → (∀ v, 0 ≤ fn x v ∧ fn x v ≤ C) → C + 1000000 * (r.length + 1 : Int) < 4611686018427387904 →
    ∃ x' fl', x'.length = N ∧ fn x' = round (r.map arcR) (fn x) ∧ (∀ v, 0 ≤ fn x' v ∧ fn x' v ≤ C + 1000000 * (r.length : Int)) ∧
      ((Sat (r.map arcR) (fn x) ∧ x' = x ∧ fl' = fl) ∨ (¬ Sat (r.map arcR) (fn x) ∧ fl' = true)) ∧ (fl = true → fl' = true) ∧
      ∀ q, Ev (fun k => if fl' = true then trishawref07_fits.l0 k N l x' (wrap64 (rd_ + 1)) else some true) q → Ev (fun k => trishawref07_fits.l1 k N l x rd_ fl i) q := by
  intro r
  induction r with
  | nil =>
    intro i x fl C hd hi hx hb hC
    have : l.length ≤ i := by
      have := congrArg List.length hd
      rw [List.length_drop, List.length_nil] at this; omega
    refine ⟨x, fl, hx, rfl, ?_, .inl ⟨(fun a ha => by cases ha), rfl, rfl⟩, id, fun q h => ?_⟩
    · intro v; have := hb v; simp only [List.length_nil]; omega
    · exact Ev.step (fun k => by rw [trishawref07_fits.l1]) (ev_neg (by omega) h)
  | cons b t ih =>
    intro i x fl C hd hi hx hb hC
    have hlt : i < l.length := by
      have := congrArg List.length hd
      rw [List.length_drop, List.length_cons] at this; omega
    have hx' : rd_T75 l (i : Int) = b ∧ l.drop (i + 1) = t := by
      rw [List.drop_eq_getElem_cons hlt] at hd
      obtain ⟨h1, h2⟩ := List.cons.inj hd
      refine ⟨?_, h2⟩
      unfold rd_T75
      rw [Int.toNat_natCast, List.getD_eq_getElem?_getD, List.getElem?_eq_getElem hlt]
      exact h1
    have hmem : b ∈ l := by
      have : b ∈ l.drop i := by rw [hd]; exact List.mem_cons_self ..
      exact List.mem_of_mem_drop this
    obtain ⟨a0, a1, b0, b1, w0, w1⟩ := hok b hmem
    simp only [List.length_cons] at hC ⊢
    have hA := hb b.f0.toNat
    have hB := hb b.f1.toNat
    have hw : wrap64 (rd x b.f0 + b.f2) = fn x b.f0.toNat + b.f2 := by rw [rd_fn _ a0]; exact wrap_id (by omega)
    by_cases hlt2 : fn x b.f1.toNat < fn x b.f0.toNat + b.f2
    · have hset := fn_set x b.f1.toNat (fn x b.f0.toNat + b.f2) (by omega)
      have hrx : fn (x.set b.f1.toNat (fn x b.f0.toNat + b.f2)) = rx (fn x) (arcR b) := by rw [hset]; exact (if_pos hlt2).symm
      obtain ⟨x', fl', h1, h2, h3, h4, h5, h6⟩ := ih (i + 1) (x.set b.f1.toNat (fn x b.f0.toNat + b.f2)) true (C + 1000000) hx'.2 (by omega) (by rw [List.length_set]; exact hx) (by
        intro v
        have := hb v
        rw [hset]; dsimp only; split <;> omega) (by omega)
      refine ⟨x', fl', h1, ?_, ?_, .inr ⟨?_, h5 rfl⟩, fun _ => h5 rfl, fun q h => ?_⟩
      · rw [h2, hrx]; rfl
      · intro v; have := h3 v; omega
      · intro hs
        have := hs (arcR b) (List.mem_map.2 ⟨b, List.mem_cons_self .., rfl⟩)
        simp only [arcR] at this
        omega
      · refine Ev.step (fun k => by rw [trishawref07_fits.l1, hx'.1]) (ev_pos (by omega) (ev_pos (by omega) (ev_pos a0 (ev_pos (by omega) (ev_pos b0 (ev_pos (by omega) ?_))))))
        rw [hw, rd_fn _ b0, wrap_id (n := (i : Int) + 1) (by omega)]
        exact ev_pos hlt2 (h6 q h)
    · have hrx : rx (fn x) (arcR b) = fn x := if_neg hlt2
      obtain ⟨x', fl', h1, h2, h3, h4, h5, h6⟩ := ih (i + 1) x fl C hx'.2 (by omega) hx hb (by omega)
      refine ⟨x', fl', h1, ?_, ?_, ?_, h5, fun q h => ?_⟩
      · rw [h2]
        show round (t.map arcR) (fn x) = round (t.map arcR) (rx (fn x) (arcR b))
        rw [hrx]
      · intro v; have := h3 v; omega
      · rcases h4 with ⟨hs, h⟩ | ⟨hs, h⟩
        · left
          refine ⟨fun a ha => ?_, h⟩
          rw [List.map_cons] at ha
          rcases List.mem_cons.1 ha with rfl | ha
          · simp only [arcR]; omega
          · exact hs a ha
        · right
          exact ⟨fun hs' => hs fun a ha => hs' a (List.mem_cons_of_mem _ ha), h⟩
      · refine Ev.step (fun k => by rw [trishawref07_fits.l1, hx'.1]) (ev_pos (by omega) (ev_pos (by omega) (ev_pos a0 (ev_pos (by omega) (ev_pos b0 (ev_pos (by omega) ?_))))))
        rw [hw, rd_fn _ b0, wrap_id (n := (i : Int) + 1) (by omega)]
        exact ev_neg hlt2 (h6 q h)
theorem fits_l0 (N : Nat) (hN : N ≤ 1000) (l : List S75) (hok : ∀ b, b ∈ l → OkR N b) (hl : l.length ≤ 1000) : ∀ (d i : Nat) (x : List Int) (C : Int), i + d = N + 1 → x.length = N → (∀ v, 0 ≤ fn x v ∧ fn x v ≤ C) → C + 2000000000 * (d + 1 : Int) < 4611686018427387904 →
    ∃ ok, Ev (fun k => trishawref07_fits.l0 k N l x i) ok ∧ (ok = true ↔ ∃ r, r < d ∧ Sat (l.map arcR) (iter (l.map arcR) r (fn x))) := by
  intro d
  induction d with
  | zero =>
    intro i x C hi hx hb hC
    exact ⟨false, Ev.step (fun k => by rw [trishawref07_fits.l0]) (ev_neg (by omega) (Ev.now _)), ⟨(fun h => by cases h), fun ⟨r, hr, _⟩ => absurd hr (Nat.not_lt_zero _)⟩⟩
  | succ d ih =>
    intro i x C hi hx hb hC
    obtain ⟨x', fl', h1, h2, h3, h4, _, h6⟩ := fits_l1 N l hok hl i l 0 x false C rfl (Nat.zero_le _) hx hb (by omega)
    have h6 : ∀ q, Ev (fun k => if fl' = true then trishawref07_fits.l0 k N l x' (wrap64 ((i : Int) + 1)) else some true) q → Ev (fun k => trishawref07_fits.l1 k N l x i false 0) q := h6
    rcases h4 with ⟨hs, rfl, rfl⟩ | ⟨hs, rfl⟩
    · exact ⟨true, Ev.step (fun k => by rw [trishawref07_fits.l0]) (ev_pos (by omega) (h6 true (ev_neg Bool.false_ne_true (Ev.now _)))), ⟨fun _ => ⟨0, by omega, hs⟩, fun _ => rfl⟩⟩
    · obtain ⟨ok, e, hk⟩ := ih (i + 1) x' (C + 1000000 * (l.length : Int)) (by omega) h1 h3 (by omega)
      refine ⟨ok, Ev.step (fun k => by rw [trishawref07_fits.l0]) (ev_pos (by omega) (h6 ok (ev_pos rfl ?_))), ?_⟩
      · rw [wrap_id (n := (i : Int) + 1) (by omega)]; exact e
      · rw [hk, h2]
        constructor
        · intro ⟨r, hr, h⟩; exact ⟨r + 1, by omega, h⟩
        · intro ⟨r, hr, h⟩
          cases r with
          | zero => exact absurd h hs
          | succ r => exact ⟨r, by omega, h⟩
/-- The document's rounds tell whether the bounds can be kept. -/
theorem fits_f (N : Nat) (hN : N ≤ 1000) (l : List S75) (hok : ∀ b, b ∈ l → OkR N b) (hl : l.length ≤ 1000) : ∃ ok, Ev (fun k => trishawref07_fits.f k N l) ok ∧ (ok = true ↔ Feas (l.map arcR)) := by
  obtain ⟨ok, e, hk⟩ := fits_l0 N hN l hok hl (N + 1) 0 (List.replicate N 0) 0 (by omega) (List.length_replicate ..) (fun v => by rw [fn_rep]; exact ⟨Int.le_refl _, Int.le_refl _⟩) (by omega)
  refine ⟨ok, ?_, ?_⟩
  · unfold trishawref07_fits.f
    exact ev_pos (by omega) (ev_pos (by omega) e)
  · rw [hk, fn_rep]
    constructor
    · intro ⟨r, _, h⟩; exact ⟨_, h⟩
    · intro h
      obtain ⟨r, hr, h⟩ := ford N _ (fun a ha => by
        obtain ⟨b, hb, rfl⟩ := List.mem_map.1 ha
        obtain ⟨a0, a1, b0, b1, w0, w1⟩ := hok b hb
        simp only [arcR]
        omega) h
      exact ⟨r, by omega, h⟩
/-! The bounds as the document lays them. -/
def covR (l : List Int) (t : Nat) (T S : Int) (h : Nat) : S75 :=
  if t ≤ h + 1 then ⟨(h : Int) + 1 - t, (h : Int) + 1, T * l.getD h 0⟩ else ⟨(h : Int) + 1 - t + l.length, (h : Int) + 1, T * l.getD h 0 - S⟩
def fixR (f : List Int) (h : Nat) : List S75 := if h < f.length then [⟨h, (h : Int) + 1, f.getD h 0⟩, ⟨(h : Int) + 1, h, -(f.getD h 0)⟩] else []
def hourR (l : List Int) (t : Nat) (T S : Int) (f : List Int) (h : Nat) : List S75 := (⟨h, (h : Int) + 1, 0⟩ :: fixR f h) ++ [covR l t T S h]
def startR (l : List Int) (S : Int) : List S75 := [⟨0, (l.length : Int), S⟩, ⟨(l.length : Int), 0, -S⟩]
def arcsR (l : List Int) (t : Nat) (T S : Int) (f : List Int) : List S75 := startR l S ++ (List.range l.length).flatMap (hourR l t T S f)
theorem arcsR_sat (l : List Int) (t : Nat) (T S : Int) (f : List Int) (y : Nat → Int) (_ht : t ≤ l.length) (hf : f.length ≤ l.length) : Sat ((arcsR l t T S f).map arcR) y ↔ Clock l t T S y ∧ Fixed f y := by
  unfold arcsR
  rw [List.map_append, sat_append, List.map_flatMap, sat_flat]
  unfold startR
  simp only [List.map_cons, List.map_nil, sat_cons, sat_nil, arcR]
  rw [show ((l.length : Int)).toNat = l.length by omega, show (0 : Int).toNat = 0 from rfl]
  have hh : ∀ h, h < l.length → (Sat ((hourR l t T S f h).map arcR) y ↔ y h ≤ y (h + 1) ∧ (h < f.length → y (h + 1) = y h + f.getD h 0) ∧ (t ≤ h + 1 → y (h + 1 - t) + l.getD h 0 * T ≤ y (h + 1)) ∧ (h + 1 < t → y (l.length + (h + 1) - t) + l.getD h 0 * T - S ≤ y (h + 1))) := by
    intro h hl
    have e1 : ((h : Int) + 1).toNat = h + 1 := by omega
    have e2 : ((h : Int)).toNat = h := by omega
    have hfix : Sat ((fixR f h).map arcR) y ↔ (h < f.length → y (h + 1) = y h + f.getD h 0) := by
      unfold fixR
      split
      · simp only [List.map_cons, List.map_nil, sat_cons, sat_nil, arcR]
        rw [e1, e2]
        constructor
        · intro ⟨h1, h2, _⟩ _; omega
        · intro h'; have := h' (by assumption); exact ⟨by omega, by omega, trivial⟩
      · simp only [List.map_nil, sat_nil]
        exact ⟨fun _ h' => absurd h' (by assumption), fun _ => trivial⟩
    have hcov : Sat ([covR l t T S h].map arcR) y ↔ (t ≤ h + 1 → y (h + 1 - t) + l.getD h 0 * T ≤ y (h + 1)) ∧ (h + 1 < t → y (l.length + (h + 1) - t) + l.getD h 0 * T - S ≤ y (h + 1)) := by
      unfold covR
      rw [Int.mul_comm T]
      simp only [List.map_cons, List.map_nil, sat_cons, sat_nil]
      by_cases c : t ≤ h + 1
      · rw [if_pos c]
        simp only [arcR]
        rw [e1, show ((h : Int) + 1 - t).toNat = h + 1 - t by omega]
        constructor
        · intro ⟨h1, _⟩; exact ⟨fun _ => h1, fun h => by omega⟩
        · intro ⟨h1, _⟩; exact ⟨h1 c, trivial⟩
      · rw [if_neg c]
        simp only [arcR]
        rw [e1, show ((h : Int) + 1 - t + l.length).toNat = l.length + (h + 1) - t by omega]
        constructor
        · intro ⟨h1, _⟩; exact ⟨fun h => by omega, fun _ => by omega⟩
        · intro ⟨_, h2⟩; exact ⟨by have := h2 (by omega); omega, trivial⟩
    unfold hourR
    rw [List.map_append, sat_append, List.map_cons, sat_cons, hfix, hcov]
    simp only [arcR]
    rw [e1, e2]
    constructor
    · intro ⟨⟨h1, h2⟩, h3⟩; exact ⟨by omega, h2, h3⟩
    · intro ⟨h1, h2, h3⟩; exact ⟨⟨by omega, h2⟩, h3⟩
  constructor
  · intro ⟨⟨h1, h2, _⟩, h3⟩
    have h5 := fun h hl => (hh h hl).1 (h3 h hl)
    exact ⟨⟨by omega, fun h hl => (h5 h hl).1, fun h hl => (h5 h hl).2.2.1, fun h hl => (h5 h hl).2.2.2⟩, fun j hj => (h5 j (by omega)).2.1 hj⟩
  · intro ⟨⟨h1, h2, h3, h4⟩, h5⟩
    exact ⟨⟨by omega, by omega, trivial⟩, fun h hl => (hh h hl).2 ⟨h2 h hl, fun h' => h5 h h', h3 h hl, h4 h hl⟩⟩
theorem arcsR_ok {l : List Int} {t : Nat} {T S : Int} {f : List Int} (s : Small l t T S f) : ∀ b, b ∈ arcsR l t T S f → OkR ((l.length + 1 : Nat) : Int) b := by
  intro b hb
  obtain ⟨h1, h2, h3, h4, h5, h6, h7, h8, h9, h10, h11, h12⟩ := s
  unfold arcsR at hb
  rcases List.mem_append.1 hb with hb | hb
  · unfold startR at hb
    rcases List.mem_cons.1 hb with rfl | hb
    · exact ⟨by dsimp only; omega, by dsimp only; omega, by dsimp only; omega, by dsimp only; omega, by dsimp only; omega, by dsimp only; omega⟩
    rcases List.mem_cons.1 hb with rfl | hb
    · exact ⟨by dsimp only; omega, by dsimp only; omega, by dsimp only; omega, by dsimp only; omega, by dsimp only; omega, by dsimp only; omega⟩
    cases hb
  · obtain ⟨h, hh, hb⟩ := List.mem_flatMap.1 hb
    have hh := List.mem_range.1 hh
    have hm := mul_small (h3 _ (getD_mem hh)) (h4 _ (getD_mem hh)) h7 h8
    rw [Int.mul_comm] at hm
    unfold hourR at hb
    rcases List.mem_append.1 hb with hb | hb
    · rcases List.mem_cons.1 hb with rfl | hb
      · exact ⟨by dsimp only; omega, by dsimp only; omega, by dsimp only; omega, by dsimp only; omega, by dsimp only; omega, by dsimp only; omega⟩
      unfold fixR at hb
      split at hb
      · next hf =>
        have hx := h12 _ (getD_mem hf)
        rcases List.mem_cons.1 hb with rfl | hb
        · exact ⟨by dsimp only; omega, by dsimp only; omega, by dsimp only; omega, by dsimp only; omega, by dsimp only; omega, by dsimp only; omega⟩
        rcases List.mem_cons.1 hb with rfl | hb
        · exact ⟨by dsimp only; omega, by dsimp only; omega, by dsimp only; omega, by dsimp only; omega, by dsimp only; omega, by dsimp only; omega⟩
        cases hb
      · cases hb
    · rcases List.mem_cons.1 hb with rfl | hb
      · unfold covR
        split
        · exact ⟨by dsimp only; omega, by dsimp only; omega, by dsimp only; omega, by dsimp only; omega, by dsimp only; omega, by dsimp only; omega⟩
        · exact ⟨by dsimp only; omega, by dsimp only; omega, by dsimp only; omega, by dsimp only; omega, by dsimp only; omega, by dsimp only; omega⟩
      cases hb
theorem flatR_len (l : List Int) (t : Nat) (T S : Int) (f : List Int) : ∀ n, ((List.range n).flatMap (hourR l t T S f)).length ≤ 4 * n := by
  intro n
  induction n with
  | zero => exact Nat.le_refl _
  | succ n ih =>
    rw [List.range_succ, List.flatMap_append, List.length_append, List.flatMap_cons, List.flatMap_nil, List.append_nil]
    have : (hourR l t T S f n).length ≤ 4 := by
      unfold hourR fixR
      split <;> simp
    omega
theorem can_l0 {l : List Int} {t : Nat} {T S : Int} {f : List Int} (s : Small l t T S f) (q : Bool) (hq : Ev (fun k => trishawref07_fits.f k ((l.length + 1 : Nat) : Int) (arcsR l t T S f)) q) : ∀ (d h : Nat), h + d = l.length →
    Ev (fun k => trishawref07_can.l0 k l T t S f l.length (startR l S ++ (List.range h).flatMap (hourR l t T S f)) h) q := by
  intro d
  have hs := s
  obtain ⟨h1, h2, h3, h4, h5, h6, h7, h8, h9, h10, h11, h12⟩ := hs
  induction d with
  | zero =>
    intro h hh
    refine Ev.step (fun k => by rw [trishawref07_can.l0]) (ev_neg (by omega) ?_)
    obtain rfl : h = l.length := by omega
    rw [wrap_id (n := (l.length : Int) + 1) (by omega)]
    exact Ev.bind hq (Ev.now _)
  | succ d ih =>
    intro h hh
    have hlt : h < l.length := by omega
    have hm := mul_small (h3 _ (getD_mem hlt)) (h4 _ (getD_mem hlt)) h7 h8
    rw [Int.mul_comm] at hm
    have hlen : (startR l S ++ (List.range h).flatMap (hourR l t T S f)).length ≤ 100 := by
      have := flatR_len l t T S f h
      rw [List.length_append]; simp only [startR, List.length_cons, List.length_nil]; omega
    have hi := ih (h + 1) (by omega)
    rw [List.range_succ, List.flatMap_append, List.flatMap_cons, List.flatMap_nil, List.append_nil, ← List.append_assoc] at hi
    unfold hourR at hi
    generalize hX : startR l S ++ (List.range h).flatMap (hourR l t T S f) = X at hlen ⊢
    unfold hourR at hX
    rw [hX] at hi
    refine Ev.step (fun k => by rw [trishawref07_can.l0]) (ev_pos (by omega) (ev_pos (by omega) ?_))
    rw [rd_nat l, rd_nat f, wrap_id (n := (h : Int) + 1) (by omega), wrap_id (n := (h : Int) + 1 - t) (by omega), wrap_id (n := T * l.getD h 0) (by omega), wrap_id (n := T * l.getD h 0 - S) (by omega), wrap_id (n := (h : Int) + 1 - t + (l.length : Int)) (by omega)]
    by_cases hf : h < f.length
    · have hx := h12 _ (getD_mem hf)
      rw [show fixR f h = [⟨h, (h : Int) + 1, f.getD h 0⟩, ⟨(h : Int) + 1, h, -(f.getD h 0)⟩] from if_pos hf] at hi
      rw [wrap_id (n := -(f.getD h 0)) (by omega)]
      refine ev_pos (c := (h : Int) < (f.length : Int)) (by omega) (ev_pos (by omega) (ev_pos (by simp only [List.length_append, List.length_cons, List.length_nil]; omega) (ev_pos (by omega) ?_)))
      by_cases c : t ≤ h + 1
      · rw [show covR l t T S h = ⟨(h : Int) + 1 - t, (h : Int) + 1, T * l.getD h 0⟩ from if_pos c] at hi
        refine ev_pos (by omega) (ev_pos (by simp only [List.length_append, List.length_cons, List.length_nil]; omega) ?_)
        simp only [List.append_assoc, List.cons_append, List.nil_append] at hi ⊢
        exact hi
      · rw [show covR l t T S h = ⟨(h : Int) + 1 - t + l.length, (h : Int) + 1, T * l.getD h 0 - S⟩ from if_neg c] at hi
        refine ev_neg (by omega) (ev_pos (by simp only [List.length_append, List.length_cons, List.length_nil]; omega) ?_)
        simp only [List.append_assoc, List.cons_append, List.nil_append] at hi ⊢
        exact hi
    · rw [show fixR f h = [] from if_neg hf] at hi
      refine ev_neg (c := (h : Int) < (f.length : Int)) (by omega) (ev_pos (by omega) (ev_pos (by omega) ?_))
      by_cases c : t ≤ h + 1
      · rw [show covR l t T S h = ⟨(h : Int) + 1 - t, (h : Int) + 1, T * l.getD h 0⟩ from if_pos c] at hi
        refine ev_pos (by omega) (ev_pos (by simp only [List.length_append, List.length_cons, List.length_nil]; omega) ?_)
        simp only [List.append_assoc, List.cons_append, List.nil_append] at hi ⊢
        exact hi
      · rw [show covR l t T S h = ⟨(h : Int) + 1 - t + l.length, (h : Int) + 1, T * l.getD h 0 - S⟩ from if_neg c] at hi
        refine ev_neg (by omega) (ev_pos (by simp only [List.length_append, List.length_cons, List.length_nil]; omega) ?_)
        simp only [List.append_assoc, List.cons_append, List.nil_append] at hi ⊢
        exact hi
/-- The document's question has this answer. -/
theorem can_f {l : List Int} {t : Nat} {T S : Int} {f : List Int} (s : Small l t T S f) : ∃ ok, Ev (fun k => trishawref07_can.f k l T t S f) ok ∧ (ok = true ↔ Can l t T S f) := by
  have hl := s.len
  have hlen : (arcsR l t T S f).length ≤ 1000 := by
    have := flatR_len l t T S f l.length
    unfold arcsR
    rw [List.length_append]; simp only [startR, List.length_cons, List.length_nil]; omega
  obtain ⟨ok, e, hk⟩ := fits_f (l.length + 1) (by omega) (arcsR l t T S f) (arcsR_ok s) hlen
  refine ⟨ok, ?_, ?_⟩
  · have h := can_l0 s ok e l.length 0 (by omega)
    unfold trishawref07_can.f
    rw [wrap_id (n := -S) (by have := s.S0; have := s.S1; omega)]
    exact h
  · rw [hk]
    constructor
    · intro ⟨y, h⟩; exact ⟨y, (arcsR_sat l t T S f y s.tn s.fl).1 h⟩
    · intro ⟨y, h⟩; exact ⟨y, (arcsR_sat l t T S f y s.tn s.fl).2 h⟩

theorem refleast_l1 {l : List Int} {t : Nat} (g : Good l t) {T : Int} (T0 : 0 ≤ T) (T1 : T ≤ 12) : ∀ (d : Nat) (lo hi : Int), (hi - lo).toNat ≤ d → -1 ≤ lo → lo < hi → hi ≤ 7200 → Can l t T hi [] → (∀ S, S ≤ lo → ¬ Can l t T S []) →
    ∃ L, Ev (fun k => trishawref07_least.l1 k l T t lo hi) L ∧ IsL l t T L := by
  intro d
  have hp := g.pos
  have ht1 : 1 ≤ t := by have := g.one; omega
  induction d with
  | zero => intro lo hi hd h0 h1 h2 hc hn; omega
  | succ d ih =>
    intro lo hi hd h0 h1 h2 hc hn
    by_cases hlt : hi - lo > 1
    · have hmid : wrap64 (lo + wrap64 (Int.tdiv (wrap64 (hi - lo)) 2)) = lo + (hi - lo) / 2 := by
        rw [wrap_id (n := hi - lo) (by omega), Int.tdiv_eq_ediv_of_nonneg (by omega), wrap_id (n := (hi - lo) / 2) (by omega), wrap_id (by omega)]
      have sm := small_of g T0 T1 (S := lo + (hi - lo) / 2) (by omega) (by omega)
      obtain ⟨z, ez, hz⟩ := can_f sm
      by_cases hcan : Can l t T (lo + (hi - lo) / 2) []
      · obtain ⟨L, e, hL⟩ := ih lo (lo + (hi - lo) / 2) (by omega) h0 (by omega) (by omega) hcan hn
        refine ⟨L, Ev.step (fun k => by rw [trishawref07_least.l1]) (ev_pos (by rw [wrap_id (by omega)]; exact hlt) ?_), hL⟩
        rw [hmid]
        exact Ev.bind ez (ev_pos (hz.2 hcan) e)
      · obtain ⟨L, e, hL⟩ := ih (lo + (hi - lo) / 2) hi (by omega) (by omega) (by omega) h2 hc (fun S hS h => hcan (can_mono hp ht1 (by omega) h))
        refine ⟨L, Ev.step (fun k => by rw [trishawref07_least.l1]) (ev_pos (by rw [wrap_id (by omega)]; exact hlt) ?_), hL⟩
        rw [hmid]
        exact Ev.bind ez (ev_neg (fun h => hcan (hz.1 h)) e)
    · exact ⟨hi, Ev.step (fun k => by rw [trishawref07_least.l1]) (ev_neg (by rw [wrap_id (by omega)]; exact hlt) (Ev.now _)), hc, fun S hS => hn S (by omega)⟩
theorem refleast_l0 {l : List Int} {t : Nat} (g : Good l t) {T : Int} (T0 : 0 ≤ T) (T1 : T ≤ 12) : ∀ (d i : Nat), i + d = l.length → ∀ r, Ev (fun k => trishawref07_least.l1 k l T t (-1) (needSum l T l.length)) r →
    Ev (fun k => trishawref07_least.l0 k l T t (-1) (needSum l T i) i) r := by
  intro d
  have hl := g.len
  induction d with
  | zero =>
    intro i hi r h
    obtain rfl : i = l.length := by omega
    exact Ev.step (fun k => by rw [trishawref07_least.l0]) (ev_neg (by omega) h)
  | succ d ih =>
    intro i hi r h
    have hm := mul_small (g.low _ (getD_mem (show i < l.length by omega))) (g.high _ (getD_mem (show i < l.length by omega))) T0 T1
    have hs := needSum_small g T0 T1 i (by omega)
    refine Ev.step (fun k => by rw [trishawref07_least.l0]) (ev_pos (by omega) (ev_pos (by omega) ?_))
    rw [rd_nat, Int.mul_comm T, wrap_id (n := l.getD i 0 * T) (by omega), wrap_id (n := needSum l T i + l.getD i 0 * T) (by omega), wrap_id (n := (i : Int) + 1) (by omega)]
    exact ih (i + 1) (by omega) r h
/-- The document's search comes to the least size. -/
theorem refleast_f {l : List Int} {t : Nat} (g : Good l t) {T : Int} (T0 : 0 ≤ T) (T1 : T ≤ 12) : ∃ L, Ev (fun k => trishawref07_least.f k l T t) L ∧ IsL l t T L := by
  have hs := needSum_small g T0 T1 l.length (Nat.le_refl _)
  have hl := g.len
  obtain ⟨L, e, hL⟩ := refleast_l1 g T0 T1 (needSum l T l.length + 1).toNat (-1) (needSum l T l.length) (by omega) (Int.le_refl _) (by omega) (by omega) (can_top (fun h hh => (mul_small (g.low _ (getD_mem hh)) (g.high _ (getD_mem hh)) T0 T1).1) (by have := g.one; omega) (by have := g.top; omega)) (fun S hS => can_neg (by omega))
  refine ⟨L, ?_, hL⟩
  unfold trishawref07_least.f
  exact refleast_l0 g T0 T1 l.length 0 (by omega) _ e
theorem RefLeast_good {l : List Int} {t : Nat} (g : Good l t) : ∃ L, Ev (fun k => trishawref07_Least.f k l t) (L, 0) ∧ IsL l t 1 L := by
  obtain ⟨L, e, hL⟩ := refleast_f g (T := 1) (by omega) (by omega)
  refine ⟨L, ?_, hL⟩
  unfold trishawref07_Least.f
  exact Ev.bind (day_f l t) (ev_pos (day_good.2 g) (Ev.bind e (Ev.now _)))
theorem RefLeast_bad {l : List Int} {a : Int} (g : dayE l a ≠ 0) : Ev (fun k => trishawref07_Least.f k l a) (0, dayE l a) := by
  unfold trishawref07_Least.f
  exact Ev.bind (day_f l a) (ev_neg g (Ev.now _))

end Go.Proofs.Ytfopdfolbdmnjaa.Pure
