/- What holds of the arcs that moved the nodes last, when rounds end without coming to rest: the cycle that contradiction finds weighs more than 0, and there is one. Conditions: as many rounds as there are nodes. -/
import Derived.Test.YtfopdfolbdmnjaaClock
namespace Go.Proofs.Ytfopdfolbdmnjaa.Pure
open Go.RowKit Go.Proofs.Ytfopdfolbdmnjaa.P Go.Proofs.YtfopdfolbdmnjaaW.PrintWords Go.Proofs.YtfopdfolbdmnjaaW.PrintLast Go.Proofs.YtfopdfolbdmnjaaW.PrintMore

/-- What is remembered of the run: the round ρ and the moment τ in which a node was moved last. -/
structure Gh (A : List S72) (now by_ : List Int) (ρ τ : Nat → Nat) (r c : Nat) : Prop where
  pr : ∀ v : Nat, v < 13 → 0 ≤ rd by_ (v : Int) → (arcOf A by_ v).f1 = v ∧ fn now v ≤ fn now (nx A by_ v) + (arcOf A by_ v).f2 ∧ (τ v ≤ τ (nx A by_ v) → fn now v < fn now (nx A by_ v) + (arcOf A by_ v).f2) ∧ ρ v ≤ ρ (nx A by_ v) + 1
  root : ∀ v : Nat, v < 13 → rd by_ (v : Int) < 0 → ρ v = 0
  tc : ∀ v, τ v < c
  rr : ∀ v, ρ v ≤ r
/-- An arc is kept. -/
def Kept (now : List Int) (b : S72) : Prop := fn now b.f0.toNat + b.f2 ≤ fn now b.f1.toNat

theorem relaxL_gh (A : List S72) (hA : A.length ≤ 1000) (hok : ∀ b, b ∈ A → OkP 13 b) (r : Nat) : ∀ (rest pre : List S72) (now by_ : List Int) (ch C : Int) (ρ τ : Nat → Nat) (c : Nat) (z : List Int × List Int × Int), pre ++ rest = A → now.length = 13 → by_.length = 13 →
    (∀ v, 0 ≤ fn now v ∧ fn now v ≤ C) → C + 1000000 * (rest.length + 1 : Int) < 4611686018427387904 → (∀ x, x ∈ by_ → -1 ≤ x ∧ x < (A.length : Int)) →
    relaxL rest (pre.length : Int) now by_ ch = some z → Gh A now by_ ρ τ r c → (∀ b, b ∈ A → ρ b.f0.toNat + 1 < r → Kept now b) → (∀ b, b ∈ pre → ρ b.f0.toNat < r → Kept now b) → (ch < 0 ∨ ∃ v, v < 13 ∧ ρ v = r) →
    ∃ ρ' τ' c', Gh A z.1 z.2.1 ρ' τ' r c' ∧ (∀ b, b ∈ A → ρ' b.f0.toNat < r → Kept z.1 b) ∧ (z.2.2 < 0 ∨ ∃ v, v < 13 ∧ ρ' v = r) := by
  intro rest
  induction rest with
  | nil =>
    intro pre now by_ ch C ρ τ c z hp hn hb0 hb hC hnum hz hg h1 h2 h3
    simp only [relaxL, Option.some.injEq] at hz
    subst hz
    rw [List.append_nil] at hp
    subst hp
    exact ⟨ρ, τ, c, hg, h2, h3⟩
  | cons b t ih =>
    intro pre now by_ ch C ρ τ c z hp hn hb0 hb hC hnum hz hg h1 h2 h3
    have hbA : b ∈ A := by rw [← hp]; exact List.mem_append_right _ (List.mem_cons_self ..)
    obtain ⟨a0, a1, b0, b1, w0, w1⟩ := hok b hbA
    simp only [List.length_cons] at hC
    have hAx := hb b.f0.toNat
    have hBx := hb b.f1.toNat
    have hw : wrap64 (rd now b.f0 + b.f2) = fn now b.f0.toNat + b.f2 := by rw [rd_fn _ a0]; exact wrap_id (by omega)
    have hp' : (pre ++ [b]) ++ t = A := by rw [List.append_assoc]; exact hp
    have hlen : ((pre ++ [b]).length : Int) = (pre.length : Int) + 1 := by rw [List.length_append]; rfl
    unfold relaxL at hz
    rw [if_pos ⟨a0, a1, b0, b1⟩, hw, rd_fn _ b0] at hz
    by_cases hlt : fn now b.f1.toNat < fn now b.f0.toNat + b.f2
    · rw [if_pos hlt, ← hlen] at hz
      have hset := fn_set now b.f1.toNat (fn now b.f0.toNat + b.f2) (by omega)
      have hset2 := fn_set by_ b.f1.toNat (pre.length : Int) (by omega)
      have hplen : pre.length < A.length := by rw [← hp, List.length_append, List.length_cons]; omega
      have hprev : ∀ v : Nat, v < 13 → rd (by_.set b.f1.toNat (pre.length : Int)) (v : Int) = if v = b.f1.toNat then (pre.length : Int) else rd by_ (v : Int) := by
        intro v _
        rw [rd_nat, rd_nat]
        exact congrFun hset2 v
      have harc : arcOf A (by_.set b.f1.toNat (pre.length : Int)) b.f1.toNat = b := by
        unfold arcOf rd_T72
        rw [hprev _ (by omega), if_pos rfl, Int.toNat_natCast, List.getD_eq_getElem?_getD, ← hp]
        simp
      have harc2 : ∀ v : Nat, v < 13 → v ≠ b.f1.toNat → arcOf A (by_.set b.f1.toNat (pre.length : Int)) v = arcOf A by_ v := by
        intro v hv hne
        unfold arcOf
        rw [hprev v hv, if_neg hne]
      -- an arc that was kept, from a node that has been moved this round: not this one
      have hfrom : r ≤ ρ b.f0.toNat + 1 := by
        apply Classical.byContradiction
        intro h
        have := h1 b hbA (by omega)
        unfold Kept at this
        omega
      have hup : ∀ v, fn now v ≤ fn (now.set b.f1.toNat (fn now b.f0.toNat + b.f2)) v := by
        intro v
        rw [hset]; dsimp only; split
        · next e => rw [e]; omega
        · exact Int.le_refl _
      have hkeep : ∀ b', b'.f0.toNat ≠ b.f1.toNat → Kept now b' → Kept (now.set b.f1.toNat (fn now b.f0.toNat + b.f2)) b' := by
        intro b' hne hk
        unfold Kept at hk ⊢
        have := hup b'.f1.toNat
        have e : fn (now.set b.f1.toNat (fn now b.f0.toNat + b.f2)) b'.f0.toNat = fn now b'.f0.toNat := by rw [hset]; exact if_neg hne
        omega
      refine ih (pre ++ [b]) (now.set b.f1.toNat (fn now b.f0.toNat + b.f2)) (by_.set b.f1.toNat (pre.length : Int)) b.f1 (C + 1000000) (fun v => if v = b.f1.toNat then r else ρ v) (fun v => if v = b.f1.toNat then c else τ v) (c + 1) z hp' (by rw [List.length_set]; exact hn) (by rw [List.length_set]; exact hb0) ?_ (by omega) ?_ hz ?_ ?_ ?_ (.inr ⟨b.f1.toNat, by omega, if_pos rfl⟩)
      · intro v
        have := hb v
        rw [hset]; dsimp only; split <;> omega
      · intro x hx
        rcases List.mem_or_eq_of_mem_set hx with h | h
        · exact hnum x h
        · omega
      · refine ⟨?_, ?_, ?_, ?_⟩
        · intro v hv hpv
          by_cases e : v = b.f1.toNat
          · subst e
            have hnx : nx A (by_.set b.f1.toNat (pre.length : Int)) b.f1.toNat = b.f0.toNat := by unfold nx; rw [harc]
            rw [hnx, harc, hset]
            refine ⟨by omega, ?_, ?_, ?_⟩
            · dsimp only; rw [if_pos rfl]
              by_cases e2 : b.f0.toNat = b.f1.toNat
              · rw [if_pos e2]; rw [e2] at hlt ⊢; omega
              · rw [if_neg e2]; exact Int.le_refl _
            · dsimp only
              rw [if_pos rfl]
              intro ht
              by_cases e2 : b.f0.toNat = b.f1.toNat
              · rw [if_pos e2, if_pos rfl]; rw [e2] at hlt ⊢; omega
              · rw [if_neg e2] at ht; have := hg.tc b.f0.toNat; omega
            · rw [if_pos rfl]; split <;> omega
          · have hpv' : 0 ≤ rd by_ (v : Int) := by rwa [hprev v hv, if_neg e] at hpv
            obtain ⟨g1, g2, g3, g4⟩ := hg.pr v hv hpv'
            have hnx : nx A (by_.set b.f1.toNat (pre.length : Int)) v = nx A by_ v := by unfold nx; rw [harc2 v hv e]
            rw [hnx, harc2 v hv e, hset]
            refine ⟨g1, ?_, ?_, ?_⟩
            · dsimp only; rw [if_neg e]; split
              · next e2 => rw [e2] at g2; omega
              · exact g2
            · dsimp only; rw [if_neg e, if_neg e]
              intro ht
              split
              · next e2 => rw [e2] at g2; omega
              · next e2 => rw [if_neg e2] at ht; exact g3 ht
            · rw [if_neg e]; split
              · have := hg.rr v; omega
              · exact g4
        · intro v hv hpv
          by_cases e : v = b.f1.toNat
          · rw [hprev v hv, if_pos e] at hpv; omega
          · rw [hprev v hv, if_neg e] at hpv; rw [if_neg e]; exact hg.root v hv hpv
        · intro v; have := hg.tc v; split <;> omega
        · intro v; have := hg.rr v; split <;> omega
      · intro b' hb' hρ

        by_cases e : b'.f0.toNat = b.f1.toNat
        · rw [if_pos e] at hρ; omega
        · rw [if_neg e] at hρ; exact hkeep b' e (h1 b' hb' hρ)
      · intro b' hb' hρ

        by_cases e : b'.f0.toNat = b.f1.toNat
        · rw [if_pos e] at hρ; omega
        · rw [if_neg e] at hρ
          rcases List.mem_append.1 hb' with hb' | hb'
          · exact hkeep b' e (h2 b' hb' hρ)
          · obtain rfl : b' = b := by simpa using hb'
            unfold Kept
            rw [hset]
            dsimp only
            rw [if_neg e, if_pos rfl]; exact Int.le_refl _
    · rw [if_neg hlt, ← hlen] at hz
      refine ih (pre ++ [b]) now by_ ch C ρ τ c z hp' hn hb0 hb (by omega) hnum hz hg h1 ?_ h3
      intro b' hb' hρ
      rcases List.mem_append.1 hb' with hb' | hb'
      · exact h2 b' hb' hρ
      · obtain rfl : b' = b := by simpa using hb'
        unfold Kept; omega

theorem roundsL_gh (A : List S72) (hA : A.length ≤ 1000) (hok : ∀ b, b ∈ A → OkP 13 b) : ∀ (m : Nat) (now by_ : List Int) (C : Int) (ρ τ : Nat → Nat) (r c : Nat) (z : List Int × List Int × Bool), now.length = 13 → by_.length = 13 → (∀ v, 0 ≤ fn now v ∧ fn now v ≤ C) → C + 2000000000 * (m + 1 : Int) < 4611686018427387904 → (∀ x, x ∈ by_ → -1 ≤ x ∧ x < (A.length : Int)) →
    roundsL A m now by_ = some z → z.2.2 = false → Gh A now by_ ρ τ r c → (∀ b, b ∈ A → ρ b.f0.toNat < r → Kept now b) → (∃ v, v < 13 ∧ ρ v = r) →
    ∃ ρ' τ' c', Gh A z.1 z.2.1 ρ' τ' (r + m) c' ∧ ∃ v, v < 13 ∧ ρ' v = r + m := by
  intro m
  induction m with
  | zero =>
    intro now by_ C ρ τ r c z hn hb0 hb hC hnum hz hok' hg h1 h2
    simp only [roundsL, Option.some.injEq] at hz
    subst hz
    exact ⟨ρ, τ, c, hg, h2⟩
  | succ m ih =>
    intro now by_ C ρ τ r c z hn hb0 hb hC hnum hz hok' hg h1 h2
    obtain ⟨now', by', ch', e, k1, k2, k3, k4, k5, k6, k7⟩ := relaxL_spec A 0 now by_ (-1) C hok hn hb (by omega) (Int.le_refl _)
    have hg' : Gh A now by_ ρ τ (r + 1) c := ⟨hg.pr, hg.root, hg.tc, fun v => by have := hg.rr v; omega⟩
    obtain ⟨ρ', τ', c', g, q1, q2⟩ := relaxL_gh A hA hok (r + 1) A [] now by_ (-1) C ρ τ c _ rfl hn hb0 hb (by omega) hnum e hg' (fun b hb' hρ => h1 b hb' (by omega)) (fun b hb' => by cases hb') (.inl (by omega))
    unfold roundsL at hz
    rw [e, Option.bind_some] at hz
    dsimp only at hz q2 g q1
    by_cases hc : ch' < 0
    · rw [if_pos hc] at hz
      have := Option.some.inj hz
      subst this
      cases hok'
    · rw [if_neg hc] at hz
      have hv := q2.resolve_left hc
      obtain ⟨ρ2, τ2, c2, g2, v2⟩ := ih now' by' (C + 1000000 * (A.length : Int)) ρ' τ' (r + 1) c' z k1 (by rw [k6]; exact hb0) k3 (by omega) (fun x hx => by
        rcases k7 x hx with h | h
        · exact hnum x h
        · omega) hz hok' g q1 hv
      rw [show r + (m + 1) = r + 1 + m by omega]
      exact ⟨ρ2, τ2, c2, g2, v2⟩
/-! Chains. -/
def itn (A : List S72) (by_ : List Int) : Nat → Nat → Nat
  | 0, v => v
  | i + 1, v => itn A by_ i (nx A by_ v)
theorem itn_succ (A : List S72) (by_ : List Int) : ∀ i v, itn A by_ (i + 1) v = nx A by_ (itn A by_ i v) := by
  intro i
  induction i with
  | zero => intro v; rfl
  | succ i ih => intro v; exact ih (nx A by_ v)
theorem itn_add (A : List S72) (by_ : List Int) : ∀ a b v, itn A by_ (a + b) v = itn A by_ a (itn A by_ b v) := by
  intro a b
  induction b with
  | zero => intro v; rfl
  | succ b ih => intro v; exact ih (nx A by_ v)
theorem rooted_chain {A : List S72} {by_ : List Int} {v : Nat} (h : Rooted A by_ v) : ∃ k, (∀ i, i < k → 0 ≤ rd by_ (itn A by_ i v : Int)) ∧ rd by_ (itn A by_ k v : Int) < 0 := by
  induction h with
  | root h => exact ⟨0, fun i hi => absurd hi (Nat.not_lt_zero _), h⟩
  | step h _ ih =>
    obtain ⟨k, h1, h2⟩ := ih
    refine ⟨k + 1, fun i hi => ?_, h2⟩
    cases i with
    | zero => exact h
    | succ i => exact h1 i (by omega)
/-- After as many rounds as there are nodes, each with a change, not all chains end. -/
theorem not_rooted {A : List S72} {now by_ : List Int} {ρ τ : Nat → Nat} {R c N : Nat} (hp : Preds A by_) (hN : ∀ b, b ∈ A → OkP N b) (hN1 : N ≤ 13) (g : Gh A now by_ ρ τ R c) (hR : N ≤ R) (h1 : 1 ≤ R) {v : Nat} (hv : v < 13) (hρ : ρ v = R) : ¬ Rooted A by_ v := by
  intro h
  obtain ⟨k, k1, k2⟩ := rooted_chain h
  have hnext : ∀ u : Nat, u < 13 → 0 ≤ rd by_ (u : Int) → nx A by_ u < N := by
    intro u hu hpu
    have o := hN _ (arc_mem hp hu hpu)
    have o0 := o.a0
    have o1 := o.a1
    unfold nx; omega
  have hin : ∀ i, i ≤ k → itn A by_ i v < 13 := by
    intro i
    induction i with
    | zero => intro _; exact hv
    | succ i ih =>
      intro hi
      rw [itn_succ]
      have := hnext _ (ih (by omega)) (k1 i (by omega))
      omega
  have hdec : ∀ i, i ≤ k → R ≤ ρ (itn A by_ i v) + i := by
    intro i
    induction i with
    | zero => intro _; show R ≤ ρ v + 0; omega
    | succ i ih =>
      intro hi
      have h3 := (g.pr _ (hin i (by omega)) (k1 i (by omega))).2.2.2
      have h4 := ih (by omega)
      rw [itn_succ]; omega
  have hk : R ≤ k := by
    have h3 := hdec k (Nat.le_refl _)
    rw [g.root _ (hin k (Nat.le_refl _)) k2] at h3
    omega
  have h0 : v < N := by
    have hv0 := k1 0 (by omega)
    have h3 := (g.pr v hv hv0).1
    have o := hN _ (arc_mem hp hv hv0)
    have := o.b1
    omega
  have hlt : ∀ i, i ≤ k → itn A by_ i v < N := by
    intro i hi
    cases i with
    | zero => exact h0
    | succ i => rw [itn_succ]; exact hnext _ (hin i (by omega)) (k1 i (by omega))
  have hnd : ((List.range (k + 1)).map fun i => itn A by_ i v).Nodup := by
    show List.Pairwise _ _
    rw [List.pairwise_map]
    refine List.Pairwise.imp_of_mem ?_ List.pairwise_lt_range
    intro i j hi hj hij e
    have hj' := List.mem_range.1 hj
    have e2 : itn A by_ (k - j + i) v = itn A by_ k v := by
      rw [itn_add, e, ← itn_add, show k - j + j = k by omega]
    have := k1 (k - j + i) (by omega)
    rw [e2] at this
    omega
  have := nodup_len N _ hnd (fun x hx => by
    obtain ⟨i, hi, rfl⟩ := List.mem_map.1 hx
    exact hlt i (by have := List.mem_range.1 hi; omega))
  rw [List.length_map, List.length_range] at this
  omega

/-! Cycles. -/
def wsum (A : List S72) (by_ : List Int) : List Nat → Int
  | [] => 0
  | u :: r => (arcOf A by_ u).f2 + wsum A by_ r
theorem fw_sum {A : List S72} {now by_ : List Int} {ρ τ : Nat → Nat} {R c : Nat} (g : Gh A now by_ ρ τ R c) (e : Nat) : ∀ (r : List Nat) (u : Nat), Fw A by_ e (u :: r) → (∀ w, w ∈ u :: r → w < 13 ∧ 0 ≤ rd by_ (w : Int)) →
    fn now u ≤ fn now e + wsum A by_ (u :: r) ∧ (fn now u < fn now e + wsum A by_ (u :: r) ∨ τ e < τ u) := by
  intro r
  induction r with
  | nil =>
    intro u hf hp
    obtain ⟨h1, h2⟩ := hp u (List.mem_cons_self ..)
    obtain ⟨_, g2, g3, _⟩ := g.pr u h1 h2
    have hf' : nx A by_ u = e := hf
    rw [hf'] at g2 g3
    simp only [wsum]
    by_cases h : τ u ≤ τ e
    · have := g3 h; omega
    · omega
  | cons w r ih =>
    intro u hf hp
    obtain ⟨h1, h2⟩ := hp u (List.mem_cons_self ..)
    obtain ⟨_, g2, g3, _⟩ := g.pr u h1 h2
    obtain ⟨i1, i2⟩ := ih w hf.2 (fun x hx => hp x (List.mem_cons_of_mem _ hx))
    have hf' : nx A by_ u = w := hf.1
    rw [hf'] at g2 g3
    rw [wsum]
    by_cases h : τ u ≤ τ w
    · have := g3 h; omega
    · omega
theorem cyc_pos {A : List S72} {now by_ : List Int} {ρ τ : Nat → Nat} {R c : Nat} (g : Gh A now by_ ρ τ R c) {e : Nat} {r : List Nat} (h : Cyc A by_ e r) : 0 < wsum A by_ (e :: r) := by
  obtain ⟨h1, h2⟩ := fw_sum g e r e h.fw h.lt
  omega
theorem fw_tel {A : List S72} {by_ : List Int} (y : Nat → Int) (e : Nat) : ∀ (r : List Nat) (u : Nat), Fw A by_ e (u :: r) → ((u :: r).map fun w => y w - y (nx A by_ w)).sum = y u - y e := by
  intro r
  induction r with
  | nil => intro u hf; have hf' : nx A by_ u = e := hf; simp [hf']
  | cons w r ih =>
    intro u hf
    have hf' : nx A by_ u = w := hf.1
    rw [List.map_cons, List.sum_cons, ih w hf.2, hf']
    omega

/-! What a cycle of the plan's bounds says. -/
/-- The shift that begins at s covers h. -/
def cv (n t s h : Nat) : Int := if (h + n - s) % n < t then 1 else 0
def psum (l : List Int) : List Int → Int
  | [] => 0
  | h :: r => l.getD h.toNat 0 + psum l r
def csum (n t s : Nat) : List Int → Int
  | [] => 0
  | h :: r => cv n t s h.toNat + csum n t s r
/-- The plan with one who begins at s. -/
def step (s v : Nat) : Int := if s < v then 1 else 0
theorem cv_eq {n t s h : Nat} (hs : s < n) (hh : h < n) : cv n t s h = if s ≤ h then (if h - s < t then 1 else 0) else (if h + n - s < t then 1 else 0) := by
  unfold cv
  by_cases c : s ≤ h
  · rw [if_pos c, show h + n - s = (h - s) + n by omega, Nat.add_mod_right, Nat.mod_eq_of_lt (by omega)]
  · rw [if_neg c, Nat.mod_eq_of_lt (by omega)]
/-- An arc's hours, its need, how far it goes around. -/
structure Turn (l : List Int) (t : Nat) (T S : Int) (a : S72) (k : Int) : Prop where
  weight : a.f2 = T * psum l (if a.f3 ≥ 0 then [a.f3] else []) - S * k
  cover : ∀ s, s < l.length → csum l.length t s (if a.f3 ≥ 0 then [a.f3] else []) ≤ step s a.f1.toNat - step s a.f0.toNat + k
  small : k ≤ if a.f1.toNat < t then 1 else 0
  hour : a.f3 ≥ 0 → a.f3 < (l.length : Int)
theorem turn_of {l : List Int} {t : Nat} {T S : Int} (t1 : 1 ≤ t) (tn : t ≤ l.length) {a : S72} (ha : a ∈ arcsP l t T S []) : ∃ k, Turn l t T S a k := by
  unfold arcsP fixP at ha
  rw [List.append_nil] at ha
  rcases List.mem_append.1 ha with ha | ha
  · unfold startP at ha
    rcases List.mem_cons.1 ha with rfl | ha
    · refine ⟨-1, ?_, ?_, ?_, ?_⟩
      · simp [psum]
      · intro s hs; simp only [step]; rw [if_neg (show ¬ ((-1 : Int) ≥ 0) by decide), csum]; omega
      · dsimp only; split <;> omega
      · intro h; exact absurd h (show ¬ ((-1 : Int) ≥ 0) by decide)
    rcases List.mem_cons.1 ha with rfl | ha
    · refine ⟨1, ?_, ?_, ?_, ?_⟩
      · simp [psum]
      · intro s hs; simp only [step]; rw [if_neg (show ¬ ((-1 : Int) ≥ 0) by decide), csum]; omega
      · dsimp only; rw [if_pos (show (0 : Int).toNat < t by simp; omega)]; omega
      · intro h; exact absurd h (show ¬ ((-1 : Int) ≥ 0) by decide)
    cases ha
  · obtain ⟨h, hh, ha⟩ := List.mem_flatMap.1 ha
    have hh := List.mem_range.1 hh
    unfold hourP at ha
    rcases List.mem_cons.1 ha with rfl | ha
    · refine ⟨0, ?_, ?_, ?_, ?_⟩
      · simp [psum]
      · intro s hs; simp only [step]; rw [if_neg (show ¬ ((-1 : Int) ≥ 0) by decide), csum]; omega
      · dsimp only; split <;> omega
      · intro h; exact absurd h (show ¬ ((-1 : Int) ≥ 0) by decide)
    rcases List.mem_cons.1 ha with rfl | ha
    · unfold covP
      by_cases c : t ≤ h + 1
      · rw [if_pos c]
        refine ⟨0, ?_, ?_, ?_, ?_⟩
        · dsimp only; rw [if_pos (by omega)]; simp [psum, Int.mul_comm]
        · intro s hs
          dsimp only
          rw [if_pos (by omega), csum, csum, Int.toNat_natCast, cv_eq hs hh]
          unfold step
          rw [show ((h : Int) + 1).toNat = h + 1 by omega, show ((h : Int) + 1 - t).toNat = h + 1 - t by omega]
          repeat' split
          all_goals omega
        · dsimp only; split <;> omega
        · intro _; dsimp only; omega
      · rw [if_neg c]
        refine ⟨1, ?_, ?_, ?_, ?_⟩
        · dsimp only; rw [if_pos (by omega)]; simp [psum, Int.mul_comm]
        · intro s hs
          dsimp only
          rw [if_pos (by omega), csum, csum, Int.toNat_natCast, cv_eq hs hh]
          unfold step
          rw [show ((h : Int) + 1).toNat = h + 1 by omega, show ((l.length : Int) + ((h : Int) + 1 - t)).toNat = l.length + (h + 1) - t by omega]
          repeat' split
          all_goals omega
        · dsimp only; rw [if_pos (by omega)]; omega
        · intro _; dsimp only; omega
    cases ha
/-- A proof that there is no plan of size S for T times the needs. -/
structure Cert (l : List Int) (t : Nat) (T S : Int) (hs : List Int) (W : Int) : Prop where
  cover : ∀ s, s < l.length → csum l.length t s hs ≤ W
  over : 0 < T * psum l hs - S * W
  small : W ≤ t
  hour : ∀ h, h ∈ hs → 0 ≤ h ∧ h < (l.length : Int)
  len : hs.length ≤ 13
theorem hours_cons (A : List S72) (by_ : List Int) (u : Nat) (r : List Nat) : hours A by_ (u :: r) = (if (arcOf A by_ u).f3 ≥ 0 then [(arcOf A by_ u).f3] else []) ++ hours A by_ r := by
  unfold hours
  rw [List.map_cons, List.filter_cons]
  by_cases h : (arcOf A by_ u).f3 ≥ 0
  · simp only [h, decide_true, if_true]; rfl
  · simp only [h, decide_false, Bool.false_eq_true, if_false]; rfl
theorem psum_append (l : List Int) : ∀ a b, psum l (a ++ b) = psum l a + psum l b := by
  intro a b
  induction a with
  | nil => show psum l b = 0 + psum l b; omega
  | cons x a ih => show _ + psum l (a ++ b) = _ + psum l a + psum l b; omega
theorem csum_append (n t s : Nat) : ∀ a b, csum n t s (a ++ b) = csum n t s a + csum n t s b := by
  intro a b
  induction a with
  | nil => show csum n t s b = 0 + csum n t s b; omega
  | cons x a ih => show _ + csum n t s (a ++ b) = _ + csum n t s a + csum n t s b; omega
theorem cyc_turn {l : List Int} {t : Nat} {T S : Int} {A : List S72} {by_ : List Int} (t1 : 1 ≤ t) (tn : t ≤ l.length) (hA : A = arcsP l t T S []) : ∀ (L : List Nat), (∀ u, u ∈ L → arcOf A by_ u ∈ A ∧ (arcOf A by_ u).f1 = u) →
    ∃ W : Int, wsum A by_ L = T * psum l (hours A by_ L) - S * W ∧ (∀ s, s < l.length → csum l.length t s (hours A by_ L) ≤ (L.map fun w => step s w - step s (nx A by_ w)).sum + W) ∧ W ≤ ((L.filter fun u => decide (u < t)).length : Int) ∧ (∀ h, h ∈ hours A by_ L → 0 ≤ h ∧ h < (l.length : Int)) ∧ (hours A by_ L).length ≤ L.length := by
  intro L
  induction L with
  | nil => intro _; exact ⟨0, by simp [wsum, hours, psum], fun s hs => by simp [hours, csum], by simp, fun h hh => by simp [hours] at hh, by simp [hours]⟩
  | cons u r ih =>
    intro h
    obtain ⟨W, w1, w2, w3, w4, w5⟩ := ih (fun x hx => h x (List.mem_cons_of_mem _ hx))
    obtain ⟨hm, hf⟩ := h u (List.mem_cons_self ..)
    obtain ⟨k, hk⟩ := turn_of t1 tn (by rw [← hA]; exact hm)
    rw [hours_cons]
    refine ⟨k + W, ?_, ?_, ?_, ?_, ?_⟩
    · rw [wsum, psum_append, hk.weight, w1, Int.mul_add, Int.mul_add]; omega
    · intro s hs
      rw [csum_append, List.map_cons, List.sum_cons]
      have h1 := hk.cover s hs
      have h2 := w2 s hs
      rw [hf, Int.toNat_natCast] at h1
      have h3 : nx A by_ u = (arcOf A by_ u).f0.toNat := rfl
      rw [h3]; omega
    · have h1 := hk.small
      rw [hf, Int.toNat_natCast] at h1
      rw [List.filter_cons]
      by_cases c : u < t
      · rw [if_pos c] at h1
        simp only [c, decide_true, if_true, List.length_cons]; omega
      · rw [if_neg c] at h1
        simp only [c, decide_false, Bool.false_eq_true, if_false]; omega
    · intro x hx
      rcases List.mem_append.1 hx with hx | hx
      · split at hx
        · next h3 =>
          obtain rfl : x = (arcOf A by_ u).f3 := by simpa using hx
          exact ⟨h3, hk.hour h3⟩
        · cases hx
      · exact w4 x hx
    · rw [List.length_append, List.length_cons]
      split <;> simp <;> omega
/-- Where there is no plan, solve hands back a proof. -/
theorem solve_cert {l : List Int} {t : Nat} {T S : Int} (s : Small l t T S []) (hn : ¬ Can l t T S []) : ∃ z W, Ev (fun k => shift_clock_solve.f k l t (arcsP l t T S [])) z ∧ Cert l t T S (thr' z).1 W := by
  have hok := arcsP_ok s
  have hlen := arcsP_len l t T S []
  have h1 := s.len
  have h11 : ([] : List Int).length = 0 := rfl
  have hnum : ∀ x : Int, x ∈ List.replicate 13 (-1) → -1 ≤ x ∧ x < ((arcsP l t T S []).length : Int) := fun x hx => by
    have := (List.mem_replicate.1 hx).2; omega
  have hz0 : ∀ v, 0 ≤ fn (List.replicate 13 0) v ∧ fn (List.replicate 13 0) v ≤ 0 := fun v => by rw [fn_rep]; exact ⟨Int.le_refl _, Int.le_refl _⟩
  obtain ⟨now', by', ok, e, k1, k2, k3⟩ := roundsL_spec (arcsP l t T S []) hok (by omega) (2 * (l.length + 2)) (List.replicate 13 0) (List.replicate 13 (-1)) 0 (List.length_replicate ..) hz0 (by omega) hnum
  have ho : ok = false := by
    cases ok
    · rfl
    · obtain ⟨r, _, h⟩ := k1.1 rfl
      rw [fn_rep] at h
      exact absurd ⟨_, (arcsP_sat l t T S [] _ s.tn).1 h⟩ hn
  subst ho
  have hp : Preds (arcsP l t T S []) by' := ⟨by rw [k2]; exact List.length_replicate .., k3, hok⟩
  have g0 : Gh (arcsP l t T S []) (List.replicate 13 0) (List.replicate 13 (-1)) (fun _ => 0) (fun _ => 0) 0 1 := by
    refine ⟨fun v hv h => ?_, fun _ _ _ => rfl, fun _ => by omega, fun _ => Nat.le_refl _⟩
    rw [rd_nat] at h
    have := (List.mem_replicate.1 (getD_mem (l := List.replicate 13 (-1)) (i := v) (by rw [List.length_replicate]; exact hv))).2
    omega
  obtain ⟨ρ, τ, c, g, v, hv, hρ⟩ := roundsL_gh (arcsP l t T S []) (by omega) hok (2 * (l.length + 2)) (List.replicate 13 0) (List.replicate 13 (-1)) 0 (fun _ => 0) (fun _ => 0) 0 1 _ (List.length_replicate ..) (List.length_replicate ..) hz0 (by omega) hnum e rfl g0 (fun b _ h => absurd h (Nat.not_lt_zero _)) ⟨0, by omega, rfl⟩
  rw [Nat.zero_add] at g hρ
  have hnr := not_rooted (N := l.length + 1) hp (fun b hb => by have := arcsP_okN s b hb; rwa [← Int.natCast_one, ← Int.natCast_add] at this) (by omega) g (by omega) (by omega) hv hρ
  unfold shift_clock_solve.f
  rcases contra_f hp l t with ⟨cc, r, hc, h⟩ | ⟨hr, _⟩
  · obtain ⟨W, w1, w2, w3, w4, w5⟩ := cyc_turn (by_ := by') s.t1 s.tn rfl (cc :: r) (fun u hu => by
      obtain ⟨q1, q2⟩ := hc.lt u hu
      exact ⟨arc_mem hp q1 q2, (g.pr u q1 q2).1⟩)
    refine ⟨_, W, ev_pos (by omega) (Ev.congr (fun k => by rw [e, Option.bind_some]; exact if_neg Bool.false_ne_true) (Ev.bind h (Ev.now _))), ?_⟩
    show Cert l t T S (hours (arcsP l t T S []) by' (cc :: r)) W
    refine ⟨?_, ?_, ?_, w4, ?_⟩
    · intro s' hs'
      have h2 := w2 s' hs'
      rw [fw_tel (step s') cc r cc hc.fw] at h2
      omega
    · have := cyc_pos g hc
      rw [w1] at this; exact this
    · have h2 := nodup_len t ((cc :: r).filter fun u => decide (u < t)) (hc.nodup.filter _) (fun x hx => of_decide_eq_true (List.mem_filter.1 hx).2)
      omega
    · have h2 := nodup_len 13 (cc :: r) hc.nodup (fun x hx => (hc.lt x hx).1)
      omega
  · exact absurd (hr v hv) hnr

end Go.Proofs.Ytfopdfolbdmnjaa.Pure
