/- The document's whole numbers of any size: products and differences. Conditions: digits, lists of at most 100 of them. -/
import Derived.Test.YtgobffgogmnmpaaDoorPx35
import Derived.Test.YtgobffgogmnmpaaDoorPx36
import Derived.Test.YtgobffgogmnmpaaDoorBig
namespace Go.Proofs.YtgobffgogmnmpaaDoor.Pure
open Go.RowKit Go.Proofs.YtgobffgogmnmpaaDoor.P Go.Proofs.YtgobffgogmnmpaaDoorW.PrintWords Go.Proofs.YtgobffgogmnmpaaDoorW.PrintLast Go.Proofs.YtgobffgogmnmpaaDoorW.PrintMore

theorem mulD_l1 {a b : List Int} (hla : a.length ≤ 100) (hlb : b.length ≤ 100) (ha : Dg a) (hb : Dg b) {i : Nat} (hi : i < a.length) {R : List Int → Prop}
    (next : ∀ o : List Int, o.length = a.length + b.length → Dg o → vl o = vl (a.take (i + 1)) * vl b → (∀ j, i + 1 + b.length ≤ j → o.getD j 0 = 0) → ∃ r, Ev (fun k => trishawref01_mulD.l0 k a b o ((i + 1 : Nat) : Int)) r ∧ R r) :
    ∀ (d t : Nat) (o : List Int) (c : Int), t + d = b.length → o.length = a.length + b.length → Dg o → 0 ≤ c → c < 10000 → vl o + c * bp (i + t) = vl (a.take i) * vl b + a.getD i 0 * (bp i * vl (b.take t)) → (∀ j, i + b.length ≤ j → o.getD j 0 = 0) →
      ∃ r, Ev (fun k => trishawref01_mulD.l1 k a b o i c t) r ∧ R r := by
  intro d
  have hai := ha.at_ hi
  induction d with
  | zero =>
    intro t o c ht hol ho c0 c1 hv hz
    obtain rfl : t = b.length := by omega
    obtain ⟨r, e, hr⟩ := next (o.set (i + b.length) c) (by rw [List.length_set]; exact hol) (ho.set _ c0 c1) (by
      rw [vl_set c (by omega), hz _ (Nat.le_refl _), vl_take hi]
      rw [List.take_length] at hv
      grind) (fun j hj => by
        rw [getD_set (by omega), if_neg (by omega)]
        exact hz j (by omega))
    refine ⟨r, Ev.step (fun k => by rw [trishawref01_mulD.l1]) (ev_neg (by omega) ?_), hr⟩
    rw [wrap_id (n := (i : Int) + (b.length : Int)) (by omega), wrap_id (n := (i : Int) + 1) (by omega), show ((i : Int) + (b.length : Int)).toNat = i + b.length by omega]
    exact ev_pos (by omega) (ev_pos (by omega) e)
  | succ d ih =>
    intro t o c ht hol ho c0 c1 hv hz
    have hbt := hb.at_ (show t < b.length by omega)
    have hot := ho.at_ (show i + t < o.length by omega)
    have hm : 0 ≤ a.getD i 0 * b.getD t 0 ∧ a.getD i 0 * b.getD t 0 ≤ 9999 * 9999 := mul_bd hai.1 (by omega) hbt.1 (by omega)
    have hs0 : 0 ≤ o.getD (i + t) 0 + a.getD i 0 * b.getD t 0 + c := by omega
    have hs1 : o.getD (i + t) 0 + a.getD i 0 * b.getD t 0 + c < 100000000 := by omega
    obtain ⟨r, e, hr⟩ := ih (t + 1) (o.set (i + t) ((o.getD (i + t) 0 + a.getD i 0 * b.getD t 0 + c) % 10000)) ((o.getD (i + t) 0 + a.getD i 0 * b.getD t 0 + c) / 10000) (by omega) (by rw [List.length_set]; exact hol) (ho.set _ (by omega) (by omega)) (by omega) (by omega) (by
      rw [vl_set _ (by omega), vl_take (show t < b.length by omega)]
      have e1 : bp (i + (t + 1)) = 10000 * bp (i + t) := rfl
      have e2 : bp (i + t) = bp i * bp t := bp_add i t
      have e3 : (o.getD (i + t) 0 + a.getD i 0 * b.getD t 0 + c) % 10000 + 10000 * ((o.getD (i + t) 0 + a.getD i 0 * b.getD t 0 + c) / 10000) = o.getD (i + t) 0 + a.getD i 0 * b.getD t 0 + c := by omega
      generalize (o.getD (i + t) 0 + a.getD i 0 * b.getD t 0 + c) % 10000 = u at *
      generalize (o.getD (i + t) 0 + a.getD i 0 * b.getD t 0 + c) / 10000 = v at *
      rw [e1]
      rw [e2] at hv ⊢
      have e4 : (u + 10000 * v) * (bp i * bp t) = (o.getD (i + t) 0 + a.getD i 0 * b.getD t 0 + c) * (bp i * bp t) := by rw [e3]
      grind) (fun j hj => by rw [getD_set (by omega), if_neg (by omega)]; exact hz j hj)
    refine ⟨r, Ev.step (fun k => by rw [trishawref01_mulD.l1]) (ev_pos (by omega) ?_), hr⟩
    rw [wrap_id (n := (i : Int) + (t : Int)) (by omega), show (i : Int) + (t : Int) = ((i + t : Nat) : Int) by omega, rd_nat, rd_nat, rd_nat, wrap_id (n := a.getD i 0 * b.getD t 0) (by omega), wrap_id (n := o.getD (i + t) 0 + a.getD i 0 * b.getD t 0) (by omega), wrap_id (n := o.getD (i + t) 0 + a.getD i 0 * b.getD t 0 + c) (by omega), wrap_id (n := (t : Int) + 1) (by omega), Int.tmod_eq_emod_of_nonneg hs0, Int.tdiv_eq_ediv_of_nonneg hs0, wrap_id (n := (o.getD (i + t) 0 + a.getD i 0 * b.getD t 0 + c) / 10000) (by omega), Int.toNat_natCast]
    exact ev_pos (by omega) (ev_pos (by omega) (ev_pos (by omega) (ev_pos (by omega) (ev_pos (by omega) e))))
theorem mulD_l0 {a b : List Int} (hla : a.length ≤ 100) (hlb : b.length ≤ 100) (ha : Dg a) (hb : Dg b) : ∀ (d i : Nat) (o : List Int), i + d = a.length → o.length = a.length + b.length → Dg o → vl o = vl (a.take i) * vl b → (∀ j, i + b.length ≤ j → o.getD j 0 = 0) →
    ∃ r, Ev (fun k => trishawref01_mulD.l0 k a b o i) r ∧ (Is r (vl a * vl b) ∧ r.length ≤ a.length + b.length) := by
  intro d
  induction d with
  | zero =>
    intro i o hi hol ho hv hz
    obtain rfl : i = a.length := by omega
    obtain ⟨r, e, hr, hl⟩ := trim_f (by omega) ho
    rw [hv, List.take_length] at hr
    exact ⟨r, Ev.step (fun k => by rw [trishawref01_mulD.l0]) (ev_neg (by omega) (Ev.bind e (Ev.now _))), hr, by omega⟩
  | succ d ih =>
    intro i o hi hol ho hv hz
    obtain ⟨r, e, hr⟩ := mulD_l1 hla hlb ha hb (show i < a.length by omega) (R := fun r => Is r (vl a * vl b) ∧ r.length ≤ a.length + b.length) (fun o' h1 h2 h3 h4 => ih (i + 1) o' (by omega) h1 h2 h3 h4) b.length 0 o 0 (by omega) hol ho (by omega) (by omega) (by
      rw [hv]; show _ + 0 * _ = _ + _ * (_ * 0); grind) hz
    refine ⟨r, Ev.step (fun k => by rw [trishawref01_mulD.l0]) (ev_pos (by omega) ?_), hr⟩
    exact e
theorem mulD_f {a b : List Int} (hla : a.length ≤ 100) (hlb : b.length ≤ 100) (ha : Dg a) (hb : Dg b) : ∃ r, Ev (fun k => trishawref01_mulD.f k a b) r ∧ Is r (vl a * vl b) ∧ r.length ≤ a.length + b.length := by
  obtain ⟨r, e, hr⟩ := mulD_l0 hla hlb ha hb a.length 0 (List.replicate (a.length + b.length) 0) (by omega) (by simp) (Dg.zeros _) (by rw [vl_zeros]; show (0 : Int) = 0 * _; omega) (fun j _ => getD_replicate)
  refine ⟨r, ?_, hr⟩
  unfold trishawref01_mulD.f
  rw [wrap_id (n := (a.length : Int) + (b.length : Int)) (by omega), show ((a.length : Int) + (b.length : Int)).toNat = a.length + b.length by omega]
  exact ev_pos (by omega) (ev_pos (by omega) e)
/-- cmpD. -/
theorem cmpD_l0 {a b : List Int} (hl : a.length = b.length) (hla : a.length ≤ 100) (ha : Dg a) (hb : Dg b) : ∀ n, n ≤ a.length → vl a - vl b = vl (a.take n) - vl (b.take n) →
    ∃ c, Ev (fun k => trishawref01_cmpD.l0 k a b ((n : Int) - 1)) c ∧ (c > 0 ↔ vl b < vl a) := by
  intro n
  induction n with
  | zero =>
    intro _ hv
    refine ⟨0, Ev.step (fun k => by rw [trishawref01_cmpD.l0]) (ev_neg (by omega) (Ev.now _)), ?_⟩
    have e1 : vl (a.take 0) = 0 := rfl
    have e2 : vl (b.take 0) = 0 := rfl
    omega
  | succ n ih =>
    intro hn hv
    have ea := vl_take (a := a) (n := n) (by omega)
    have eb := vl_take (a := b) (n := n) (by omega)
    have a1 := vl_nonneg (ha.take n)
    have b1 := vl_nonneg (hb.take n)
    have a2 := vl_lt (ha.take n)
    have b2 := vl_lt (hb.take n)
    rw [List.length_take, Nat.min_eq_left (by omega)] at a2 b2
    have hp := bp_pos n
    have go : ∀ c, Ev (fun k => if a.getD n 0 < b.getD n 0 then some (-1) else (if a.getD n 0 > b.getD n 0 then some 1 else trishawref01_cmpD.l0 k a b ((n : Int) - 1))) c → Ev (fun k => trishawref01_cmpD.l0 k a b (((n + 1 : Nat) : Int) - 1)) c := by
      intro c h
      refine Ev.step (fun k => by rw [trishawref01_cmpD.l0]) (ev_pos (by omega) (ev_pos (by omega) (ev_pos (by omega) (ev_pos (by omega) ?_))))
      rw [show ((n + 1 : Nat) : Int) - 1 = (n : Int) by omega, rd_nat, rd_nat, wrap_id (n := (n : Int) - 1) (by omega)]
      exact h
    by_cases c1 : a.getD n 0 < b.getD n 0
    · refine ⟨-1, go _ (ev_pos c1 (Ev.now _)), ⟨fun h => by omega, fun h => ?_⟩⟩
      exfalso
      have h5 : bp n * (a.getD n 0 + 1) ≤ bp n * b.getD n 0 := Int.mul_le_mul_of_nonneg_left (by omega) (by omega)
      rw [Int.mul_add] at h5
      omega
    · by_cases c2 : a.getD n 0 > b.getD n 0
      · refine ⟨1, go _ (ev_neg c1 (ev_pos c2 (Ev.now _))), ⟨fun _ => ?_, fun _ => by omega⟩⟩
        have h5 : bp n * (b.getD n 0 + 1) ≤ bp n * a.getD n 0 := Int.mul_le_mul_of_nonneg_left (by omega) (by omega)
        rw [Int.mul_add] at h5
        omega
      · have e : a.getD n 0 = b.getD n 0 := by omega
        obtain ⟨c, h, hc⟩ := ih (by omega) (by rw [hv, ea, eb, e]; omega)
        exact ⟨c, go _ (ev_neg c1 (ev_neg c2 h)), hc⟩
theorem cmpD_f {a b : List Int} {m n : Int} (hla : a.length ≤ 100) (ha : Is a m) (hb : Is b n) : ∃ c, Ev (fun k => trishawref01_cmpD.f k a b) c ∧ (c > 0 ↔ n < m) := by
  unfold trishawref01_cmpD.f
  by_cases c1 : a.length < b.length
  · refine ⟨-1, ev_pos (by omega) (Ev.now _), ⟨fun h => by omega, fun h => ?_⟩⟩
    exfalso
    have := hb.nm.len_le hb.dg ha.dg (by rw [ha.vl, hb.vl]; omega)
    omega
  · by_cases c2 : a.length > b.length
    · refine ⟨1, ev_neg (by omega) (ev_pos (by omega) (Ev.now _)), ⟨fun _ => ?_, fun _ => by omega⟩⟩
      by_cases h : n < m
      · exact h
      · have := ha.nm.len_le ha.dg hb.dg (by rw [ha.vl, hb.vl]; omega)
        omega
    · obtain ⟨c, h, hc⟩ := cmpD_l0 (show a.length = b.length by omega) hla ha.dg hb.dg a.length (Nat.le_refl _) (by rw [List.take_length, show a.length = b.length by omega, List.take_length])
      rw [ha.vl, hb.vl] at hc
      refine ⟨c, ev_neg (by omega) (ev_neg (by omega) ?_), hc⟩
      rw [wrap_id (n := (a.length : Int) - 1) (by omega)]
      exact h
/-- subD. -/
theorem subD_l0 {a b : List Int} (hla : a.length ≤ 200) (hlb : b.length ≤ a.length) (ha : Dg a) (hb : Dg b) (hle : vl b ≤ vl a) : ∀ (d i : Nat) (o : List Int) (w : Int), i + d = a.length → o.length = i → Dg o → (w = 0 ∨ w = 1) → vl o - w * bp i = vl (a.take i) - vl (b.take i) →
    ∃ r, Ev (fun k => trishawref01_subD.l0 k a b o w i) r ∧ Is r (vl a - vl b) ∧ r.length ≤ a.length := by
  intro d
  induction d with
  | zero =>
    intro i o w hi hol ho hw hv
    obtain rfl : i = a.length := by omega
    rw [List.take_length, List.take_of_length_le hlb] at hv
    have h1 := vl_lt ho
    have h2 := vl_nonneg ho
    rw [hol] at h1
    have hv' : vl o = vl a - vl b := by
      rcases hw with rfl | rfl
      · omega
      · omega
    obtain ⟨r, e, hr, hl⟩ := trim_f (by omega) ho
    rw [hv'] at hr
    exact ⟨r, Ev.step (fun k => by rw [trishawref01_subD.l0]) (ev_neg (by omega) (Ev.bind e (Ev.now _))), hr, by omega⟩
  | succ d ih =>
    intro i o w hi hol ho hw hv
    have hai := ha.at_ (show i < a.length by omega)
    have ea := vl_take (a := a) (n := i) (by omega)
    have hp := bp_pos i
    have e1 : bp (i + 1) = 10000 * bp i := rfl
    have go : ∀ y : Int, 0 ≤ y ∧ y < 10000 → vl (b.take (i + 1)) = vl (b.take i) + bp i * y → (∀ r, Ev (fun k => if a.getD i 0 - w - y < 0 then (if o.length < 17592186044416 then trishawref01_subD.l0 k a b (o ++ [a.getD i 0 - w - y + 10000]) 1 ((i + 1 : Nat) : Int) else none) else (if o.length < 17592186044416 then trishawref01_subD.l0 k a b (o ++ [a.getD i 0 - w - y]) 0 ((i + 1 : Nat) : Int) else none)) r → Ev (fun k => trishawref01_subD.l0 k a b o w i) r) → ∃ r, Ev (fun k => trishawref01_subD.l0 k a b o w i) r ∧ Is r (vl a - vl b) ∧ r.length ≤ a.length := by
      intro y hy eb h
      by_cases c : a.getD i 0 - w - y < 0
      · obtain ⟨r, e, hr⟩ := ih (i + 1) (o ++ [a.getD i 0 - w - y + 10000]) 1 (by omega) (by rw [List.length_append, List.length_singleton, hol]) (ho.app (Dg.one (by omega) (by omega))) (.inr rfl) (by
          rw [vl_snoc, hol, ea, eb, e1]; grind)
        exact ⟨r, h r (ev_pos c (ev_pos (by omega) e)), hr⟩
      · obtain ⟨r, e, hr⟩ := ih (i + 1) (o ++ [a.getD i 0 - w - y]) 0 (by omega) (by rw [List.length_append, List.length_singleton, hol]) (ho.app (Dg.one (by omega) (by omega))) (.inl rfl) (by
          rw [vl_snoc, hol, ea, eb, e1]; grind)
        exact ⟨r, h r (ev_neg c (ev_pos (by omega) e)), hr⟩
    by_cases c : i < b.length
    · have hbi := hb.at_ c
      refine go (b.getD i 0) hbi (vl_take c) fun r hr => ?_
      refine Ev.step (fun k => by rw [trishawref01_subD.l0]) (ev_pos (by omega) (ev_pos (by omega) (ev_pos (by omega) ?_)))
      rw [rd_nat, rd_nat, wrap_id (n := a.getD i 0 - w) (by omega), wrap_id (n := a.getD i 0 - w - b.getD i 0) (by omega), wrap_id (n := a.getD i 0 - w - b.getD i 0 + 10000) (by omega), wrap_id (n := (i : Int) + 1) (by omega)]
      exact hr
    · refine go 0 (by omega) (by rw [List.take_of_length_le (by omega), List.take_of_length_le (by omega)]; omega) fun r hr => ?_
      refine Ev.step (fun k => by rw [trishawref01_subD.l0]) (ev_pos (by omega) (ev_pos (by omega) (ev_neg (by omega) ?_)))
      rw [rd_nat, wrap_id (n := a.getD i 0 - w) (by omega), wrap_id (n := a.getD i 0 - w + 10000) (by omega), wrap_id (n := (i : Int) + 1) (by omega)]
      rw [Int.sub_zero] at hr
      exact hr
theorem subD_f {a b : List Int} (hla : a.length ≤ 200) (ha : Dg a) (hb : Dg b) (hn : Nm b) (hle : vl b ≤ vl a) : ∃ r, Ev (fun k => trishawref01_subD.f k a b) r ∧ Is r (vl a - vl b) ∧ r.length ≤ a.length := by
  unfold trishawref01_subD.f
  exact subD_l0 hla (hn.len_le hb ha hle) ha hb hle a.length 0 [] 0 (by omega) rfl Dg.nil (.inl rfl) (by show 0 - 0 * _ = 0 - 0; omega)
end Go.Proofs.YtgobffgogmnmpaaDoor.Pure
