/- The document's whole numbers of any size: quotients, and a number as an int. Conditions: digits, lists of at most 40 of them. -/
import Derived.Test.YtgobffgogmnmpaaDoorPx35
import Derived.Test.YtgobffgogmnmpaaDoorPx36
import Derived.Test.YtgobffgogmnmpaaDoorPx38
import Derived.Test.YtgobffgogmnmpaaDoorBim
namespace Go.Proofs.YtgobffgogmnmpaaDoor.Pure
open Go.RowKit Go.Proofs.YtgobffgogmnmpaaDoor.P Go.Proofs.YtgobffgogmnmpaaDoorW.PrintWords Go.Proofs.YtgobffgogmnmpaaDoorW.PrintLast Go.Proofs.YtgobffgogmnmpaaDoorW.PrintMore

theorem one_f {x : Int} (h0 : 0 ≤ x) (h1 : x < 10000) : ∃ r, Ev (fun k => trishawref01_trim.f k [x]) r ∧ Is r x ∧ r.length ≤ 1 := by
  obtain ⟨r, e, hr, hl⟩ := trim_f (a := [x]) (by simp) (Dg.one h0 h1)
  have e2 : vl [x] = x := by show x + 10000 * 0 = x; omega
  rw [e2] at hr
  exact ⟨r, e, hr, by simpa using hl⟩
/-- The search of one digit of a quotient. -/
theorem divD_l1 {a b : List Int} {y : Int} (hb : Is b y) (hlb : b.length ≤ 40) {q m : List Int} {u : Int} (hm : Is m u) (hlm : m.length ≤ 60) {i : Nat} (hi : i < q.length) (hlq : q.length ≤ 60) {R : List Int × List Int → Prop}
    (next : ∀ v : Int, 0 ≤ v → v < 10000 → y * v ≤ u → u < y * (v + 1) → ∀ r, Is r (u - y * v) → r.length ≤ m.length → ∃ z, Ev (fun k => trishawref01_divD.l0 k a b (q.set i v) r ((i : Int) - 1)) z ∧ R z) :
    ∀ (d : Nat) (lo hi : Int), (hi - lo).toNat ≤ d → 0 ≤ lo → lo ≤ hi → hi ≤ 9999 → y * lo ≤ u → u < y * (hi + 1) → ∃ z, Ev (fun k => trishawref01_divD.l1 k a b q m i lo hi) z ∧ R z := by
  have stop : ∀ lo : Int, 0 ≤ lo → lo ≤ 9999 → y * lo ≤ u → u < y * (lo + 1) → ∃ z, Ev (fun k => trishawref01_divD.l1 k a b q m i lo lo) z ∧ R z := by
    intro lo h0 h1 h2 h3
    obtain ⟨r1, e1, i1, l1⟩ := one_f h0 (by omega)
    obtain ⟨r2, e2, i2, l2⟩ := mulD_f (by omega) (by omega) hb.dg i1.dg
    rw [hb.vl, i1.vl] at i2
    obtain ⟨r3, e3, i3, l3⟩ := subD_f (by omega) hm.dg i2.dg i2.nm (by rw [i2.vl, hm.vl]; exact h2)
    rw [hm.vl, i2.vl] at i3
    obtain ⟨z, e, hz⟩ := next lo h0 (by omega) h2 h3 r3 i3 l3
    refine ⟨z, Ev.step (fun k => by rw [trishawref01_divD.l1]) (ev_neg (by omega) (ev_pos (by omega) (ev_pos (by omega) ?_))), hz⟩
    rw [Int.toNat_natCast, wrap_id (n := (i : Int) - 1) (by omega)]
    exact Ev.bind e1 (Ev.bind e2 (Ev.bind e3 e))
  intro d
  induction d with
  | zero =>
    intro lo hi hd h0 h1 h2 h3 h4
    obtain rfl : hi = lo := by omega
    exact stop hi h0 h2 h3 h4
  | succ d ih =>
    intro lo hi hd h0 h1 h2 h3 h4
    by_cases c : lo < hi
    · obtain ⟨r1, e1, i1, l1⟩ := one_f (x := (lo + hi + 1) / 2) (by omega) (by omega)
      obtain ⟨r2, e2, i2, l2⟩ := mulD_f (by omega) (by omega) hb.dg i1.dg
      rw [hb.vl, i1.vl] at i2
      obtain ⟨s, e3, hs⟩ := cmpD_f (by omega) i2 hm
      have hg : ∀ z, Ev (fun k => if s ≤ 0 then trishawref01_divD.l1 k a b q m i ((lo + hi + 1) / 2) hi else trishawref01_divD.l1 k a b q m i lo ((lo + hi + 1) / 2 - 1)) z → Ev (fun k => trishawref01_divD.l1 k a b q m i lo hi) z := by
        intro z hz
        refine Ev.step (fun k => by rw [trishawref01_divD.l1]) (ev_pos c ?_)
        rw [wrap_id (n := lo + hi) (by omega), wrap_id (n := lo + hi + 1) (by omega), Int.tdiv_eq_ediv_of_nonneg (by omega), wrap_id (n := (lo + hi + 1) / 2) (by omega), wrap_id (n := (lo + hi + 1) / 2 - 1) (by omega)]
        exact Ev.bind e1 (Ev.bind e2 (Ev.bind e3 hz))
      by_cases c2 : s ≤ 0
      · obtain ⟨z, e, hz⟩ := ih ((lo + hi + 1) / 2) hi (by omega) (by omega) (by omega) h2 (by
          by_cases h : u < y * ((lo + hi + 1) / 2)
          · have := hs.2 h; omega
          · omega) h4
        exact ⟨z, hg z (ev_pos c2 e), hz⟩
      · obtain ⟨z, e, hz⟩ := ih lo ((lo + hi + 1) / 2 - 1) (by omega) h0 (by omega) (by omega) h3 (by
          have := hs.1 (by omega)
          rw [show (lo + hi + 1) / 2 - 1 + 1 = (lo + hi + 1) / 2 by omega]
          exact this)
        exact ⟨z, hg z (ev_neg c2 e), hz⟩
    · obtain rfl : hi = lo := by omega
      exact stop hi h0 h2 h3 h4
theorem divD_l0 {a b : List Int} {y : Int} (ha : Dg a) (hla : a.length ≤ 40) (hb : Is b y) (hlb : b.length ≤ 40) : ∀ (n : Nat) (q m : List Int) (u : Int), n ≤ a.length → q.length = a.length → Dg q → Is m u → m.length + n ≤ 50 → 0 ≤ u → u < y → vl (a.drop n) = y * vl (q.drop n) + u → (∀ j, j < n → q.getD j 0 = 0) →
    ∃ z : List Int × List Int, Ev (fun k => trishawref01_divD.l0 k a b q m ((n : Int) - 1)) z ∧ (∃ r v, Is z.1 v ∧ Is z.2 r ∧ 0 ≤ r ∧ r < y ∧ vl a = y * v + r ∧ z.1.length ≤ 40 ∧ z.2.length ≤ 60) := by
  intro n
  induction n with
  | zero =>
    intro q m u _ hql hq hm hlm u0 u1 hv _
    obtain ⟨r, e, hr, hl⟩ := trim_f (by omega) hq
    refine ⟨(r, m), Ev.step (fun k => by rw [trishawref01_divD.l0]) (ev_neg (by omega) (Ev.bind e (Ev.now _))), u, vl q, hr, hm, u0, u1, hv, by show r.length ≤ 40; omega, by show m.length ≤ 60; omega⟩
  | succ n ih =>
    intro q m u hn hql hq hm hlm u0 u1 hv hz
    have hai := ha.at_ (show n < a.length by omega)
    obtain ⟨r, e, hr, hl⟩ := trim_f (a := [a.getD n 0] ++ m) (by rw [List.length_append, List.length_singleton]; omega) ((Dg.one hai.1 hai.2).app hm.dg)
    have e2 : vl ([a.getD n 0] ++ m) = a.getD n 0 + 10000 * u := by show a.getD n 0 + 10000 * vl m = _; rw [hm.vl]
    rw [e2] at hr
    rw [List.length_append, List.length_singleton] at hl
    have hyy : y * (9999 + 1) = 10000 * y := by omega
    obtain ⟨z, e3, hz3⟩ := divD_l1 (a := a) hb hlb hr (by omega) (q := q) (i := n) (by omega) (by omega) (R := fun z => ∃ r v, Is z.1 v ∧ Is z.2 r ∧ 0 ≤ r ∧ r < y ∧ vl a = y * v + r ∧ z.1.length ≤ 40 ∧ z.2.length ≤ 60) (fun v v0 v1 h1 h2 r3 hr3 hl3 => by
      refine ih (q.set n v) r3 _ (by omega) (by rw [List.length_set]; exact hql) (hq.set _ v0 v1) hr3 ?_ (by omega) (by rw [Int.mul_add] at h2; omega) ?_ (fun j hj => by rw [getD_set (by omega), if_neg (by omega)]; exact hz j (by omega))
      · omega
      · rw [vl_drop (show n < a.length by omega), hv, vl_drop (show n < (q.set n v).length by rw [List.length_set]; omega), getD_set (by omega), if_pos rfl, List.drop_set_of_lt (by omega)]
        grind) (9999 - 0 : Int).toNat 0 9999 (by omega) (by omega) (by omega) (by omega) (by omega) (by omega)
    refine ⟨z, Ev.step (fun k => by rw [trishawref01_divD.l0]) (ev_pos (by omega) (ev_pos (by omega) (ev_pos (by omega) ?_))), hz3⟩
    rw [show ((n + 1 : Nat) : Int) - 1 = (n : Int) by omega, rd_nat]
    exact Ev.bind (Ev.now _) (ev_pos (by simp only [List.length_singleton]; omega) (Ev.bind e e3))
theorem divD_f {a b : List Int} {y : Int} (hy : 0 < y) (ha : Dg a) (hla : a.length ≤ 40) (hb : Is b y) (hlb : b.length ≤ 40) :
    ∃ z : List Int × List Int, Ev (fun k => trishawref01_divD.f k a b) z ∧ (∃ r v, Is z.1 v ∧ Is z.2 r ∧ 0 ≤ r ∧ r < y ∧ vl a = y * v + r ∧ z.1.length ≤ 40 ∧ z.2.length ≤ 60) := by
  obtain ⟨z, e, hz⟩ := divD_l0 ha hla hb hlb a.length (List.replicate a.length 0) [] 0 (Nat.le_refl _) (by simp) (Dg.zeros _) ⟨Dg.nil, Nm.nil, rfl⟩ (by simp only [List.length_nil]; omega) (by omega) hy (by
    rw [List.drop_eq_nil_of_le (by simp), List.drop_eq_nil_of_le (by simp)]; show (0 : Int) = y * 0 + 0; omega) (fun j _ => getD_replicate)
  refine ⟨z, ?_, hz⟩
  unfold trishawref01_divD.f
  have hb0 : ¬ (b.length : Int) = 0 := fun h => by
    have h1 : b = [] := List.eq_nil_of_length_eq_zero (by omega)
    have h2 := hb.vl
    rw [h1] at h2
    have h3 : vl [] = 0 := rfl
    omega
  refine ev_neg hb0 (ev_pos (by omega) (ev_pos (by rw [Int.toNat_natCast]; omega) ?_))
  rw [Int.toNat_natCast, wrap_id (n := (a.length : Int) - 1) (by omega)]
  exact e
/-- Within. -/
theorem Within_l0 {a : List Int} (ha : Dg a) (hla : a.length ≤ 40) (hv : vl a ≤ 1000000000000) : ∀ (n : Nat) (x : Int), n ≤ a.length → x = vl (a.drop n) → Ev (fun k => trishawref01_Within.l0 k x ((n : Int) - 1) false a) (vl a, true) := by
  intro n
  induction n with
  | zero =>
    intro x _ hx
    refine Ev.step (fun k => by rw [trishawref01_Within.l0]) (ev_neg (by omega) (ev_neg Bool.false_ne_true ?_))
    rw [hx]
    exact Ev.now _
  | succ n ih =>
    intro x hn hx
    have hai := ha.at_ (show n < a.length by omega)
    have h1 := vl_drop (a := a) (n := n) (by omega)
    have h2 := vl_nonneg (ha.drop (n + 1))
    have h3 : vl (a.drop n) ≤ vl a := by
      have e : vl a = vl (a.take n ++ a.drop n) := by rw [List.take_append_drop]
      rw [e, vl_app]
      have h4 := vl_nonneg (ha.take n)
      have h5 := vl_nonneg (ha.drop n)
      have h6 : 1 * vl (a.drop n) ≤ bp (a.take n).length * vl (a.drop n) := Int.mul_le_mul_of_nonneg_right (bp_pos _) h5
      omega
    refine Ev.step (fun k => by rw [trishawref01_Within.l0]) (ev_pos (by omega) (ev_pos (by omega) (ev_pos (by omega) ?_)))
    rw [show ((n + 1 : Nat) : Int) - 1 = (n : Int) by omega, rd_nat, wrap_id (n := x * 10000) (by omega), wrap_id (n := x * 10000 + a.getD n 0) (by omega), wrap_id (n := (n : Int) - 1) (by omega)]
    exact ih _ (by omega) (by omega)
theorem Within_f {a : List Int} {n t : Int} (ha : Is a n) (hla : a.length ≤ 40) (ht : t ≤ 1000000000000) (h0 : 0 ≤ t) (hn : n ≤ t) : Ev (fun k => trishawref01_Within.f k false a t) (n, true) := by
  obtain ⟨r, e, hr, hl⟩ := Big_f h0 ht
  obtain ⟨c, e2, hc⟩ := cmpD_f (by omega) ha hr
  unfold trishawref01_Within.f
  refine Ev.bind e (Ev.bind e2 (ev_neg (fun h => by have := hc.1 h; omega) ?_))
  rw [wrap_id (n := (a.length : Int) - 1) (by omega)]
  have h := Within_l0 ha.dg hla (by rw [ha.vl]; omega) a.length 0 (Nat.le_refl _) (by rw [List.drop_eq_nil_of_le (Nat.le_refl _)]; rfl)
  rw [ha.vl] at h
  exact h
end Go.Proofs.YtgobffgogmnmpaaDoor.Pure
