/- The statement TurnRenumbered, of what the walked functions compute: numbers of drivers do not matter. Conditions: none but the bounds of the law. -/
import Derived.Test.YtgobffgogmnmpaaDoorPx22
import Derived.Test.YtgobffgogmnmpaaDoorRen
import Derived.Test.YtgobffgogmnmpaaDoorDays
import Derived.Test.YtgobffgogmnmpaaDoorMny
namespace Go.Proofs.YtgobffgogmnmpaaDoor.Pure
open Go.RowKit Go.Proofs.YtgobffgogmnmpaaDoor.P Go.Proofs.YtgobffgogmnmpaaDoorW.PrintWords Go.Proofs.YtgobffgogmnmpaaDoorW.PrintLast Go.Proofs.YtgobffgogmnmpaaDoorW.PrintMore
theorem ren_end {l l' days days' : List Int} (g : Good l) (hd : days.length ≤ 400) (hD : Days l.length days) {ρ π : Nat → Nat} (R : Ren l l' ρ π) (hl : days'.length = days.length) (hr : ∀ t, t < days.length → days'.getD t 0 = (ρ (ee days t) : Int)) {b : Int} {x : Nat} (hx : ¬ (x : Int) < (days.length : Int)) :
    Ev (fun k => trishawlaw01_TurnRenumbered.l1 k l days b l.length l' days' x) true := by
  obtain ⟨m, hm⟩ := isLe_ex g
  have g' := R.good g
  have f1 := Deviation_f l days
  rw [if_pos (sd_ok.2 ⟨g, hd, hD⟩)] at f1
  have f2 := Deviation_f l' days'
  have hs' : sdE l' days' = 0 := sd_ok.2 ⟨g', by omega, R.days hD hl hr⟩
  rw [if_pos hs', R.dev hD hl hr, R.tot] at f2
  have f3 := Quota_f l days
  rw [if_pos (sd_ok.2 ⟨g, hd, hD⟩)] at f3
  have f4 := Quota_f l' days'
  rw [if_pos hs', R.dev hD hl hr, R.tot] at f4
  have f5 := Least_good g hm
  have f6 := Least_good g' (R.le hm)
  rw [R.tot] at f6
  refine Ev.step (fun k => by rw [trishawlaw01_TurnRenumbered.l1]) (ev_neg hx ?_)
  exact Ev.bind f1 (Ev.bind f2 (Ev.bind f3 (Ev.bind f4 (Ev.bind f5 (Ev.bind f6 (ev_pos rfl (ev_pos rfl (ev_pos rfl (ev_pos rfl (ev_pos rfl (ev_pos rfl (ev_pos (by simp) (ev_pos (by simp) (ev_pos (by simp) alive_ev'))))))))))))))
theorem ren_l1 {l l' days : List Int} (g : Good l) (hd : days.length ≤ 400) (hD : Days l.length days) {b : Nat} (hb : b < 256) (R : Ren l l' (rot l.length (b % l.length)) (tor l.length (b % l.length))) : ∀ (d t : Nat) (x : List Int), t + d = days.length → x.length = t → (∀ j, j < t → x.getD j 0 = (rot l.length (b % l.length) (ee days j) : Int)) →
    Ev (fun k => trishawlaw01_TurnRenumbered.l1 k l days b l.length l' x t) true := by
  intro d
  have hn := g.len
  have hp := g.pos
  induction d with
  | zero =>
    intro t x ht hx h
    obtain rfl : t = days.length := by omega
    exact ren_end g hd hD R hx h (by omega)
  | succ d ih =>
    intro t x ht hx h
    have hlt := hD.lt (show t < days.length by omega)
    refine Ev.step (fun k => by rw [trishawlaw01_TurnRenumbered.l1]) (ev_pos (by omega) (ev_pos (by omega) (ev_neg (by omega) (ev_pos (by omega) ?_))))
    rw [rd_nat, hD.val (by omega), wrap_id (n := (b : Int)) (by omega), wrap_id (n := (ee days t : Int) + (b : Int)) (by omega), wrap_id (n := (t : Int) + 1) (by omega), rot_int hp hlt]
    refine ih (t + 1) _ (by omega) (by rw [List.length_append, List.length_singleton, hx]) fun j hj => ?_
    by_cases c : j = t
    · subst c
      conv => lhs; rw [← hx]
      rw [hx]
      rw [show (x ++ [(rot l.length (b % l.length) (ee days j) : Int)]).getD j 0 = (x ++ [(rot l.length (b % l.length) (ee days j) : Int)]).getD x.length 0 by rw [hx], getD_append_eq]
    · rw [getD_append_lt (by omega)]; exact h j (by omega)
theorem ren_l0 {l days : List Int} (g : Good l) (hd : days.length ≤ 400) (hD : Days l.length days) {b : Nat} (hb : b < 256) : ∀ (d i : Nat) (x : List Int), i + d = l.length → x.length = l.length → (∀ j, j < i → sh x (rot l.length (b % l.length) j) = sh l j) →
    Ev (fun k => trishawlaw01_TurnRenumbered.l0 k l days b l.length x i) true := by
  intro d
  have hn := g.len
  have hp := g.pos
  have hc := Nat.mod_lt b hp
  induction d with
  | zero =>
    intro i x hi hx h
    refine Ev.step (fun k => by rw [trishawlaw01_TurnRenumbered.l0]) (ev_neg (by omega) ?_)
    exact ren_l1 g hd hD hb (rot_ren hc hx fun j hj => h j (by omega)) days.length 0 [] (by omega) rfl (fun j hj => by omega)
  | succ d ih =>
    intro i x hi hx h
    have hr : rot l.length (b % l.length) i < l.length := by unfold rot; split <;> omega
    refine Ev.step (fun k => by rw [trishawlaw01_TurnRenumbered.l0]) (ev_pos (by omega) (ev_neg (by omega) (ev_pos (by omega) (ev_pos (by omega) ?_))))
    rw [rd_nat, wrap_id (n := (b : Int)) (by omega), wrap_id (n := (i : Int) + (b : Int)) (by omega), wrap_id (n := (i : Int) + 1) (by omega), rot_int hp (show i < l.length by omega)]
    refine ev_pos (by omega) (ev_pos (by omega) ?_)
    rw [Int.toNat_natCast]
    refine ih (i + 1) _ (by omega) (by rw [List.length_set]; exact hx) fun j hj => ?_
    show (x.set _ _).getD _ 0 = _
    rw [getD_set (by omega)]
    by_cases c : j = i
    · subst c; rw [if_pos rfl]; rfl
    · rw [if_neg (fun e => c (rot_inj (by omega) (by omega) e))]; exact h j (by omega)
theorem TurnRenumbered : trishawlaw01_TurnRenumbered.Pure := by
  intro l days b0 _ _ _ _ _ _ hb
  refine Ev.rounds (g := fun k => trishawlaw01_TurnRenumbered.f k l days b0) ?_
  unfold trishawlaw01_TurnRenumbered.f
  have awake : Ev (fun k => trishawlaw01_TurnRenumbered.j0 k l days b0 true) true := Ev.step (fun k => by rw [trishawlaw01_TurnRenumbered.j0]) (ev_pos rfl alive_ev')
  refine Ev.bind (Shares_f l) ?_
  rw [few_f]
  refine Ev.bind (Ev.now _) ?_
  by_cases hf : decide (l.length ≤ 30 ∧ days.length ≤ 500) = true
  rotate_left
  · exact ev_neg hf awake
  refine ev_pos hf ?_
  by_cases hs : shE l = 0
  rotate_left
  · rw [if_neg hs]; exact ev_neg hs awake
  have g := sh_good.1 hs
  have hl := g.len
  rw [if_pos hs]
  refine ev_pos rfl (Ev.bind (Days_f days l.length) ?_)
  by_cases hd : daE days l.length = 0
  rotate_left
  · rw [show (daE days l.length != 0) = true by simpa using hd]; exact awake
  obtain ⟨hd4, hD⟩ := da_ok.1 hd
  rw [hd, neq_self]
  have bb := u8_bd hb
  obtain ⟨b, rfl⟩ : ∃ b : Nat, b0 = (b : Int) := ⟨b0.toNat, by omega⟩
  refine Ev.step (fun k => by rw [trishawlaw01_TurnRenumbered.j0]) (ev_neg Bool.false_ne_true (ev_pos (by omega) (ev_pos (by rw [Int.toNat_natCast]; omega) ?_)))
  rw [Int.toNat_natCast]
  exact ren_l0 g hd4 hD (by omega) l.length 0 _ (by omega) (by simp) (fun j hj => by omega)
end Go.Proofs.YtgobffgogmnmpaaDoor.Pure
