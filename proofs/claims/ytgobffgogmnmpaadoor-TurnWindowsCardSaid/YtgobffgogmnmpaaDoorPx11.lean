-- Written by wip/tools/myprint.py of this session's repo, over the kit's printer and hand texts.
import Derived.Test.YtgobffgogmnmpaaDoorPx0
import Derived.Test.YtgobffgogmnmpaaDoorPre
import Derived.Test.YtgobffgogmnmpaaDoorPx10
namespace Go.Proofs.YtgobffgogmnmpaaDoor.P
open Go.RowKit Go.Proofs.YtgobffgogmnmpaaDoorW.PrintWords Go.Proofs.YtgobffgogmnmpaaDoorW.PrintLast Go.Proofs.YtgobffgogmnmpaaDoorW.PrintMore
attribute [local go_sem] max2_int min2_int max_two min_two max_three min_three max_four min_four   -- for this text's walks alone
set_option linter.unusedVariables false
set_option linter.unusedSimpArgs false

/-! ### trishawref01_windows: function 48 -/
mutual
def trishawref01_windows.l0 : Nat → List Int → Int → Int → List (List (S51)) → Int → Option ((List (List (S51))))
  | 0, _, _, _, _, _ => none
  | k + 1, x0, x1, x2, x7, x8 => if x8 < (x0.length : Int) then (trishawref01_windows.l1 k x0 x1 x2 x7 x8 ([] : List (S51)) 1) else (some x7)
def trishawref01_windows.l1 : Nat → List Int → Int → Int → List (List (S51)) → Int → List (S51) → Int → Option ((List (List (S51))))
  | 0, _, _, _, _, _, _, _ => none
  | k + 1, x0, x1, x2, x7, x8, x9, x10 => if 0 ≤ x8 then (if x8 < (x0.length : Int) then (if x10 ≤ (rd x0 x8) then ((trishawref01_window.f k (rd x0 x8) x10 x1 x2).bind fun bt305 => (if x9.length < 8796093022208 then (trishawref01_windows.l1 k x0 x1 x2 x7 x8 (x9 ++ [(⟨bt305.1, bt305.2⟩ : S51)]) (wrap64 (x10 + 1))) else (none))) else (if x7.length < 5864062014805 then (trishawref01_windows.l0 k x0 x1 x2 (x7 ++ [x9]) (wrap64 (x8 + 1))) else (none))) else (none)) else (none)
end
def trishawref01_windows.f (k : Nat) (l0 : List Int) (a1 : Int) (a2 : Int) : Option ((List (List (S51)))) := trishawref01_windows.l0 k l0 a1 a2 ([] : List (List (S51))) 0
set_option maxHeartbeats 8000000 in
set_option maxRecDepth 100000 in
theorem trishawref01_windows.calls (k : Nat) (A0 : Option Addr) (c0 : Nat) (l0 : List Int) (a1 : Int) (a2 : Int) (r : List (List (S51))) (w : World) (hr0 : Kd.C (Kd.int .i64) w A0 l0.length l0) (hc0 : l0.length ≤ c0) (h : trishawref01_windows.f k l0 a1 a2 = some r) :
    Calls Tryd.prog 48 #[.slice A0 l0.length c0, .int .i64 a1, .int .i64 a2] w fun e w' => ∃ v0_ : Value, e = .returned (v0_) ∧ Kd.S (Kd.slice 51 k51) 49 w' w.heap.size (fun _ => True) v0_ r ∧ Below w.heap.size w w' := by
 have HR0 := Aside0.mk hr0
 have HC0 := Aside0.mk hc0
 clear hr0 hc0
 have HB := Aside0.mk (Below.refl w.heap.size w)
 have H : (trishawref01_windows.l0 k l0 a1 a2 ([] : List (List (S51))) 0) = some r := h
 clear h
 have H' := Aside0.mk H
 clear H
 go_enter Tryd.func48, Tryd.ntmps48
 go_wp2
 go_loopg [7, 8] k (fun kq v7 v8 w' => ∃ (x7_1 : List (List (S51))) (x8_1 : Int), v8 = .int .i64 x8_1 ∧ Aside0 (trishawref01_windows.l0 kq l0 a1 a2 x7_1 x8_1 = some r) ∧ Aside0 (kq ≤ k) ∧ Aside0 (Kd.S (Kd.slice 51 k51) 49 w' w.heap.size (fun _ => True) v7 x7_1) ∧ Aside0 (Below w.heap.size w w'))
 case atStart => exact ⟨(([] : List (List (S51)))), (0), rs_, H', ⟨Nat.le_refl _⟩, ⟨by first | exact Kd.S_nil _ _ _ _ _ | exact Kd.N_nil _ _ _ _ _ | exact Kd.V_nil _ _ _ _ _ | exact Kd.Q_nil _ _ _ _ _ | exact Kd.R_nil _ _ _ _ _⟩, ⟨bl_⟩⟩
 case round =>
  clear H'
  try clear p2
  obtain ⟨x7_1, x8_1, rfl, HA, HK1, HO_7, HB⟩ := hrel
  cases gk with
  | zero => exact absurd HA.out (by simp [trishawref01_windows.l0])
  | succ k1 =>
   have H := HA.out
   clear HA
   simp only [trishawref01_windows.l0] at H
   by_cases c4 : x8_1 < (l0.length : Int)
   ·rw [if_pos c4] at H
    have c4b0 : decide (x8_1 < (l0.length : Int)) = true := decide_eq_true c4
    clear c4
    have H' := Aside0.mk H
    clear H
    go_wp2
    go_loopg [9, 10] k1 (fun kq v9 v10 w' => ∃ (x9_2 : List (S51)) (x10_2 : Int), v10 = .int .i64 x10_2 ∧ Aside0 (trishawref01_windows.l1 kq l0 a1 a2 x7_1 x8_1 x9_2 x10_2 = some r) ∧ Aside0 (kq ≤ k1) ∧ Aside0 (Kd.S (Kd.slice 51 k51) 49 w' w.heap.size (fun k_ => some k_ ≠ (v9 : Value).ownBlock) u7 x7_1) ∧ Aside0 (Kd.R k51 51 w' w.heap.size (fun _ => True) v9 x9_2) ∧ Aside0 (Below w.heap.size w w'))
    case atStart => exact ⟨(([] : List (S51))), (1), rs_, H', ⟨Nat.le_refl _⟩, ⟨by refine ks_ ?_; exact Kd.S_mono HO_7.out (fun _ hk => (by simp [Value.ownBlock]))⟩, ⟨by first | exact Kd.R_nil _ _ _ _ _ | exact Kd.N_nil _ _ _ _ _ | exact Kd.V_nil _ _ _ _ _ | exact Kd.Q_nil _ _ _ _ _ | exact Kd.S_nil _ _ _ _ _⟩, ⟨bl_⟩⟩
    case round =>
     clear H'
     try clear p2
     try clear c4
     try clear c4b0
     try clear p2
     obtain ⟨x9_2, x10_2, rfl, HA, HK2, HO_7, HO_9, HB⟩ := hrel
     cases gk with
     | zero => exact absurd HA.out (by simp [trishawref01_windows.l1])
     | succ k2 =>
      have H := HA.out
      clear HA
      simp only [trishawref01_windows.l1] at H
      obtain ⟨c5b0, H⟩ := fp_ H
      obtain ⟨c6b0, H⟩ := fp_ H
      by_cases c7 : x10_2 ≤ (rd l0 x8_1)
      ·rw [if_pos c7] at H
       have c7b0 : decide (x10_2 ≤ (rd l0 x8_1)) = true := decide_eq_true c7
       clear c7
       obtain ⟨⟨t305, t306⟩, A8, H⟩ := bi_ H
       replace H : (if x9_2.length < 8796093022208 then (trishawref01_windows.l1 k2 l0 a1 a2 x7_1 x8_1 (x9_2 ++ [(⟨t305, t306⟩ : S51)]) (wrap64 (x10_2 + 1))) else (none)) = some r := H
       have c9 : x9_2.length < 8796093022208 := fl_ fun c9 => by rw [if_neg c9] at H; exact absurd H (by simp)
       rw [if_pos c9] at H
       have LMc9 := Aside0.mk c9
       clear c9
       obtain ⟨y307, hy307⟩ : ∃ y_ : List (S51), y_ = (x9_2 ++ [(⟨t305, t306⟩ : S51)]) := ⟨_, rfl⟩
       replace H : (trishawref01_windows.l1 k2 l0 a1 a2 x7_1 x8_1 y307 (wrap64 (x10_2 + 1))) = some r := by first | (rw [hy307]; with_reducible exact H) | (have H2_ := (Option.bind_some _ _).symm.trans H; rw [hy307]; with_reducible exact H2_) | (have H2_ := (Option.bind_some _ _).symm.trans H; with_reducible exact H2_) | with_reducible exact H | (rw [hy307]; exact H) | exact H
       have Ny307 := Aside0.mk hy307
       clear hy307
       have H' := Aside0.mk H
       clear H
       obtain ⟨ad303, e303, hx303_0, p303, q303⟩ := ai_ HR0.out x8_1
       cases e303
       replace hx303_0 := hc_ HB hx303_0
       obtain ⟨ad304, e304, hx304_0, p304, q304⟩ := ai_ HR0.out x8_1
       obtain rfl : ad303 = ad304 := (by injection e304)
       replace hx304_0 := hc_ HB hx304_0
       go_wp2_with (first | ((with_reducible refine gate_callee (f := 72) rfl ?_); refine goesL_ (some 33) rfl rfl Tryd.func72 (by kernel_rfl) rfl #[.int .i64 (rd l0 x8_1), .int .i64 x10_2, .int .i64 a1, .int .i64 a2] rfl (as_) ?_; (with_reducible refine (trishawref01_window.calls k2 (rd l0 x8_1) x10_2 a1 a2 t305 t306 _ A8.out).mono ?_); rintro e w10 ⟨rfl, hb⟩; refine ⟨_, rfl, ?_⟩; replace HO_7 := Aside0.mk (Kd.S_below (ks_ HO_7.out) hb); replace HO_9 := rb_ HO_9 hb; replace HB := hb_ hb; clear hb) | ((with_reducible refine gate_builtin (b := .append) (xs := #[.tmp 25, .tmp 34]) rfl ?_); at_builtin; refine Kd.R_append k51 (w0 := w) w.heap.size rfl (.tmp 25) (.tmp 34) 49 51 (.agg #[(.int .i64 0), (.int .i64 0)]) 16 rfl Tryd.underlying49 info51 rfl (by decide) (by omega) u9 x9_2 (⟨t305, t306⟩ : S51) [.int .i64 t305, .int .i64 t306] (fun _ => True) (fun _ => False) rfl rfl ?aP (fun _ hk => hk.elim) ?aF ?aO ?aB ?aS ?aL ?_; (case aP => exact k51_mkM _ _ _ (⟨t305, t306⟩ : S51)); (case aB => exact (bl_)); (case aF => exact (fun _ _ => trivial)); (case aO => exact (kr_ HO_9.out)); (case aS => exact (below_size (bl_))); (case aL => have := LMc9.out; omega); intro v308 w11 ho hb hg hat; rw [← Ny307.out] at ho; replace HO_7 := Aside0.mk (Kd.S_after (ok := (fun _ => True)) (by refine ks_ ?_; exact Kd.S_mono HO_7.out (fun _ hk => ⟨trivial, hk⟩)) hg hat); replace HB := Aside0.mk (hb); have HO309 := Aside0.mk (ho); clear HO_9; clear ho hb hg hat))
       go_roundg k2
       case measure => have := HK1.out; have := HK2.out; omega
       case rel => exact ⟨(y307), (wrap64 (x10_2 + 1)), rs_, H', ⟨by have := HK1.out; have := HK2.out; omega⟩, ⟨by refine ks_ ?_; exact Kd.S_mono HO_7.out (fun _ hk => hk.2)⟩, ⟨kr_ HO309.out⟩, ⟨bl_⟩⟩
      ·rw [if_neg c7] at H
       have c7b0 : decide (x10_2 ≤ (rd l0 x8_1)) = false := decide_eq_false c7
       clear c7
       have c12 : x7_1.length < 5864062014805 := fl_ fun c12 => by rw [if_neg c12] at H; exact absurd H (by simp)
       rw [if_pos c12] at H
       have LMc12 := Aside0.mk c12
       clear c12
       obtain ⟨y310, hy310⟩ : ∃ y_ : List (List (S51)), y_ = (x7_1 ++ [x9_2]) := ⟨_, rfl⟩
       replace H : (trishawref01_windows.l0 k2 l0 a1 a2 y310 (wrap64 (x8_1 + 1))) = some r := by first | (rw [hy310]; with_reducible exact H) | (have H2_ := (Option.bind_some _ _).symm.trans H; rw [hy310]; with_reducible exact H2_) | (have H2_ := (Option.bind_some _ _).symm.trans H; with_reducible exact H2_) | with_reducible exact H | (rw [hy310]; exact H) | exact H
       have Ny310 := Aside0.mk hy310
       clear hy310
       have H' := Aside0.mk H
       clear H
       obtain ⟨ad303, e303, hx303_0, p303, q303⟩ := ai_ HR0.out x8_1
       cases e303
       replace hx303_0 := hc_ HB hx303_0
       obtain ⟨Ao14, co14, eo14⟩ := Kd.R_slice HO_9.out
       subst eo14
       go_wp2_with (first | ((with_reducible refine gate_builtin (b := .append) (xs := #[.tmp 36, .tmp 38]) rfl ?_); at_builtin; refine Kd.S_append (Kd.slice 51 k51) (w0 := w) w.heap.size rfl (.tmp 36) (.tmp 38) 46 49 (.slice none 0 0) 24 rfl Tryd.underlying46 info49 rfl (by decide) (by omega) u7 x7_1 x9_2 [.slice Ao14 x9_2.length co14] (fun _ => True) (fun k_ => some k_ = (.slice Ao14 x9_2.length co14 : Value).ownBlock) rfl rfl ?aP (fun k_ hk_ => ((Kd.R_mono (ok' := fun k_ => ((fun _ => True)) k_ ∧ some k_ ≠ (u7 : Value).ownBlock) (Kd.R_apart' (HO_9.out) (Kd.S_typed HO_7.out) (by decide)) (fun k_ hk => ⟨trivial, hk.2⟩))).1 k_ hk_.symm) ?aF ?aO ?aB ?aS ?aL ?_; (case aP => exact Kd.M_row (Kd.R_mono (Kd.R_tight rfl (Kd.R_mono (ok' := fun k_ => ((fun _ => True)) k_ ∧ some k_ ≠ (u7 : Value).ownBlock) (Kd.R_apart' (HO_9.out) (Kd.S_typed HO_7.out) (by decide)) (fun k_ hk => ⟨trivial, hk.2⟩))) (fun _ h_ => h_))); (case aB => exact (bl_)); (case aF => exact (fun _ _ => trivial)); (case aO => exact (by refine ks_ ?_; exact Kd.S_mono HO_7.out (fun k_ hk => ⟨trivial, fun e_ => hk e_⟩))); (case aS => exact (below_size (bl_))); (case aL => have := LMc12.out; omega); intro v311 w13 ho hb hg hat; rw [← Ny310.out] at ho; replace HB := Aside0.mk (hb); have HO312 := Aside0.mk (ho); clear HO_7 HO_9; clear ho hb hg hat))
       go_roundg k2
       case measure => have := HK1.out; have := HK2.out; omega
       case rel => exact ⟨(y310), (wrap64 (x8_1 + 1)), rs_, H', ⟨by have := HK1.out; have := HK2.out; omega⟩, ⟨ks_ HO312.out⟩, ⟨bl_⟩⟩
   ·rw [if_neg c4] at H
    have c4b0 : decide (x8_1 < (l0.length : Int)) = false := decide_eq_false c4
    clear c4
    obtain rfl := Option.some.inj H
    go_wp2
    go_ret
    exact ⟨_, er_, by refine ks_ ?_; exact HO_7.out, bl_⟩

end Go.Proofs.YtgobffgogmnmpaaDoor.P
