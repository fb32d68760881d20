-- Written by wip/tools/myprint.py of this session's repo, over the kit's printer and hand texts.
import Derived.Test.YtgobffgogmnmpaaDoorPx0
import Derived.Test.YtgobffgogmnmpaaDoorPre
import Derived.Test.YtgobffgogmnmpaaDoorPx35
import Derived.Test.YtgobffgogmnmpaaDoorPx36
namespace Go.Proofs.YtgobffgogmnmpaaDoor.P
open Go.RowKit Go.Proofs.YtgobffgogmnmpaaDoorW.PrintWords Go.Proofs.YtgobffgogmnmpaaDoorW.PrintLast Go.Proofs.YtgobffgogmnmpaaDoorW.PrintMore
attribute [local go_sem] max2_int min2_int max_two min_two max_three min_three max_four min_four   -- for this text's walks alone
set_option linter.unusedVariables false
set_option linter.unusedSimpArgs false

/-! ### trishawref01_addD: function 85 -/
mutual
def trishawref01_addD.l0 : Nat → List Int → List Int → List Int → Int → Int → Option (List Int)
  | 0, _, _, _, _, _ => none
  | k + 1, x0, x1, x5, x6, x7 => if x7 < (x0.length : Int) then (trishawref01_addD.j1 k x0 x1 x5 x6 x7 true) else (if x7 < (x1.length : Int) then (trishawref01_addD.j1 k x0 x1 x5 x6 x7 true) else (trishawref01_addD.j1 k x0 x1 x5 x6 x7 (decide (x6 > 0))))
def trishawref01_addD.j1 : Nat → List Int → List Int → List Int → Int → Int → Bool → Option (List Int)
  | 0, _, _, _, _, _, _ => none
  | k + 1, x0, x1, x5, x6, x7, x22 => if x22 = true then (if x7 < (x0.length : Int) then (if 0 ≤ x7 then (if x7 < (x1.length : Int) then (if x5.length < 17592186044416 then (trishawref01_addD.l0 k x0 x1 (x5 ++ [Int.tmod (wrap64 ((wrap64 (x6 + (rd x0 x7))) + (rd x1 x7))) 10000]) (wrap64 (Int.tdiv (wrap64 ((wrap64 (x6 + (rd x0 x7))) + (rd x1 x7))) 10000)) (wrap64 (x7 + 1))) else (none)) else (if x5.length < 17592186044416 then (trishawref01_addD.l0 k x0 x1 (x5 ++ [Int.tmod (wrap64 (x6 + (rd x0 x7))) 10000]) (wrap64 (Int.tdiv (wrap64 (x6 + (rd x0 x7))) 10000)) (wrap64 (x7 + 1))) else (none))) else (none)) else (if x7 < (x1.length : Int) then (if 0 ≤ x7 then (if x5.length < 17592186044416 then (trishawref01_addD.l0 k x0 x1 (x5 ++ [Int.tmod (wrap64 (x6 + (rd x1 x7))) 10000]) (wrap64 (Int.tdiv (wrap64 (x6 + (rd x1 x7))) 10000)) (wrap64 (x7 + 1))) else (none)) else (none)) else (if x5.length < 17592186044416 then (trishawref01_addD.l0 k x0 x1 (x5 ++ [Int.tmod x6 10000]) (wrap64 (Int.tdiv x6 10000)) (wrap64 (x7 + 1))) else (none)))) else (some x5)
end
def trishawref01_addD.f (k : Nat) (l0 : List Int) (l1 : List Int) : Option (List Int) := trishawref01_addD.l0 k l0 l1 ([] : List Int) 0 0
set_option maxHeartbeats 8000000 in
set_option maxRecDepth 100000 in
theorem trishawref01_addD.calls (k : Nat) (A0 : Option Addr) (c0 : Nat) (l0 : List Int) (A1 : Option Addr) (c1 : Nat) (l1 : List Int) (r : List Int) (w : World) (hr0 : Kd.C (Kd.int .i64) w A0 l0.length l0) (hc0 : l0.length ≤ c0) (hr1 : Kd.C (Kd.int .i64) w A1 l1.length l1) (hc1 : l1.length ≤ c1) (h : trishawref01_addD.f k l0 l1 = some r) :
    Calls Tryd.prog 85 #[.slice A0 l0.length c0, .slice A1 l1.length c1] w fun e w' => ∃ v0_ : Value, e = .returned (v0_) ∧ Kd.R (Kd.int .i64) 3 w' w.heap.size (fun _ => True) v0_ r ∧ Below w.heap.size w w' := by
 have HR0 := Aside0.mk hr0
 have HC0 := Aside0.mk hc0
 clear hr0 hc0
 have HR1 := Aside0.mk hr1
 have HC1 := Aside0.mk hc1
 clear hr1 hc1
 have HB := Aside0.mk (Below.refl w.heap.size w)
 have H : (trishawref01_addD.l0 k l0 l1 ([] : List Int) 0 0) = some r := h
 clear h
 have H' := Aside0.mk H
 clear H
 go_enter Tryd.func85, Tryd.ntmps85
 go_wp2
 go_loopg [5, 6, 7] k (fun kq v5 v6 v7 w' => ∃ (x5_1 : List Int) (x6_1 : Int) (x7_1 : Int), v6 = .int .i64 x6_1 ∧ v7 = .int .i64 x7_1 ∧ Aside0 (trishawref01_addD.l0 kq l0 l1 x5_1 x6_1 x7_1 = some r) ∧ Aside0 (kq ≤ k) ∧ Aside0 (Kd.R (Kd.int .i64) 3 w' w.heap.size (fun _ => True) v5 x5_1) ∧ Aside0 (Below w.heap.size w w'))
 case atStart => exact ⟨(([] : List Int)), (0), (0), rs_, rs_, H', ⟨Nat.le_refl _⟩, ⟨by first | exact Kd.R_nil _ _ _ _ _ | exact Kd.N_nil _ _ _ _ _ | exact Kd.V_nil _ _ _ _ _ | exact Kd.Q_nil _ _ _ _ _ | exact Kd.S_nil _ _ _ _ _⟩, ⟨bl_⟩⟩
 case round =>
  clear H'
  try clear c1
  try clear p2
  obtain ⟨x5_1, x6_1, x7_1, rfl, rfl, HA, HK1, HO_5, HB⟩ := hrel
  cases gk with
  | zero => exact absurd HA.out (by simp [trishawref01_addD.l0])
  | succ k1 =>
   have H := HA.out
   clear HA
   simp only [trishawref01_addD.l0] at H
   have HC3 := Aside0.mk H
   clear H
   go_upto_region 4 with (fail)
   go_cut [22] (fun v22 wc => ∃ (kq : Nat) (x22_2 : Bool), v22 = .bool x22_2 ∧ Aside0 (trishawref01_addD.j1 kq l0 l1 x5_1 x6_1 x7_1 x22_2 = some r) ∧ Aside0 (kq ≤ k1) ∧ Aside0 (Kd.R (Kd.int .i64) 3 wc w.heap.size (fun _ => True) u5 x5_1) ∧ Aside0 (Below w.heap.size w wc))
   case first =>
    have H := HC3.out
    clear HC3
    by_cases c4 : x7_1 < (l0.length : Int)
    ·rw [if_pos c4] at H
     have c4b0 : decide (x7_1 < (l0.length : Int)) = true := decide_eq_true c4
     clear c4
     (first | rw [c4b0] | (simp only [i64_w, i32_w]; rw [c4b0]) | skip)
     have H' := Aside0.mk H
     clear H
     go_wp2
     go_meet
     case rel => exact ⟨_, (true), rs_, H', ⟨by have := HK1.out; first | omega | exact Nat.le_refl _⟩, ⟨kr_ HO_5.out⟩, ⟨bl_⟩⟩
    ·rw [if_neg c4] at H
     have c4b0 : decide (x7_1 < (l0.length : Int)) = false := decide_eq_false c4
     clear c4
     (first | rw [c4b0] | (simp only [i64_w, i32_w]; rw [c4b0]) | skip)
     by_cases c5 : x7_1 < (l1.length : Int)
     ·rw [if_pos c5] at H
      have c5b0 : decide (x7_1 < (l1.length : Int)) = true := decide_eq_true c5
      clear c5
      have H' := Aside0.mk H
      clear H
      go_wp2
      go_meet
      case rel => exact ⟨_, (true), rs_, H', ⟨by have := HK1.out; first | omega | exact Nat.le_refl _⟩, ⟨kr_ HO_5.out⟩, ⟨bl_⟩⟩
     ·rw [if_neg c5] at H
      have c5b0 : decide (x7_1 < (l1.length : Int)) = false := decide_eq_false c5
      clear c5
      have H' := Aside0.mk H
      clear H
      go_wp2
      go_meet
      case rel => exact ⟨_, (decide (x6_1 > 0)), rs_, H', ⟨by have := HK1.out; first | omega | exact Nat.le_refl _⟩, ⟨kr_ HO_5.out⟩, ⟨bl_⟩⟩
   case rest =>
    clear HC3
    try clear c1
    try clear p2
    try clear c4
    try clear c4b0
    try clear c5
    try clear c5b0
    try clear p2
    obtain ⟨kq, x22_2, rfl, HA, HJ2, HO_5, HB⟩ := hcut
    cases kq with
    | zero => exact absurd HA.out (by simp [trishawref01_addD.j1])
    | succ kj2 =>
     have H := HA.out
     clear HA
     simp only [trishawref01_addD.j1] at H
     by_cases c6 : x22_2 = true
     ·subst c6
      have H1 : (if x7_1 < (l0.length : Int) then (if 0 ≤ x7_1 then (if x7_1 < (l1.length : Int) then (if x5_1.length < 17592186044416 then (trishawref01_addD.l0 kj2 l0 l1 (x5_1 ++ [Int.tmod (wrap64 ((wrap64 (x6_1 + (rd l0 x7_1))) + (rd l1 x7_1))) 10000]) (wrap64 (Int.tdiv (wrap64 ((wrap64 (x6_1 + (rd l0 x7_1))) + (rd l1 x7_1))) 10000)) (wrap64 (x7_1 + 1))) else (none)) else (if x5_1.length < 17592186044416 then (trishawref01_addD.l0 kj2 l0 l1 (x5_1 ++ [Int.tmod (wrap64 (x6_1 + (rd l0 x7_1))) 10000]) (wrap64 (Int.tdiv (wrap64 (x6_1 + (rd l0 x7_1))) 10000)) (wrap64 (x7_1 + 1))) else (none))) else (none)) else (if x7_1 < (l1.length : Int) then (if 0 ≤ x7_1 then (if x5_1.length < 17592186044416 then (trishawref01_addD.l0 kj2 l0 l1 (x5_1 ++ [Int.tmod (wrap64 (x6_1 + (rd l1 x7_1))) 10000]) (wrap64 (Int.tdiv (wrap64 (x6_1 + (rd l1 x7_1))) 10000)) (wrap64 (x7_1 + 1))) else (none)) else (none)) else (if x5_1.length < 17592186044416 then (trishawref01_addD.l0 kj2 l0 l1 (x5_1 ++ [Int.tmod x6_1 10000]) (wrap64 (Int.tdiv x6_1 10000)) (wrap64 (x7_1 + 1))) else (none)))) = some r := by rw [if_pos rfl] at H; exact H
      clear H
      have H := H1
      clear H1
      by_cases c7 : x7_1 < (l0.length : Int)
      ·rw [if_pos c7] at H
       have c7b0 : decide (x7_1 < (l0.length : Int)) = true := decide_eq_true c7
       clear c7
       obtain ⟨c8b0, H⟩ := fp_ H
       by_cases c9 : x7_1 < (l1.length : Int)
       ·rw [if_pos c9] at H
        have c9b0 : decide (x7_1 < (l1.length : Int)) = true := decide_eq_true c9
        clear c9
        have c10 : x5_1.length < 17592186044416 := fl_ fun c10 => by rw [if_neg c10] at H; exact absurd H (by simp)
        rw [if_pos c10] at H
        have LMc10 := Aside0.mk c10
        clear c10
        obtain ⟨y961, hy961⟩ : ∃ y_ : List Int, y_ = (x5_1 ++ [Int.tmod (wrap64 ((wrap64 (x6_1 + (rd l0 x7_1))) + (rd l1 x7_1))) 10000]) := ⟨_, rfl⟩
        replace H : (trishawref01_addD.l0 kj2 l0 l1 y961 (wrap64 (Int.tdiv (wrap64 ((wrap64 (x6_1 + (rd l0 x7_1))) + (rd l1 x7_1))) 10000)) (wrap64 (x7_1 + 1))) = some r := by first | (rw [hy961]; with_reducible exact H) | (have H2_ := (Option.bind_some _ _).symm.trans H; rw [hy961]; with_reducible exact H2_) | (have H2_ := (Option.bind_some _ _).symm.trans H; with_reducible exact H2_) | with_reducible exact H | (rw [hy961]; exact H) | exact H
        have Ny961 := Aside0.mk hy961
        clear hy961
        have H' := Aside0.mk H
        clear H
        obtain ⟨ad959, e959, hx959_0, p959, q959⟩ := ai_ HR0.out x7_1
        cases e959
        replace hx959_0 := hc_ HB hx959_0
        obtain ⟨ad960, e960, hx960_0, p960, q960⟩ := ai_ HR1.out x7_1
        cases e960
        replace hx960_0 := hc_ HB hx960_0
        go_wp2_with (first | ((with_reducible refine gate_builtin (b := .append) (xs := #[.tmp 46, .tmp 49]) rfl ?_); (try (refine gate_guard (by rfl) ?_; dsimp only)); at_builtin; refine Kd.R_append (Kd.int .i64) (w0 := w) w.heap.size rfl (.tmp 46) (.tmp 49) 22 3 (.int .i64 0) 8 rfl Tryd.underlying22 info3 rfl (by decide) (by omega) u5 x5_1 (Int.tmod (wrap64 ((wrap64 (x6_1 + (rd l0 x7_1))) + (rd l1 x7_1))) 10000) [.int .i64 (Int.tmod (wrap64 ((wrap64 (x6_1 + (rd l0 x7_1))) + (rd l1 x7_1))) 10000)] (fun _ => True) (fun _ => False) rfl rfl ?aP (fun _ hk => hk.elim) ?aF ?aO ?aB ?aS ?aL ?_; (case aP => exact rfl); (case aB => exact (bl_)); (case aF => exact (fun _ _ => trivial)); (case aO => exact (kr_ HO_5.out)); (case aS => exact (below_size (bl_))); (case aL => have := LMc10.out; omega); intro v962 w11 ho hb hg hat; rw [← Ny961.out] at ho; replace HB := Aside0.mk (hb); have HO963 := Aside0.mk (ho); clear HO_5; clear ho hb hg hat))
        go_roundg kj2
        case measure => have := HK1.out; have := HJ2.out; omega
        case rel => exact ⟨(y961), (wrap64 (Int.tdiv (wrap64 ((wrap64 (x6_1 + (rd l0 x7_1))) + (rd l1 x7_1))) 10000)), (wrap64 (x7_1 + 1)), rs_, rs_, H', ⟨by have := HK1.out; have := HJ2.out; omega⟩, ⟨kr_ HO963.out⟩, ⟨bl_⟩⟩
       ·rw [if_neg c9] at H
        have c9b0 : decide (x7_1 < (l1.length : Int)) = false := decide_eq_false c9
        clear c9
        have c12 : x5_1.length < 17592186044416 := fl_ fun c12 => by rw [if_neg c12] at H; exact absurd H (by simp)
        rw [if_pos c12] at H
        have LMc12 := Aside0.mk c12
        clear c12
        obtain ⟨y964, hy964⟩ : ∃ y_ : List Int, y_ = (x5_1 ++ [Int.tmod (wrap64 (x6_1 + (rd l0 x7_1))) 10000]) := ⟨_, rfl⟩
        replace H : (trishawref01_addD.l0 kj2 l0 l1 y964 (wrap64 (Int.tdiv (wrap64 (x6_1 + (rd l0 x7_1))) 10000)) (wrap64 (x7_1 + 1))) = some r := by first | (rw [hy964]; with_reducible exact H) | (have H2_ := (Option.bind_some _ _).symm.trans H; rw [hy964]; with_reducible exact H2_) | (have H2_ := (Option.bind_some _ _).symm.trans H; with_reducible exact H2_) | with_reducible exact H | (rw [hy964]; exact H) | exact H
        have Ny964 := Aside0.mk hy964
        clear hy964
        have H' := Aside0.mk H
        clear H
        obtain ⟨ad959, e959, hx959_0, p959, q959⟩ := ai_ HR0.out x7_1
        cases e959
        replace hx959_0 := hc_ HB hx959_0
        go_wp2_with (first | ((with_reducible refine gate_builtin (b := .append) (xs := #[.tmp 46, .tmp 49]) rfl ?_); (try (refine gate_guard (by rfl) ?_; dsimp only)); at_builtin; refine Kd.R_append (Kd.int .i64) (w0 := w) w.heap.size rfl (.tmp 46) (.tmp 49) 22 3 (.int .i64 0) 8 rfl Tryd.underlying22 info3 rfl (by decide) (by omega) u5 x5_1 (Int.tmod (wrap64 (x6_1 + (rd l0 x7_1))) 10000) [.int .i64 (Int.tmod (wrap64 (x6_1 + (rd l0 x7_1))) 10000)] (fun _ => True) (fun _ => False) rfl rfl ?aP (fun _ hk => hk.elim) ?aF ?aO ?aB ?aS ?aL ?_; (case aP => exact rfl); (case aB => exact (bl_)); (case aF => exact (fun _ _ => trivial)); (case aO => exact (kr_ HO_5.out)); (case aS => exact (below_size (bl_))); (case aL => have := LMc12.out; omega); intro v965 w13 ho hb hg hat; rw [← Ny964.out] at ho; replace HB := Aside0.mk (hb); have HO966 := Aside0.mk (ho); clear HO_5; clear ho hb hg hat))
        go_roundg kj2
        case measure => have := HK1.out; have := HJ2.out; omega
        case rel => exact ⟨(y964), (wrap64 (Int.tdiv (wrap64 (x6_1 + (rd l0 x7_1))) 10000)), (wrap64 (x7_1 + 1)), rs_, rs_, H', ⟨by have := HK1.out; have := HJ2.out; omega⟩, ⟨kr_ HO966.out⟩, ⟨bl_⟩⟩
      ·rw [if_neg c7] at H
       have c7b0 : decide (x7_1 < (l0.length : Int)) = false := decide_eq_false c7
       clear c7
       by_cases c14 : x7_1 < (l1.length : Int)
       ·rw [if_pos c14] at H
        have c14b0 : decide (x7_1 < (l1.length : Int)) = true := decide_eq_true c14
        clear c14
        obtain ⟨c15b0, H⟩ := fp_ H
        have c16 : x5_1.length < 17592186044416 := fl_ fun c16 => by rw [if_neg c16] at H; exact absurd H (by simp)
        rw [if_pos c16] at H
        have LMc16 := Aside0.mk c16
        clear c16
        obtain ⟨y968, hy968⟩ : ∃ y_ : List Int, y_ = (x5_1 ++ [Int.tmod (wrap64 (x6_1 + (rd l1 x7_1))) 10000]) := ⟨_, rfl⟩
        replace H : (trishawref01_addD.l0 kj2 l0 l1 y968 (wrap64 (Int.tdiv (wrap64 (x6_1 + (rd l1 x7_1))) 10000)) (wrap64 (x7_1 + 1))) = some r := by first | (rw [hy968]; with_reducible exact H) | (have H2_ := (Option.bind_some _ _).symm.trans H; rw [hy968]; with_reducible exact H2_) | (have H2_ := (Option.bind_some _ _).symm.trans H; with_reducible exact H2_) | with_reducible exact H | (rw [hy968]; exact H) | exact H
        have Ny968 := Aside0.mk hy968
        clear hy968
        have H' := Aside0.mk H
        clear H
        obtain ⟨ad967, e967, hx967_0, p967, q967⟩ := ai_ HR1.out x7_1
        cases e967
        replace hx967_0 := hc_ HB hx967_0
        go_wp2_with (first | ((with_reducible refine gate_builtin (b := .append) (xs := #[.tmp 46, .tmp 49]) rfl ?_); (try (refine gate_guard (by rfl) ?_; dsimp only)); at_builtin; refine Kd.R_append (Kd.int .i64) (w0 := w) w.heap.size rfl (.tmp 46) (.tmp 49) 22 3 (.int .i64 0) 8 rfl Tryd.underlying22 info3 rfl (by decide) (by omega) u5 x5_1 (Int.tmod (wrap64 (x6_1 + (rd l1 x7_1))) 10000) [.int .i64 (Int.tmod (wrap64 (x6_1 + (rd l1 x7_1))) 10000)] (fun _ => True) (fun _ => False) rfl rfl ?aP (fun _ hk => hk.elim) ?aF ?aO ?aB ?aS ?aL ?_; (case aP => exact rfl); (case aB => exact (bl_)); (case aF => exact (fun _ _ => trivial)); (case aO => exact (kr_ HO_5.out)); (case aS => exact (below_size (bl_))); (case aL => have := LMc16.out; omega); intro v969 w17 ho hb hg hat; rw [← Ny968.out] at ho; replace HB := Aside0.mk (hb); have HO970 := Aside0.mk (ho); clear HO_5; clear ho hb hg hat))
        go_roundg kj2
        case measure => have := HK1.out; have := HJ2.out; omega
        case rel => exact ⟨(y968), (wrap64 (Int.tdiv (wrap64 (x6_1 + (rd l1 x7_1))) 10000)), (wrap64 (x7_1 + 1)), rs_, rs_, H', ⟨by have := HK1.out; have := HJ2.out; omega⟩, ⟨kr_ HO970.out⟩, ⟨bl_⟩⟩
       ·rw [if_neg c14] at H
        have c14b0 : decide (x7_1 < (l1.length : Int)) = false := decide_eq_false c14
        clear c14
        have c18 : x5_1.length < 17592186044416 := fl_ fun c18 => by rw [if_neg c18] at H; exact absurd H (by simp)
        rw [if_pos c18] at H
        have LMc18 := Aside0.mk c18
        clear c18
        obtain ⟨y971, hy971⟩ : ∃ y_ : List Int, y_ = (x5_1 ++ [Int.tmod x6_1 10000]) := ⟨_, rfl⟩
        replace H : (trishawref01_addD.l0 kj2 l0 l1 y971 (wrap64 (Int.tdiv x6_1 10000)) (wrap64 (x7_1 + 1))) = some r := by first | (rw [hy971]; with_reducible exact H) | (have H2_ := (Option.bind_some _ _).symm.trans H; rw [hy971]; with_reducible exact H2_) | (have H2_ := (Option.bind_some _ _).symm.trans H; with_reducible exact H2_) | with_reducible exact H | (rw [hy971]; exact H) | exact H
        have Ny971 := Aside0.mk hy971
        clear hy971
        have H' := Aside0.mk H
        clear H
        go_wp2_with (first | ((with_reducible refine gate_builtin (b := .append) (xs := #[.tmp 46, .tmp 49]) rfl ?_); (try (refine gate_guard (by rfl) ?_; dsimp only)); at_builtin; refine Kd.R_append (Kd.int .i64) (w0 := w) w.heap.size rfl (.tmp 46) (.tmp 49) 22 3 (.int .i64 0) 8 rfl Tryd.underlying22 info3 rfl (by decide) (by omega) u5 x5_1 (Int.tmod x6_1 10000) [.int .i64 (Int.tmod x6_1 10000)] (fun _ => True) (fun _ => False) rfl rfl ?aP (fun _ hk => hk.elim) ?aF ?aO ?aB ?aS ?aL ?_; (case aP => exact rfl); (case aB => exact (bl_)); (case aF => exact (fun _ _ => trivial)); (case aO => exact (kr_ HO_5.out)); (case aS => exact (below_size (bl_))); (case aL => have := LMc18.out; omega); intro v972 w19 ho hb hg hat; rw [← Ny971.out] at ho; replace HB := Aside0.mk (hb); have HO973 := Aside0.mk (ho); clear HO_5; clear ho hb hg hat))
        go_roundg kj2
        case measure => have := HK1.out; have := HJ2.out; omega
        case rel => exact ⟨(y971), (wrap64 (Int.tdiv x6_1 10000)), (wrap64 (x7_1 + 1)), rs_, rs_, H', ⟨by have := HK1.out; have := HJ2.out; omega⟩, ⟨kr_ HO973.out⟩, ⟨bl_⟩⟩
     ·replace c6 := Bool.eq_false_iff.mpr c6
      subst c6
      have H1 : (some x5_1) = some r := by rw [if_neg (show ¬ (false = true) by decide)] at H; exact H
      clear H
      have H := H1
      clear H1
      obtain rfl := Option.some.inj H
      go_wp2
      go_ret
      exact ⟨_, er_, by refine kr_ ?_; exact HO_5.out, bl_⟩

/-! ### trishawref01_Over: function 79 -/
def trishawref01_Over.f (k : Nat) (a0_0 : Bool) (l0_1 : List Int) (a1_0 : Bool) (l1_1 : List Int) : Option (Bool × List Int × Bool × List Int) := (trishawref01_divD.f k l0_1 l1_1).bind fun bt978 => (if a0_0 = true then (if (bt978.2.length : Int) = 0 then ((trishawref01_whole.f k true bt978.1).bind fun bt992 => (some (bt992.1, bt992.2, false, ([] : List Int)))) else ((trishawref01_addD.f k bt978.1 (([1] : List Int))).bind fun t999 => ((trishawref01_whole.f k true t999).bind fun bt1002 => ((trishawref01_subD.f k l1_1 bt978.2).bind fun t1006 => ((trishawref01_whole.f k false t1006).bind fun bt1009 => (some (bt1002.1, bt1002.2, bt1009.1, bt1009.2))))))) else ((trishawref01_whole.f k false bt978.1).bind fun bt984 => ((trishawref01_whole.f k false bt978.2).bind fun bt988 => (some (bt984.1, bt984.2, bt988.1, bt988.2)))))
def trishawref01_Over.T6 : Bool × List (List Nat × List Nat) := (true, [([], []), ([], []), ([0, 1], [0, 1]), ([2, 2], [2]), ([], []), ([4], [4]), ([], []), ([5, 6, 3], [5, 6]), ([7, 7], [7]), ([3, 8, 0, 1, 2, 3], [3]), ([8, 9, 0, 1, 2, 3, 4, 5, 6, 7, 8, 9], [8])])
def trishawref01_Over.B6 : List Nat := [0, 0, 3, 7, 0, 16, 0, 127, 255, 511, 1023]
theorem trishawref01_Over.tab6 : rtab .any (opsOf Tryd.f79 6) = trishawref01_Over.T6 := by kernel_rfl
theorem trishawref01_Over.bits6 : waitsOk trishawref01_Over.T6.2 trishawref01_Over.B6 = true := by kernel_rfl
set_option maxHeartbeats 8000000 in
set_option maxRecDepth 100000 in
theorem trishawref01_Over.calls (k : Nat) (a0_0 : Bool) (A0_1 : Option Addr) (c0_1 : Nat) (l0_1 : List Int) (a1_0 : Bool) (A1_1 : Option Addr) (c1_1 : Nat) (l1_1 : List Int) (r1 : Bool) (r2 : List Int) (r3 : Bool) (r4 : List Int) (w : World) (hr0_1 : Kd.C (Kd.int .i64) w A0_1 l0_1.length l0_1) (hc0_1 : l0_1.length ≤ c0_1) (hr1_1 : Kd.C (Kd.int .i64) w A1_1 l1_1.length l1_1) (hc1_1 : l1_1.length ≤ c1_1) (h : trishawref01_Over.f k a0_0 l0_1 a1_0 l1_1 = some (r1, r2, r3, r4)) :
    Calls Tryd.prog 79 #[.agg #[.bool a0_0, .slice A0_1 l0_1.length c0_1], .agg #[.bool a1_0, .slice A1_1 l1_1.length c1_1]] w fun e w' => ∃ v1_ v3_ : Value, e = .returned (.tuple #[.agg #[.bool r1, v1_], .agg #[.bool r3, v3_]]) ∧ Kd.R (Kd.int .i64) 3 w' w.heap.size (fun k_ => some k_ ≠ (v3_ : Value).ownBlock) v1_ r2 ∧ Kd.R (Kd.int .i64) 3 w' w.heap.size (fun k_ => some k_ ≠ (v1_ : Value).ownBlock) v3_ r4 ∧ Below w.heap.size w w' := by
 have hu91 := Tryd.underlying91
 have HR0_1 := Aside0.mk hr0_1
 have HC0_1 := Aside0.mk hc0_1
 clear hr0_1 hc0_1
 have HR1_1 := Aside0.mk hr1_1
 have HC1_1 := Aside0.mk hc1_1
 clear hr1_1 hc1_1
 have HB := Aside0.mk (Below.refl w.heap.size w)
 have H : ((trishawref01_divD.f k l0_1 l1_1).bind fun bt978 => (if a0_0 = true then (if (bt978.2.length : Int) = 0 then ((trishawref01_whole.f k true bt978.1).bind fun bt992 => (some (bt992.1, bt992.2, false, ([] : List Int)))) else ((trishawref01_addD.f k bt978.1 (([1] : List Int))).bind fun t999 => ((trishawref01_whole.f k true t999).bind fun bt1002 => ((trishawref01_subD.f k l1_1 bt978.2).bind fun t1006 => ((trishawref01_whole.f k false t1006).bind fun bt1009 => (some (bt1002.1, bt1002.2, bt1009.1, bt1009.2))))))) else ((trishawref01_whole.f k false bt978.1).bind fun bt984 => ((trishawref01_whole.f k false bt978.2).bind fun bt988 => (some (bt984.1, bt984.2, bt988.1, bt988.2)))))) = some (r1, r2, r3, r4) := h
 clear h
 obtain ⟨⟨t978, t979⟩, A3, H⟩ := bi_ H
 replace H : (if a0_0 = true then (if (t979.length : Int) = 0 then ((trishawref01_whole.f k true t978).bind fun bt992 => (some (bt992.1, bt992.2, false, ([] : List Int)))) else ((trishawref01_addD.f k t978 (([1] : List Int))).bind fun t999 => ((trishawref01_whole.f k true t999).bind fun bt1002 => ((trishawref01_subD.f k l1_1 t979).bind fun t1006 => ((trishawref01_whole.f k false t1006).bind fun bt1009 => (some (bt1002.1, bt1002.2, bt1009.1, bt1009.2))))))) else ((trishawref01_whole.f k false t978).bind fun bt984 => ((trishawref01_whole.f k false t979).bind fun bt988 => (some (bt984.1, bt984.2, bt988.1, bt988.2))))) = some (r1, r2, r3, r4) := H
 by_cases c4 : a0_0 = true
 ·subst c4
  have H1 : (if (t979.length : Int) = 0 then ((trishawref01_whole.f k true t978).bind fun bt992 => (some (bt992.1, bt992.2, false, ([] : List Int)))) else ((trishawref01_addD.f k t978 (([1] : List Int))).bind fun t999 => ((trishawref01_whole.f k true t999).bind fun bt1002 => ((trishawref01_subD.f k l1_1 t979).bind fun t1006 => ((trishawref01_whole.f k false t1006).bind fun bt1009 => (some (bt1002.1, bt1002.2, bt1009.1, bt1009.2))))))) = some (r1, r2, r3, r4) := by rw [if_pos rfl] at H; exact H
  clear H
  have H := H1
  clear H1
  by_cases c5 : (t979.length : Int) = 0
  ·rw [if_pos c5] at H
   have c5b0 : ((t979.length : Int) == 0) = true := beq_iff_eq.mpr c5
   have c5b1 : ((t979.length : Int) != 0) = false := bne_eq_false_iff_eq.mpr c5
   clear c5
   obtain ⟨⟨t992, t993⟩, A6, H⟩ := bi_ H
   replace H : (some (t992, t993, false, ([] : List Int))) = some (r1, r2, r3, r4) := H
   simp only [Option.some.injEq, Prod.mk.injEq] at H
   obtain ⟨rfl, rfl, rfl, rfl⟩ := H
   go_enter Tryd.func79, Tryd.ntmps79
   go_wp2_with (first | ((with_reducible refine gate_dst (N := 2) rfl ?_); refine be_ #[.bool true, .slice A0_1 l0_1.length c0_1] 91 ?_; intro gb974 hg w7 hbox hb; have BK974 := Aside0.mk (hbox); have GW974 := gw_ hg; have GE974 := gw_ hg; replace HB := hb_ hb; clear hb hbox hg) | ((with_reducible refine gate_dst (N := 3) rfl ?_); refine be_ #[.bool a1_0, .slice A1_1 l1_1.length c1_1] 91 ?_; intro gb975 hg w8 hbox hb; have BK975 := Aside0.mk (hbox); have GW975 := gw_ hg; have GE975 := gw_ hg; replace HB := hb_ hb; have NB974_975 := nl_ hg BK974; have NB975_974 := sy_ NB974_975; replace BK974 := bb_ BK974 hb; clear hb hbox hg) | ((with_reducible refine gate_dst (N := 4) rfl ?_); refine be_ #[.bool false, .slice none 0 0] 91 ?_; intro gb976 hg w9 hbox hb; have BK976 := Aside0.mk (hbox); have GW976 := gw_ hg; have GE976 := gw_ hg; replace HB := hb_ hb; have NB974_976 := nl_ hg BK974; have NB976_974 := sy_ NB974_976; replace BK974 := bb_ BK974 hb; have NB975_976 := nl_ hg BK975; have NB976_975 := sy_ NB975_976; replace BK975 := bb_ BK975 hb; clear hb hbox hg) | ((with_reducible refine gate_dst (N := 5) rfl ?_); refine be_ #[.bool false, .slice none 0 0] 91 ?_; intro gb977 hg w10 hbox hb; have BK977 := Aside0.mk (hbox); have GW977 := gw_ hg; have GE977 := gw_ hg; replace HB := hb_ hb; have NB974_977 := nl_ hg BK974; have NB977_974 := sy_ NB974_977; replace BK974 := bb_ BK974 hb; have NB975_977 := nl_ hg BK975; have NB977_975 := sy_ NB975_977; replace BK975 := bb_ BK975 hb; have NB976_977 := nl_ hg BK976; have NB977_976 := sy_ NB976_977; replace BK976 := bb_ BK976 hb; clear hb hbox hg; have hnb11 := NB974_975.out; have hnc11 := NB975_974.out; have hnb12 := NB974_976.out; have hnc12 := NB976_974.out; have hnb13 := NB974_977.out; have hnc13 := NB977_974.out; have hcz14_0 := bc_ BK974 0 (.bool true); have hcz14_1 := bc_ BK974 1 (.slice A0_1 l0_1.length c0_1); have hfz14_0 := bz_ BK974 0; have hfz14_1 := bz_ BK974 1; have hnb15 := NB975_976.out; have hnc15 := NB976_975.out; have hnb16 := NB975_977.out; have hnc16 := NB977_975.out; have hcz17_0 := bc_ BK975 0 (.bool a1_0); have hcz17_1 := bc_ BK975 1 (.slice A1_1 l1_1.length c1_1); have hfz17_0 := bz_ BK975 0; have hfz17_1 := bz_ BK975 1) | ((with_reducible refine gate_callee (f := 83) rfl ?_); refine goesL_ (some 13) rfl rfl Tryd.func83 (by kernel_rfl) rfl #[.slice A0_1 l0_1.length c0_1, .slice A1_1 l1_1.length c1_1] rfl (as_) ?_; (with_reducible refine (trishawref01_divD.calls k _ _ l0_1 _ _ l1_1 t978 t979 _ ?side1 ?side2 ?side3 ?side4 A3.out).mono ?_); (case side1 => exact cb_ HR0_1.out); (case side2 => exact HC0_1.out); (case side3 => exact cb_ HR1_1.out); (case side4 => exact HC1_1.out); rintro e w18 ⟨v980, v982, rfl, ho0, ho1, hb⟩; refine ⟨_, rfl, ?_⟩; have HO981 := rl_ ho0; have HO983 := rl_ ho1; replace BK974 := bb_ BK974 hb; replace BK975 := bb_ BK975 hb; replace BK976 := bb_ BK976 hb; replace BK977 := bb_ BK977 hb; replace HB := hb_ hb; clear hb ho0 ho1; have hcz19_0 := bc_ BK974 0 (.bool true); have hcz19_1 := bc_ BK974 1 (.slice A0_1 l0_1.length c0_1); have hfz19_0 := bz_ BK974 0; have hfz19_1 := bz_ BK974 1; obtain ⟨Ao20, co20, eo20⟩ := Kd.R_slice HO983.out; subst eo20; obtain ⟨Ao21, co21, eo21⟩ := Kd.R_slice HO981.out; subst eo21) | ((with_reducible refine gate_callee (f := 84) rfl ?_); refine goesL_ (some 27) rfl rfl Tryd.func84 (by kernel_rfl) rfl #[.bool true, .slice Ao21 t978.length co21] rfl (as_) ?_; (with_reducible refine (trishawref01_whole.calls k true _ _ t978 t992 t993 _ ?side1 ?side2 A6.out).mono ?_); (case side1 => exact cr_ HO981.out); (case side2 => exact (Kd.R_reads' HO981.out).2.1); rintro e w22 ⟨v994, rfl, ho0, hb⟩; refine ⟨_, rfl, ?_⟩; have HO995 := rl_ (rn_ (rn_ ho0 HO981) HO983); replace HO981 := re_ HO981 ho0 hb; replace HO983 := re_ HO983 ho0 hb; replace BK974 := bb_ BK974 hb; replace BK975 := bb_ BK975 hb; replace BK976 := bb_ BK976 hb; replace BK977 := bb_ BK977 hb; replace HB := hb_ hb; clear hb ho0; have hnb23 := NB976_977.out; have hnc23 := NB977_976.out; have hcz24_0 := bc_ BK976 0 (.bool false); have hcz24_1 := bc_ BK976 1 (.slice none 0 0); have hfz24_0 := bz_ BK976 0; have hfz24_1 := bz_ BK976 1; obtain ⟨Ao25, co25, eo25⟩ := Kd.R_slice HO995.out; subst eo25; have hcz26_0 := bc_ BK977 0 (.bool false); have hcz26_1 := bc_ BK977 1 (.slice none 0 0); have hfz26_0 := bz_ BK977 0; have hfz26_1 := bz_ BK977 1))
   refine bodyPost_ret (results_cc rfl _ _ gb976 gb977 91 91 #[.bool t992, .slice Ao25 t993.length co25] #[.bool false, .slice none 0 0] (0, 0) (0, 0) _ _ rfl (by refine bk_ ?_; refine blk_far ?_ NB976_977.out _; refine bk_ ?_; refine blk_far ?_ NB976_977.out _; refine bk_ ?_; refine blk_put (cs := #[.bool t992, .slice none 0 0]) ?_ 1 _ rfl; refine bk_ ?_; refine blk_put (cs := #[.bool false, .slice none 0 0]) ?_ 0 _ rfl; refine bk_ ?_; exact BK976.out) Tryd.underlying91 rfl (by kernel_rfl) rfl (by refine bk_ ?_; refine blk_put (cs := #[.bool false, .slice none 0 0]) ?_ 1 _ rfl; refine bk_ ?_; refine blk_put (cs := #[.bool false, .slice none 0 0]) ?_ 0 _ rfl; refine bk_ ?_; refine blk_far ?_ NB977_976.out _; refine bk_ ?_; refine blk_far ?_ NB977_976.out _; refine bk_ ?_; exact BK977.out) Tryd.underlying91 rfl (by kernel_rfl)) rfl ?_
   exact ⟨_, _, er_, by refine kr_ ?_; exact Kd.R_mono (Kd.R_far (p := ⟨gb977, 1, none⟩) (Kd.R_far (p := ⟨gb977, 0, none⟩) (Kd.R_far (p := ⟨gb976, 1, none⟩) (Kd.R_far (p := ⟨gb976, 0, none⟩) (Kd.R_types (Kd.R_types HO995.out BK976.out (by decide)) BK977.out (by decide)) (fun _ hk => hk.1.2) (.bool t992)) (fun _ hk => hk.1.2) (.slice Ao25 t993.length co25)) (fun _ hk => hk.2) (.bool false)) (fun _ hk => hk.2) (.slice none 0 0)) (fun _ hk => (by simp [Value.ownBlock])), by first | exact Kd.R_nil _ _ _ _ _ | exact Kd.N_nil _ _ _ _ _ | exact Kd.V_nil _ _ _ _ _ | exact Kd.Q_nil _ _ _ _ _ | exact Kd.S_nil _ _ _ _ _, bl_⟩
  ·rw [if_neg c5] at H
   have c5b0 : ((t979.length : Int) == 0) = false := beq_eq_false_iff_ne.mpr c5
   have c5b1 : ((t979.length : Int) != 0) = true := bne_iff_ne.mpr c5
   have c5b2 : ¬ (t979 = []) := fun h_ => c5 (by rw [h_]; rfl)
   obtain ⟨y996, hy996⟩ : ∃ y_ : List Int, y_ = (([1] : List Int)) := ⟨_, rfl⟩
   replace H : ((trishawref01_addD.f k t978 y996).bind fun t999 => ((trishawref01_whole.f k true t999).bind fun bt1002 => ((trishawref01_subD.f k l1_1 t979).bind fun t1006 => ((trishawref01_whole.f k false t1006).bind fun bt1009 => (some (bt1002.1, bt1002.2, bt1009.1, bt1009.2)))))) = some (r1, r2, r3, r4) := by first | (rw [hy996]; with_reducible exact H) | (have H2_ := (Option.bind_some _ _).symm.trans H; rw [hy996]; with_reducible exact H2_) | (have H2_ := (Option.bind_some _ _).symm.trans H; with_reducible exact H2_) | with_reducible exact H | (rw [hy996]; exact H) | exact H
   have Ny996 := Aside0.mk hy996
   clear hy996
   obtain ⟨t999, A27, H⟩ := bi_ H
   replace H : ((trishawref01_whole.f k true t999).bind fun bt1002 => ((trishawref01_subD.f k l1_1 t979).bind fun t1006 => ((trishawref01_whole.f k false t1006).bind fun bt1009 => (some (bt1002.1, bt1002.2, bt1009.1, bt1009.2))))) = some (r1, r2, r3, r4) := H
   obtain ⟨⟨t1002, t1003⟩, A28, H⟩ := bi_ H
   replace H : ((trishawref01_subD.f k l1_1 t979).bind fun t1006 => ((trishawref01_whole.f k false t1006).bind fun bt1009 => (some (t1002, t1003, bt1009.1, bt1009.2)))) = some (r1, r2, r3, r4) := H
   obtain ⟨t1006, A29, H⟩ := bi_ H
   replace H : ((trishawref01_whole.f k false t1006).bind fun bt1009 => (some (t1002, t1003, bt1009.1, bt1009.2))) = some (r1, r2, r3, r4) := H
   obtain ⟨⟨t1009, t1010⟩, A30, H⟩ := bi_ H
   replace H : (some (t1002, t1003, t1009, t1010)) = some (r1, r2, r3, r4) := H
   simp only [Option.some.injEq, Prod.mk.injEq] at H
   obtain ⟨rfl, rfl, rfl, rfl⟩ := H
   go_enter Tryd.func79, Tryd.ntmps79
   try go_wp2_with (first | ((with_reducible refine gate_dst (N := 2) rfl ?_); refine be_ #[.bool true, .slice A0_1 l0_1.length c0_1] 91 ?_; intro gb974 hg w31 hbox hb; have BK974 := Aside0.mk (hbox); have GW974 := gw_ hg; have GE974 := gw_ hg; replace HB := hb_ hb; clear hb hbox hg) | ((with_reducible refine gate_dst (N := 3) rfl ?_); refine be_ #[.bool a1_0, .slice A1_1 l1_1.length c1_1] 91 ?_; intro gb975 hg w32 hbox hb; have BK975 := Aside0.mk (hbox); have GW975 := gw_ hg; have GE975 := gw_ hg; replace HB := hb_ hb; have NB974_975 := nl_ hg BK974; have NB975_974 := sy_ NB974_975; replace BK974 := bb_ BK974 hb; clear hb hbox hg) | ((with_reducible refine gate_dst (N := 4) rfl ?_); refine be_ #[.bool false, .slice none 0 0] 91 ?_; intro gb976 hg w33 hbox hb; have BK976 := Aside0.mk (hbox); have GW976 := gw_ hg; have GE976 := gw_ hg; replace HB := hb_ hb; have NB974_976 := nl_ hg BK974; have NB976_974 := sy_ NB974_976; replace BK974 := bb_ BK974 hb; have NB975_976 := nl_ hg BK975; have NB976_975 := sy_ NB975_976; replace BK975 := bb_ BK975 hb; clear hb hbox hg) | ((with_reducible refine gate_dst (N := 5) rfl ?_); refine be_ #[.bool false, .slice none 0 0] 91 ?_; intro gb977 hg w34 hbox hb; have BK977 := Aside0.mk (hbox); have GW977 := gw_ hg; have GE977 := gw_ hg; replace HB := hb_ hb; have NB974_977 := nl_ hg BK974; have NB977_974 := sy_ NB974_977; replace BK974 := bb_ BK974 hb; have NB975_977 := nl_ hg BK975; have NB977_975 := sy_ NB975_977; replace BK975 := bb_ BK975 hb; have NB976_977 := nl_ hg BK976; have NB977_976 := sy_ NB976_977; replace BK976 := bb_ BK976 hb; clear hb hbox hg; have hnb35 := NB974_975.out; have hnc35 := NB975_974.out; have hnb36 := NB974_976.out; have hnc36 := NB976_974.out; have hnb37 := NB974_977.out; have hnc37 := NB977_974.out; have hcz38_0 := bc_ BK974 0 (.bool true); have hcz38_1 := bc_ BK974 1 (.slice A0_1 l0_1.length c0_1); have hfz38_0 := bz_ BK974 0; have hfz38_1 := bz_ BK974 1; have hnb39 := NB975_976.out; have hnc39 := NB976_975.out; have hnb40 := NB975_977.out; have hnc40 := NB977_975.out; have hcz41_0 := bc_ BK975 0 (.bool a1_0); have hcz41_1 := bc_ BK975 1 (.slice A1_1 l1_1.length c1_1); have hfz41_0 := bz_ BK975 0; have hfz41_1 := bz_ BK975 1) | ((with_reducible refine gate_callee (f := 83) rfl ?_); refine goesL_ (some 13) rfl rfl Tryd.func83 (by kernel_rfl) rfl #[.slice A0_1 l0_1.length c0_1, .slice A1_1 l1_1.length c1_1] rfl (as_) ?_; (with_reducible refine (trishawref01_divD.calls k _ _ l0_1 _ _ l1_1 t978 t979 _ ?side1 ?side2 ?side3 ?side4 A3.out).mono ?_); (case side1 => exact cb_ HR0_1.out); (case side2 => exact HC0_1.out); (case side3 => exact cb_ HR1_1.out); (case side4 => exact HC1_1.out); rintro e w42 ⟨v980, v982, rfl, ho0, ho1, hb⟩; refine ⟨_, rfl, ?_⟩; have HO981 := rl_ ho0; have HO983 := rl_ ho1; replace BK974 := bb_ BK974 hb; replace BK975 := bb_ BK975 hb; replace BK976 := bb_ BK976 hb; replace BK977 := bb_ BK977 hb; replace HB := hb_ hb; clear hb ho0 ho1; have hcz43_0 := bc_ BK974 0 (.bool true); have hcz43_1 := bc_ BK974 1 (.slice A0_1 l0_1.length c0_1); have hfz43_0 := bz_ BK974 0; have hfz43_1 := bz_ BK974 1; obtain ⟨Ao44, co44, eo44⟩ := Kd.R_slice HO983.out; subst eo44))
   replace HO981 := Aside0.mk (Kd.R_drew HO981.out)
   replace HO983 := Aside0.mk (Kd.R_drew HO983.out)
   replace BK974 := Aside0.mk (blk_drew BK974.out)
   replace BK975 := Aside0.mk (blk_drew BK975.out)
   replace BK976 := Aside0.mk (blk_drew BK976.out)
   replace BK977 := Aside0.mk (blk_drew BK977.out)
   replace HB := Aside0.mk (below_drew1 HB.out)
   refine start_ (n := 11) (S := fun w' => w'.cell? ⟨gb975, 0, none⟩ = some (.bool a1_0) ∧ w'.cell? ⟨gb975, 1, none⟩ = some (.slice A1_1 l1_1.length c1_1)) (ds := []) #[false, false, false, false, false, false, false, false, false, false, false] (by kernel_rfl) rfl rfl ⟨(blk_cell BK975.out 0).trans rfl, (blk_cell BK975.out 1).trans rfl⟩ (fun hHeld => ?_); refine with_tabW trishawref01_Over.tab6 trishawref01_Over.bits6 (fun HT_ HW_ => ?_)
   generalize w42.drew = w45 at HO981 HO983 BK974 BK975 BK976 BK977 HB hHeld ⊢
   refine pu_ 0 29 HT_.out (h := ?_)
   refine pu_ 4 33 HT_.out (h := ?_)
   refine pu_ 6 35 HT_.out (h := ?_)
   refine ta_ 5 34 HT_.out HW_.out hHeld (h := ?_)
   refine one_ (i := 1) (N := some 30) #[true, true, false, false, true, true, true, false, false, false, false] rfl rfl (one_of HT_.out (by kernel_rfl)) (by decide) (fun K hK => ?_)
   refine Kd.R_lit_step (Kd.int .i64) _ 3 ?hg (N := 30) ?hd (xs := ([1] : List Int)) (inner := [.int .i64 1]) (ok := fun _ => True) (okp := fun _ => True) ?hr ?hp (fun _ hk => hk) trivial (Below.refl _ _) (Nat.le_refl _) (by simp) ?_; (case hd => rfl); (case hg => rfl); (case hr => first | (go_simp; done) | (go_simp; rfl)); (case hp => exact (Reps.one (show Kd.M (Kd.int .i64) _ _ _ 1 [.int .i64 1] from rfl) (Reps.none _ _)))
   intro v997 w46 ho47 hb hg_ hnew_
   clear hg_ hnew_
   (first | rw [← Ny996.out] at ho47 | (simp only [Int.reduceToNat] at ho47; rw [← Ny996.out] at ho47))
   have HO998 := rl_ (rn_ (rn_ ho47 HO981) HO983)
   replace HO981 := re_ HO981 ho47 hb
   replace HO983 := re_ HO983 ho47 hb
   replace BK974 := bb_ BK974 hb
   replace BK975 := bb_ BK975 hb
   replace BK976 := bb_ BK976 hb
   replace BK977 := bb_ BK977 hb
   replace HB := hb_ hb
   clear hb ho47
   obtain ⟨Ao48, co48, eo48⟩ := Kd.R_slice HO981.out
   (first | subst eo48 | (injection eo48 with f1_ f2_ f3_; have f4_ := f1_.symm; have f5_ := f3_.symm; clear f1_ f2_ f3_; subst f4_; subst f5_))
   obtain ⟨Ao49, co49, eo49⟩ := Kd.R_slice HO998.out
   (first | subst eo49 | (injection eo49 with f1_ f2_ f3_; have f4_ := f1_.symm; have f5_ := f3_.symm; clear f1_ f2_ f3_; subst f4_; subst f5_))
   refine hK.out _ _ ⟨(blk_cell BK975.out 0).trans rfl, (blk_cell BK975.out 1).trans rfl⟩ (fun hHeld => ?_)
   clear hK K
   refine np_ 30 (h := ?_)
   refine one_ (i := 2) (N := some 31) #[true, true, true, false, true, true, true, false, false, false, false] rfl rfl (one_of HT_.out (by kernel_rfl)) (by decide) (fun K hK => ?_)
   refine goes_ Tryd.func85 (by kernel_rfl) rfl #[.slice Ao48 t978.length co48, .slice Ao49 y996.length co49] (by rfl) rfl rfl (as_) ?_
   with_reducible refine (trishawref01_addD.calls k _ _ t978 _ _ y996 t999 _ ?side1 ?side2 ?side3 ?side4 A27.out).mono ?_
   (case side1 => exact cr_ HO981.out)
   (case side2 => exact (Kd.R_reads' HO981.out).2.1)
   (case side3 => exact cr_ HO998.out)
   (case side4 => exact (Kd.R_reads' HO998.out).2.1)
   rintro e w50 ⟨v1000, rfl, ho0, hb⟩
   refine ⟨_, rfl, ?_⟩
   have HO1001 := rl_ (rn_ (rn_ (rn_ ho0 HO981) HO983) HO998)
   replace HO981 := re_ HO981 ho0 hb
   replace HO983 := re_ HO983 ho0 hb
   replace HO998 := re_ HO998 ho0 hb
   replace BK974 := bb_ BK974 hb
   replace BK975 := bb_ BK975 hb
   replace BK976 := bb_ BK976 hb
   replace BK977 := bb_ BK977 hb
   replace HB := hb_ hb
   clear hb ho0
   obtain ⟨Ao51, co51, eo51⟩ := Kd.R_slice HO1001.out
   (first | subst eo51 | (injection eo51 with f1_ f2_ f3_; have f4_ := f1_.symm; have f5_ := f3_.symm; clear f1_ f2_ f3_; subst f4_; subst f5_))
   refine hK.out _ _ ⟨(blk_cell BK975.out 0).trans rfl, (blk_cell BK975.out 1).trans rfl⟩ (fun hHeld => ?_)
   clear hK K
   refine np_ 31 (h := ?_)
   refine one_ (i := 3) (N := some 32) #[true, true, true, true, true, true, true, false, false, false, false] rfl rfl (one_of HT_.out (by kernel_rfl)) (by decide) (fun K hK => ?_)
   refine goes_ Tryd.func84 (by kernel_rfl) rfl #[.bool true, .slice Ao51 t999.length co51] (by rfl) rfl rfl (as_) ?_
   with_reducible refine (trishawref01_whole.calls k true _ _ t999 t1002 t1003 _ ?side1 ?side2 A28.out).mono ?_
   (case side1 => exact cr_ HO1001.out)
   (case side2 => exact (Kd.R_reads' HO1001.out).2.1)
   rintro e w52 ⟨v1004, rfl, ho0, hb⟩
   refine ⟨_, rfl, ?_⟩
   have HO1005 := rl_ (rn_ (rn_ (rn_ (rn_ ho0 HO981) HO983) HO998) HO1001)
   replace HO981 := re_ HO981 ho0 hb
   replace HO983 := re_ HO983 ho0 hb
   replace HO998 := re_ HO998 ho0 hb
   replace HO1001 := re_ HO1001 ho0 hb
   replace BK974 := bb_ BK974 hb
   replace BK975 := bb_ BK975 hb
   replace BK976 := bb_ BK976 hb
   replace BK977 := bb_ BK977 hb
   replace HB := hb_ hb
   clear hb ho0
   refine hK.out _ _ ⟨(blk_cell BK975.out 0).trans rfl, (blk_cell BK975.out 1).trans rfl⟩ (fun hHeld => ?_)
   clear hK K
   refine np_ 32 (h := ?_)
   refine one_ (i := 7) (N := some 36) #[true, true, true, true, true, true, true, true, false, false, false] rfl rfl (one_of HT_.out (by kernel_rfl)) (by decide) (fun K hK => ?_)
   refine goes_ Tryd.func86 (by kernel_rfl) rfl #[.slice A1_1 l1_1.length c1_1, .slice Ao44 t979.length co44] (by rfl) rfl rfl (as_) ?_
   with_reducible refine (trishawref01_subD.calls k _ _ l1_1 _ _ t979 t1006 _ ?side1 ?side2 ?side3 ?side4 A29.out).mono ?_
   (case side1 => exact cb_ HR1_1.out)
   (case side2 => exact HC1_1.out)
   (case side3 => exact cr_ HO983.out)
   (case side4 => exact (Kd.R_reads' HO983.out).2.1)
   rintro e w53 ⟨v1007, rfl, ho0, hb⟩
   refine ⟨_, rfl, ?_⟩
   have HO1008 := rl_ (rn_ (rn_ (rn_ (rn_ (rn_ ho0 HO981) HO983) HO998) HO1001) HO1005)
   replace HO981 := re_ HO981 ho0 hb
   replace HO983 := re_ HO983 ho0 hb
   replace HO998 := re_ HO998 ho0 hb
   replace HO1001 := re_ HO1001 ho0 hb
   replace HO1005 := re_ HO1005 ho0 hb
   replace BK974 := bb_ BK974 hb
   replace BK975 := bb_ BK975 hb
   replace BK976 := bb_ BK976 hb
   replace BK977 := bb_ BK977 hb
   replace HB := hb_ hb
   clear hb ho0
   obtain ⟨Ao54, co54, eo54⟩ := Kd.R_slice HO1008.out
   (first | subst eo54 | (injection eo54 with f1_ f2_ f3_; have f4_ := f1_.symm; have f5_ := f3_.symm; clear f1_ f2_ f3_; subst f4_; subst f5_))
   refine hK.out _ _ ⟨(blk_cell BK975.out 0).trans rfl, (blk_cell BK975.out 1).trans rfl⟩ (fun hHeld => ?_)
   clear hK K
   refine np_ 36 (h := ?_)
   refine one_ (i := 8) (N := some 37) #[true, true, true, true, true, true, true, true, true, false, false] rfl rfl (one_of HT_.out (by kernel_rfl)) (by decide) (fun K hK => ?_)
   refine goes_ Tryd.func84 (by kernel_rfl) rfl #[.bool false, .slice Ao54 t1006.length co54] (by rfl) rfl rfl (as_) ?_
   with_reducible refine (trishawref01_whole.calls k false _ _ t1006 t1009 t1010 _ ?side1 ?side2 A30.out).mono ?_
   (case side1 => exact cr_ HO1008.out)
   (case side2 => exact (Kd.R_reads' HO1008.out).2.1)
   rintro e w55 ⟨v1011, rfl, ho0, hb⟩
   refine ⟨_, rfl, ?_⟩
   have HO1012 := rl_ (rn_ (rn_ (rn_ (rn_ (rn_ (rn_ ho0 HO981) HO983) HO998) HO1001) HO1005) HO1008)
   replace HO981 := re_ HO981 ho0 hb
   replace HO983 := re_ HO983 ho0 hb
   replace HO998 := re_ HO998 ho0 hb
   replace HO1001 := re_ HO1001 ho0 hb
   replace HO1005 := re_ HO1005 ho0 hb
   replace HO1008 := re_ HO1008 ho0 hb
   replace BK974 := bb_ BK974 hb
   replace BK975 := bb_ BK975 hb
   replace BK976 := bb_ BK976 hb
   replace BK977 := bb_ BK977 hb
   replace HB := hb_ hb
   clear hb ho0
   obtain ⟨Ao57, co57, eo57⟩ := Kd.R_slice HO1005.out
   (first | subst eo57 | (injection eo57 with f1_ f2_ f3_; have f4_ := f1_.symm; have f5_ := f3_.symm; clear f1_ f2_ f3_; subst f4_; subst f5_))
   obtain ⟨Ao60, co60, eo60⟩ := Kd.R_slice HO1012.out
   (first | subst eo60 | (injection eo60 with f1_ f2_ f3_; have f4_ := f1_.symm; have f5_ := f3_.symm; clear f1_ f2_ f3_; subst f4_; subst f5_))
   refine hK.out _ _ ⟨(blk_cell BK975.out 0).trans rfl, (blk_cell BK975.out 1).trans rfl⟩ (fun hHeld => ?_)
   clear hK K
   refine np_ 37 (h := ?_)
   refine one_ (i := 9) (N := none) #[true, true, true, true, true, true, true, true, true, true, false] rfl rfl (one_of HT_.out (by kernel_rfl)) (by decide) (fun K hK => ?_)
   have hs56 : w55.cell? ⟨gb976, 0, none⟩ = some (.bool false) := (blk_cell BK976.out 0).trans rfl
   have hfs56 := bz_ BK976 0
   have hns56_0 := NB974_976.out
   have hns56_1 := NB975_976.out
   have hns56_3 := NB977_976.out
   have hms56_0 := NB976_974.out
   have hms56_1 := NB976_975.out
   have hms56_3 := NB976_977.out
   have hs58 : w55.cell? ⟨gb976, 1, none⟩ = some (.slice none 0 0) := (blk_cell BK976.out 1).trans rfl
   have hfs58 := bz_ BK976 1
   have hns58_0 := NB974_976.out
   have hns58_1 := NB975_976.out
   have hns58_3 := NB977_976.out
   have hms58_0 := NB976_974.out
   have hms58_1 := NB976_975.out
   have hms58_3 := NB976_977.out
   refine skip_ (w1 := ?_) (by rfl) rfl ?_ ?_
   rotate_left
   ·go_simp
    rfl
   refine hK.out _ _ ⟨((cell_far (p := ⟨gb976, _, none⟩) NB975_976.out _).trans (((cell_far (p := ⟨gb976, _, none⟩) NB975_976.out _).trans (hHeld.1)))), ((cell_far (p := ⟨gb976, _, none⟩) NB975_976.out _).trans (((cell_far (p := ⟨gb976, _, none⟩) NB975_976.out _).trans (hHeld.2))))⟩ (fun hHeld => ?_)
   clear hK K
   refine one_ (i := 10) (N := none) #[true, true, true, true, true, true, true, true, true, true, true] rfl rfl (one_of HT_.out (by kernel_rfl)) (by decide) (fun K hK => ?_)
   have hs59 : w55.cell? ⟨gb977, 0, none⟩ = some (.bool false) := (blk_cell BK977.out 0).trans rfl
   have hfs59 := bz_ BK977 0
   have hns59_0 := NB974_977.out
   have hns59_1 := NB975_977.out
   have hns59_2 := NB976_977.out
   have hms59_0 := NB977_974.out
   have hms59_1 := NB977_975.out
   have hms59_2 := NB977_976.out
   have hs61 : w55.cell? ⟨gb977, 1, none⟩ = some (.slice none 0 0) := (blk_cell BK977.out 1).trans rfl
   have hfs61 := bz_ BK977 1
   have hns61_0 := NB974_977.out
   have hns61_1 := NB975_977.out
   have hns61_2 := NB976_977.out
   have hms61_0 := NB977_974.out
   have hms61_1 := NB977_975.out
   have hms61_2 := NB977_976.out
   refine skip_ (w1 := ?_) (by rfl) rfl ?_ ?_
   rotate_left
   ·go_simp
    rfl
   refine hK.out _ _ ⟨((cell_far (p := ⟨gb977, _, none⟩) NB975_977.out _).trans (((cell_far (p := ⟨gb977, _, none⟩) NB975_977.out _).trans (hHeld.1)))), ((cell_far (p := ⟨gb977, _, none⟩) NB975_977.out _).trans (((cell_far (p := ⟨gb977, _, none⟩) NB975_977.out _).trans (hHeld.2))))⟩ (fun hHeld => ?_)
   clear hK K
   refine done_ (done_of HT_.out (by kernel_rfl)) ?_
   try go_wp2
   refine bodyPost_ret (results_cc rfl _ _ gb976 gb977 91 91 #[.bool t1002, .slice Ao57 t1003.length co57] #[.bool t1009, .slice Ao60 t1010.length co60] (0, 0) (0, 0) _ _ rfl (by refine bk_ ?_; refine blk_far ?_ NB976_977.out _; refine bk_ ?_; refine blk_far ?_ NB976_977.out _; refine bk_ ?_; refine blk_put (cs := #[.bool t1002, .slice none 0 0]) ?_ 1 _ rfl; refine bk_ ?_; refine blk_put (cs := #[.bool false, .slice none 0 0]) ?_ 0 _ rfl; refine bk_ ?_; exact BK976.out) Tryd.underlying91 rfl (by kernel_rfl) rfl (by refine bk_ ?_; refine blk_put (cs := #[.bool t1009, .slice none 0 0]) ?_ 1 _ rfl; refine bk_ ?_; refine blk_put (cs := #[.bool false, .slice none 0 0]) ?_ 0 _ rfl; refine bk_ ?_; refine blk_far ?_ NB977_976.out _; refine bk_ ?_; refine blk_far ?_ NB977_976.out _; refine bk_ ?_; exact BK977.out) Tryd.underlying91 rfl (by kernel_rfl)) rfl ?_
   exact ⟨_, _, er_, by refine kr_ ?_; exact Kd.R_mono (Kd.R_far (p := ⟨gb977, 1, none⟩) (Kd.R_far (p := ⟨gb977, 0, none⟩) (Kd.R_far (p := ⟨gb976, 1, none⟩) (Kd.R_far (p := ⟨gb976, 0, none⟩) (Kd.R_types (Kd.R_types HO1005.out BK976.out (by decide)) BK977.out (by decide)) (fun _ hk => hk.1.2) (.bool t1002)) (fun _ hk => hk.1.2) (.slice Ao57 t1003.length co57)) (fun _ hk => hk.2) (.bool t1009)) (fun _ hk => hk.2) (.slice Ao60 t1010.length co60)) (fun _ hk => hk.1.1.2), by refine kr_ ?_; exact Kd.R_mono (Kd.R_far (p := ⟨gb977, 1, none⟩) (Kd.R_far (p := ⟨gb977, 0, none⟩) (Kd.R_far (p := ⟨gb976, 1, none⟩) (Kd.R_far (p := ⟨gb976, 0, none⟩) (Kd.R_types (Kd.R_types HO1012.out BK976.out (by decide)) BK977.out (by decide)) (fun _ hk => hk.1.2) (.bool t1002)) (fun _ hk => hk.1.2) (.slice Ao57 t1003.length co57)) (fun _ hk => hk.2) (.bool t1009)) (fun _ hk => hk.2) (.slice Ao60 t1010.length co60)) (fun _ hk => hk.1.1.1.2), bl_⟩
 ·replace c4 := Bool.eq_false_iff.mpr c4
  subst c4
  have H1 : ((trishawref01_whole.f k false t978).bind fun bt984 => ((trishawref01_whole.f k false t979).bind fun bt988 => (some (bt984.1, bt984.2, bt988.1, bt988.2)))) = some (r1, r2, r3, r4) := by rw [if_neg (show ¬ (false = true) by decide)] at H; exact H
  clear H
  have H := H1
  clear H1
  obtain ⟨⟨t984, t985⟩, A62, H⟩ := bi_ H
  replace H : ((trishawref01_whole.f k false t979).bind fun bt988 => (some (t984, t985, bt988.1, bt988.2))) = some (r1, r2, r3, r4) := H
  obtain ⟨⟨t988, t989⟩, A63, H⟩ := bi_ H
  replace H : (some (t984, t985, t988, t989)) = some (r1, r2, r3, r4) := H
  simp only [Option.some.injEq, Prod.mk.injEq] at H
  obtain ⟨rfl, rfl, rfl, rfl⟩ := H
  go_enter Tryd.func79, Tryd.ntmps79
  go_wp2_with (first | ((with_reducible refine gate_dst (N := 2) rfl ?_); refine be_ #[.bool false, .slice A0_1 l0_1.length c0_1] 91 ?_; intro gb974 hg w64 hbox hb; have BK974 := Aside0.mk (hbox); have GW974 := gw_ hg; have GE974 := gw_ hg; replace HB := hb_ hb; clear hb hbox hg) | ((with_reducible refine gate_dst (N := 3) rfl ?_); refine be_ #[.bool a1_0, .slice A1_1 l1_1.length c1_1] 91 ?_; intro gb975 hg w65 hbox hb; have BK975 := Aside0.mk (hbox); have GW975 := gw_ hg; have GE975 := gw_ hg; replace HB := hb_ hb; have NB974_975 := nl_ hg BK974; have NB975_974 := sy_ NB974_975; replace BK974 := bb_ BK974 hb; clear hb hbox hg) | ((with_reducible refine gate_dst (N := 4) rfl ?_); refine be_ #[.bool false, .slice none 0 0] 91 ?_; intro gb976 hg w66 hbox hb; have BK976 := Aside0.mk (hbox); have GW976 := gw_ hg; have GE976 := gw_ hg; replace HB := hb_ hb; have NB974_976 := nl_ hg BK974; have NB976_974 := sy_ NB974_976; replace BK974 := bb_ BK974 hb; have NB975_976 := nl_ hg BK975; have NB976_975 := sy_ NB975_976; replace BK975 := bb_ BK975 hb; clear hb hbox hg) | ((with_reducible refine gate_dst (N := 5) rfl ?_); refine be_ #[.bool false, .slice none 0 0] 91 ?_; intro gb977 hg w67 hbox hb; have BK977 := Aside0.mk (hbox); have GW977 := gw_ hg; have GE977 := gw_ hg; replace HB := hb_ hb; have NB974_977 := nl_ hg BK974; have NB977_974 := sy_ NB974_977; replace BK974 := bb_ BK974 hb; have NB975_977 := nl_ hg BK975; have NB977_975 := sy_ NB975_977; replace BK975 := bb_ BK975 hb; have NB976_977 := nl_ hg BK976; have NB977_976 := sy_ NB976_977; replace BK976 := bb_ BK976 hb; clear hb hbox hg; have hnb68 := NB974_975.out; have hnc68 := NB975_974.out; have hnb69 := NB974_976.out; have hnc69 := NB976_974.out; have hnb70 := NB974_977.out; have hnc70 := NB977_974.out; have hcz71_0 := bc_ BK974 0 (.bool false); have hcz71_1 := bc_ BK974 1 (.slice A0_1 l0_1.length c0_1); have hfz71_0 := bz_ BK974 0; have hfz71_1 := bz_ BK974 1; have hnb72 := NB975_976.out; have hnc72 := NB976_975.out; have hnb73 := NB975_977.out; have hnc73 := NB977_975.out; have hcz74_0 := bc_ BK975 0 (.bool a1_0); have hcz74_1 := bc_ BK975 1 (.slice A1_1 l1_1.length c1_1); have hfz74_0 := bz_ BK975 0; have hfz74_1 := bz_ BK975 1) | ((with_reducible refine gate_callee (f := 83) rfl ?_); refine goesL_ (some 13) rfl rfl Tryd.func83 (by kernel_rfl) rfl #[.slice A0_1 l0_1.length c0_1, .slice A1_1 l1_1.length c1_1] rfl (as_) ?_; (with_reducible refine (trishawref01_divD.calls k _ _ l0_1 _ _ l1_1 t978 t979 _ ?side1 ?side2 ?side3 ?side4 A3.out).mono ?_); (case side1 => exact cb_ HR0_1.out); (case side2 => exact HC0_1.out); (case side3 => exact cb_ HR1_1.out); (case side4 => exact HC1_1.out); rintro e w75 ⟨v980, v982, rfl, ho0, ho1, hb⟩; refine ⟨_, rfl, ?_⟩; have HO981 := rl_ ho0; have HO983 := rl_ ho1; replace BK974 := bb_ BK974 hb; replace BK975 := bb_ BK975 hb; replace BK976 := bb_ BK976 hb; replace BK977 := bb_ BK977 hb; replace HB := hb_ hb; clear hb ho0 ho1; have hcz76_0 := bc_ BK974 0 (.bool false); have hcz76_1 := bc_ BK974 1 (.slice A0_1 l0_1.length c0_1); have hfz76_0 := bz_ BK974 0; have hfz76_1 := bz_ BK974 1; obtain ⟨Ao77, co77, eo77⟩ := Kd.R_slice HO981.out; subst eo77) | ((with_reducible refine gate_callee (f := 84) rfl ?_); refine goesL_ (some 20) rfl rfl Tryd.func84 (by kernel_rfl) rfl #[.bool false, .slice Ao77 t978.length co77] rfl (as_) ?_; (with_reducible refine (trishawref01_whole.calls k false _ _ t978 t984 t985 _ ?side1 ?side2 A62.out).mono ?_); (case side1 => exact cr_ HO981.out); (case side2 => exact (Kd.R_reads' HO981.out).2.1); rintro e w78 ⟨v986, rfl, ho0, hb⟩; refine ⟨_, rfl, ?_⟩; have HO987 := rl_ (rn_ (rn_ ho0 HO981) HO983); replace HO981 := re_ HO981 ho0 hb; replace HO983 := re_ HO983 ho0 hb; replace BK974 := bb_ BK974 hb; replace BK975 := bb_ BK975 hb; replace BK976 := bb_ BK976 hb; replace BK977 := bb_ BK977 hb; replace HB := hb_ hb; clear hb ho0; obtain ⟨Ao79, co79, eo79⟩ := Kd.R_slice HO983.out; subst eo79) | ((with_reducible refine gate_callee (f := 84) rfl ?_); refine goesL_ (some 22) rfl rfl Tryd.func84 (by kernel_rfl) rfl #[.bool false, .slice Ao79 t979.length co79] rfl (as_) ?_; (with_reducible refine (trishawref01_whole.calls k false _ _ t979 t988 t989 _ ?side1 ?side2 A63.out).mono ?_); (case side1 => exact cr_ HO983.out); (case side2 => exact (Kd.R_reads' HO983.out).2.1); rintro e w80 ⟨v990, rfl, ho0, hb⟩; refine ⟨_, rfl, ?_⟩; have HO991 := rl_ (rn_ (rn_ (rn_ ho0 HO981) HO983) HO987); replace HO981 := re_ HO981 ho0 hb; replace HO983 := re_ HO983 ho0 hb; replace HO987 := re_ HO987 ho0 hb; replace BK974 := bb_ BK974 hb; replace BK975 := bb_ BK975 hb; replace BK976 := bb_ BK976 hb; replace BK977 := bb_ BK977 hb; replace HB := hb_ hb; clear hb ho0; have hnb81 := NB976_977.out; have hnc81 := NB977_976.out; have hcz82_0 := bc_ BK976 0 (.bool false); have hcz82_1 := bc_ BK976 1 (.slice none 0 0); have hfz82_0 := bz_ BK976 0; have hfz82_1 := bz_ BK976 1; obtain ⟨Ao83, co83, eo83⟩ := Kd.R_slice HO987.out; subst eo83; have hcz84_0 := bc_ BK977 0 (.bool false); have hcz84_1 := bc_ BK977 1 (.slice none 0 0); have hfz84_0 := bz_ BK977 0; have hfz84_1 := bz_ BK977 1; obtain ⟨Ao85, co85, eo85⟩ := Kd.R_slice HO991.out; subst eo85))
  refine bodyPost_ret (results_cc rfl _ _ gb976 gb977 91 91 #[.bool t984, .slice Ao83 t985.length co83] #[.bool t988, .slice Ao85 t989.length co85] (0, 0) (0, 0) _ _ rfl (by refine bk_ ?_; refine blk_far ?_ NB976_977.out _; refine bk_ ?_; refine blk_far ?_ NB976_977.out _; refine bk_ ?_; refine blk_put (cs := #[.bool t984, .slice none 0 0]) ?_ 1 _ rfl; refine bk_ ?_; refine blk_put (cs := #[.bool false, .slice none 0 0]) ?_ 0 _ rfl; refine bk_ ?_; exact BK976.out) Tryd.underlying91 rfl (by kernel_rfl) rfl (by refine bk_ ?_; refine blk_put (cs := #[.bool t988, .slice none 0 0]) ?_ 1 _ rfl; refine bk_ ?_; refine blk_put (cs := #[.bool false, .slice none 0 0]) ?_ 0 _ rfl; refine bk_ ?_; refine blk_far ?_ NB977_976.out _; refine bk_ ?_; refine blk_far ?_ NB977_976.out _; refine bk_ ?_; exact BK977.out) Tryd.underlying91 rfl (by kernel_rfl)) rfl ?_
  exact ⟨_, _, er_, by refine kr_ ?_; exact Kd.R_mono (Kd.R_far (p := ⟨gb977, 1, none⟩) (Kd.R_far (p := ⟨gb977, 0, none⟩) (Kd.R_far (p := ⟨gb976, 1, none⟩) (Kd.R_far (p := ⟨gb976, 0, none⟩) (Kd.R_types (Kd.R_types HO987.out BK976.out (by decide)) BK977.out (by decide)) (fun _ hk => hk.1.2) (.bool t984)) (fun _ hk => hk.1.2) (.slice Ao83 t985.length co83)) (fun _ hk => hk.2) (.bool t988)) (fun _ hk => hk.2) (.slice Ao85 t989.length co85)) (fun _ hk => hk.1.1.2), by refine kr_ ?_; exact Kd.R_mono (Kd.R_far (p := ⟨gb977, 1, none⟩) (Kd.R_far (p := ⟨gb977, 0, none⟩) (Kd.R_far (p := ⟨gb976, 1, none⟩) (Kd.R_far (p := ⟨gb976, 0, none⟩) (Kd.R_types (Kd.R_types HO991.out BK976.out (by decide)) BK977.out (by decide)) (fun _ hk => hk.1.2) (.bool t984)) (fun _ hk => hk.1.2) (.slice Ao83 t985.length co83)) (fun _ hk => hk.2) (.bool t988)) (fun _ hk => hk.2) (.slice Ao85 t989.length co85)) (fun _ hk => hk.1.1.2), bl_⟩

end Go.Proofs.YtgobffgogmnmpaaDoor.P
