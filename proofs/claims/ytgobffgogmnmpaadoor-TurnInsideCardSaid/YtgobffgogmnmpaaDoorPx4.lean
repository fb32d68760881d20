-- Written by wip/tools/myprint.py of this session's repo, over the kit's printer and hand texts.
import Derived.Test.YtgobffgogmnmpaaDoorPx0
import Derived.Test.YtgobffgogmnmpaaDoorPre
import Derived.Test.YtgobffgogmnmpaaDoorPx2
namespace Go.Proofs.YtgobffgogmnmpaaDoor.P
open Go.RowKit Go.Proofs.YtgobffgogmnmpaaDoorW.PrintWords Go.Proofs.YtgobffgogmnmpaaDoorW.PrintLast Go.Proofs.YtgobffgogmnmpaaDoorW.PrintMore
attribute [local go_sem] max2_int min2_int max_two min_two max_three min_three max_four min_four   -- for this text's walks alone
set_option linter.unusedVariables false
set_option linter.unusedSimpArgs false

attribute [local go_sem high] eqA51
/-! ### turn_table_window: function 70 -/
/-- The package variable none holds the window without days. -/
structure NoneLaid (w : World) : Prop where
  c0 : w.cell? ⟨0, 0, none⟩ = some (.int .i64 0)
  c1 : w.cell? ⟨0, 1, none⟩ = some (.int .i64 (-1))
theorem NoneLaid.of {w w' : World} (h : NoneLaid w) (hb : Below w.heap.size w w') : NoneLaid w' :=
  ⟨(hb.cell (World.block_lt_of_cell? w _ h.c0)).trans h.c0, (hb.cell (World.block_lt_of_cell? w _ h.c1)).trans h.c1⟩
theorem NoneLaid.ne {w : World} {g : Nat} (h : NoneLaid w) (hg : w.heap.size ≤ g) : g ≠ 0 := by
  have h1 : 0 < w.heap.size := World.block_lt_of_cell? w _ h.c0
  omega
def turn_table_window.l0 : Nat → Int → Int → Int → Int → Int → Int → Int → List Int → Int → Int → Int → Option (Int × Int)
  | 0, _, _, _, _, _, _, _, _, _, _, _ => none
  | k + 1, x2, x9, x10, x11, x12, x31, x32, x115000, x115001, x116000, x116001 => if x32 < x31 then (if (wrap64 (x2 * x10)) ≤ (wrap64 ((wrap64 (x9 * (wrap64 (x32 + 1)))) + (wrap64 (x116000 * x115001)))) then (if (wrap64 ((wrap64 (x2 - 1)) * x10)) ≥ (wrap64 ((wrap64 (x9 * x32)) - (wrap64 (x116000 * x115001)))) then (turn_table_window.l0 k x2 x9 x10 (mn x11 x32) x32 x31 (wrap64 (x32 + 1)) x115000 x115001 x116000 x116001) else (turn_table_window.l0 k x2 x9 x10 x11 x12 x31 (wrap64 (x32 + 1)) x115000 x115001 x116000 x116001)) else (turn_table_window.l0 k x2 x9 x10 x11 x12 x31 (wrap64 (x32 + 1)) x115000 x115001 x116000 x116001)) else (if x12 ≥ 0 then (if (!(x11 == 0) || (!(x12 == (-1)))) = true then (some (x11, x12)) else (some (0, (-1)))) else (some (0, (-1))))
def turn_table_window.f (k : Nat) (l0_0 : List Int) (a0_1 : Int) (a1 : Int) (a2 : Int) (a3_0 : Int) (a3_1 : Int) : Option (Int × Int) := if 0 ≤ a1 then (if a1 < (l0_0.length : Int) then (turn_table_window.l0 k a2 (wrap64 ((rd l0_0 a1) * a3_1)) (wrap64 (a0_1 * a3_1)) a0_1 (-1) a0_1 0 l0_0 a0_1 a3_0 a3_1) else (none)) else (none)
theorem turn_table_window.mono_l : ∀ k, (∀ y0 y1 y2 y3 y4 y5 y6 y7 y8 y9 y10, LeO (turn_table_window.l0 k y0 y1 y2 y3 y4 y5 y6 y7 y8 y9 y10) (turn_table_window.l0 (k + 1) y0 y1 y2 y3 y4 y5 y6 y7 y8 y9 y10))
  | 0 => fun _ _ _ _ _ _ _ _ _ _ _ r h => by simp [turn_table_window.l0] at h
  | k + 1 => by
    have ih0 := turn_table_window.mono_l k
    · intro y0 y1 y2 y3 y4 y5 y6 y7 y8 y9 y10
      unfold turn_table_window.l0
      with_reducible repeat' first | exact ih0 _ _ _ _ _ _ _ _ _ _ _ | exact LeO.refl _ | exact LeO.none _ | refine LeO.ite ?_ ?_ | refine LeO.bind ?_ (fun _ => ?_)
theorem turn_table_window.mono : ∀ a0 a1 a2 a3 a4 a5 k, LeO (turn_table_window.f k a0 a1 a2 a3 a4 a5) (turn_table_window.f (k + 1) a0 a1 a2 a3 a4 a5) := by
  intro a0 a1 a2 a3 a4 a5 k
  have ih0 := turn_table_window.mono_l k
  unfold turn_table_window.f
  with_reducible repeat' first | exact ih0 _ _ _ _ _ _ _ _ _ _ _ | exact LeO.refl _ | exact LeO.none _ | refine LeO.ite ?_ ?_ | refine LeO.bind ?_ (fun _ => ?_)
set_option maxHeartbeats 8000000 in
set_option maxRecDepth 100000 in
theorem turn_table_window.calls (k : Nat) (A0_0 : Option Addr) (c0_0 : Nat) (l0_0 : List Int) (a0_1 : Int) (a1 : Int) (a2 : Int) (a3_0 : Int) (a3_1 : Int) (r1 : Int) (r2 : Int) (w : World) (hr0_0 : Kd.C (Kd.int .i64) w A0_0 l0_0.length l0_0) (hc0_0 : l0_0.length ≤ c0_0) (h : turn_table_window.f k l0_0 a0_1 a1 a2 a3_0 a3_1 = some (r1, r2)) (hN0 : NoneLaid w) :
    Calls Tryd.prog 70 #[.agg #[.slice A0_0 l0_0.length c0_0, .int .i64 a0_1], .int .i64 a1, .int .i64 a2, .agg #[.int .i64 a3_0, .int .i64 a3_1]] w fun e w' => e = .returned (.agg #[.int .i64 r1, .int .i64 r2]) ∧ Below w.heap.size w w' := by
 have HN := Aside0.mk hN0
 clear hN0
 have hu60 := Tryd.underlying60
 have hu26 := Tryd.underlying26
 have hu51 := Tryd.underlying51
 have HR0_0 := Aside0.mk hr0_0
 have HC0_0 := Aside0.mk hc0_0
 clear hr0_0 hc0_0
 have HB := Aside0.mk (Below.refl w.heap.size w)
 have H : (if 0 ≤ a1 then (if a1 < (l0_0.length : Int) then (turn_table_window.l0 k a2 (wrap64 ((rd l0_0 a1) * a3_1)) (wrap64 (a0_1 * a3_1)) a0_1 (-1) a0_1 0 l0_0 a0_1 a3_0 a3_1) else (none)) else (none)) = some (r1, r2) := h
 clear h
 obtain ⟨c5b0, H⟩ := fp_ H
 obtain ⟨c6b0, H⟩ := fp_ H
 have H' := Aside0.mk H
 clear H
 go_enter Tryd.func70, Tryd.ntmps70
 go_wp2_with (first | ((with_reducible refine gate_dst (N := 4) rfl ?_); refine be_ #[.slice A0_0 l0_0.length c0_0, .int .i64 a0_1] 60 ?_; intro gb114 hg w7 hbox hb; have BK114 := Aside0.mk (hbox); have GW114 := gw_ hg; have GE114 := gw_ hg; replace HB := hb_ hb; clear hb hbox hg) | ((with_reducible refine gate_dst (N := 7) rfl ?_); refine be_ #[.int .i64 a3_0, .int .i64 a3_1] 26 ?_; intro gb115 hg w8 hbox hb; have BK115 := Aside0.mk (hbox); have GW115 := gw_ hg; have GE115 := gw_ hg; replace HB := hb_ hb; have NB114_115 := nl_ hg BK114; have NB115_114 := sy_ NB114_115; replace BK114 := bb_ BK114 hb; clear hb hbox hg) | ((with_reducible refine gate_dst (N := 8) rfl ?_); refine be_ #[.int .i64 0, .int .i64 0] 51 ?_; intro gb116 hg w9 hbox hb; have BK116 := Aside0.mk (hbox); have GW116 := gw_ hg; have GE116 := gw_ hg; replace HB := hb_ hb; have NB114_116 := nl_ hg BK114; have NB116_114 := sy_ NB114_116; replace BK114 := bb_ BK114 hb; have NB115_116 := nl_ hg BK115; have NB116_115 := sy_ NB115_116; replace BK115 := bb_ BK115 hb; clear hb hbox hg; have hnb10 := NB114_115.out; have hnc10 := NB115_114.out; have hnb11 := NB114_116.out; have hnc11 := NB116_114.out; have hcz12_0 := bc_ BK114 0 (.slice A0_0 l0_0.length c0_0); have hcz12_1 := bc_ BK114 1 (.int .i64 a0_1); have hfz12_0 := bz_ BK114 0; have hfz12_1 := bz_ BK114 1; obtain ⟨ad117, e117, hx117_0, p117, q117⟩ := ai_ HR0_0.out a1; cases e117; replace hx117_0 := hc_ HB hx117_0; have hnb13 := NB115_116.out; have hnc13 := NB116_115.out; have hcz14_0 := bc_ BK115 0 (.int .i64 a3_0); have hcz14_1 := bc_ BK115 1 (.int .i64 a3_1); have hfz14_0 := bz_ BK115 0; have hfz14_1 := bz_ BK115 1))
 repeat (go_quiet (first | ((with_reducible refine gate_dst (N := 4) rfl ?_); refine be_ #[.slice A0_0 l0_0.length c0_0, .int .i64 a0_1] 60 ?_; intro gb114 hg w7 hbox hb; have BK114 := Aside0.mk (hbox); have GW114 := gw_ hg; have GE114 := gw_ hg; replace HB := hb_ hb; clear hb hbox hg) | ((with_reducible refine gate_dst (N := 7) rfl ?_); refine be_ #[.int .i64 a3_0, .int .i64 a3_1] 26 ?_; intro gb115 hg w8 hbox hb; have BK115 := Aside0.mk (hbox); have GW115 := gw_ hg; have GE115 := gw_ hg; replace HB := hb_ hb; have NB114_115 := nl_ hg BK114; have NB115_114 := sy_ NB114_115; replace BK114 := bb_ BK114 hb; clear hb hbox hg) | ((with_reducible refine gate_dst (N := 8) rfl ?_); refine be_ #[.int .i64 0, .int .i64 0] 51 ?_; intro gb116 hg w9 hbox hb; have BK116 := Aside0.mk (hbox); have GW116 := gw_ hg; have GE116 := gw_ hg; replace HB := hb_ hb; have NB114_116 := nl_ hg BK114; have NB116_114 := sy_ NB114_116; replace BK114 := bb_ BK114 hb; have NB115_116 := nl_ hg BK115; have NB116_115 := sy_ NB115_116; replace BK115 := bb_ BK115 hb; clear hb hbox hg; have hnb10 := NB114_115.out; have hnc10 := NB115_114.out; have hnb11 := NB114_116.out; have hnc11 := NB116_114.out; have hcz12_0 := bc_ BK114 0 (.slice A0_0 l0_0.length c0_0); have hcz12_1 := bc_ BK114 1 (.int .i64 a0_1); have hfz12_0 := bz_ BK114 0; have hfz12_1 := bz_ BK114 1; obtain ⟨ad117, e117, hx117_0, p117, q117⟩ := ai_ HR0_0.out a1; cases e117; replace hx117_0 := hc_ HB hx117_0; have hnb13 := NB115_116.out; have hnc13 := NB116_115.out; have hcz14_0 := bc_ BK115 0 (.int .i64 a3_0); have hcz14_1 := bc_ BK115 1 (.int .i64 a3_1); have hfz14_0 := bz_ BK115 0; have hfz14_1 := bz_ BK115 1)); try go_wp2_with (first | ((with_reducible refine gate_dst (N := 4) rfl ?_); refine be_ #[.slice A0_0 l0_0.length c0_0, .int .i64 a0_1] 60 ?_; intro gb114 hg w7 hbox hb; have BK114 := Aside0.mk (hbox); have GW114 := gw_ hg; have GE114 := gw_ hg; replace HB := hb_ hb; clear hb hbox hg) | ((with_reducible refine gate_dst (N := 7) rfl ?_); refine be_ #[.int .i64 a3_0, .int .i64 a3_1] 26 ?_; intro gb115 hg w8 hbox hb; have BK115 := Aside0.mk (hbox); have GW115 := gw_ hg; have GE115 := gw_ hg; replace HB := hb_ hb; have NB114_115 := nl_ hg BK114; have NB115_114 := sy_ NB114_115; replace BK114 := bb_ BK114 hb; clear hb hbox hg) | ((with_reducible refine gate_dst (N := 8) rfl ?_); refine be_ #[.int .i64 0, .int .i64 0] 51 ?_; intro gb116 hg w9 hbox hb; have BK116 := Aside0.mk (hbox); have GW116 := gw_ hg; have GE116 := gw_ hg; replace HB := hb_ hb; have NB114_116 := nl_ hg BK114; have NB116_114 := sy_ NB114_116; replace BK114 := bb_ BK114 hb; have NB115_116 := nl_ hg BK115; have NB116_115 := sy_ NB115_116; replace BK115 := bb_ BK115 hb; clear hb hbox hg; have hnb10 := NB114_115.out; have hnc10 := NB115_114.out; have hnb11 := NB114_116.out; have hnc11 := NB116_114.out; have hcz12_0 := bc_ BK114 0 (.slice A0_0 l0_0.length c0_0); have hcz12_1 := bc_ BK114 1 (.int .i64 a0_1); have hfz12_0 := bz_ BK114 0; have hfz12_1 := bz_ BK114 1; obtain ⟨ad117, e117, hx117_0, p117, q117⟩ := ai_ HR0_0.out a1; cases e117; replace hx117_0 := hc_ HB hx117_0; have hnb13 := NB115_116.out; have hnc13 := NB116_115.out; have hcz14_0 := bc_ BK115 0 (.int .i64 a3_0); have hcz14_1 := bc_ BK115 1 (.int .i64 a3_1); have hfz14_0 := bz_ BK115 0; have hfz14_1 := bz_ BK115 1)))
 go_loopg [11, 12, 32] k (fun kq v11 v12 v32 w' => ∃ (x11_1 : Int) (x12_1 : Int) (x32_1 : Int), v11 = .int .i64 x11_1 ∧ v12 = .int .i64 x12_1 ∧ v32 = .int .i64 x32_1 ∧ Aside0 (turn_table_window.l0 kq a2 (wrap64 ((rd l0_0 a1) * a3_1)) (wrap64 (a0_1 * a3_1)) x11_1 x12_1 a0_1 x32_1 l0_0 a0_1 a3_0 a3_1 = some (r1, r2)) ∧ Aside0 (kq ≤ k) ∧ Aside0 (w'.heap[gb114]? = some (.cells #[(.slice (some ad117) l0_0.length c0_0), .int .i64 a0_1] 60 (0, 0))) ∧ Aside0 (w'.heap[gb115]? = some (.cells #[.int .i64 a3_0, .int .i64 a3_1] 26 (0, 0))) ∧ Aside0 (w'.heap[gb116]? = some (.cells #[.int .i64 0, .int .i64 0] 51 (0, 0))) ∧ Aside0 (Below w.heap.size w w'))
 case atStart => exact ⟨(a0_1), ((-1)), (0), rs_, rs_, rs_, H', ⟨Nat.le_refl _⟩, ⟨bk_ BK114.out⟩, ⟨bk_ BK115.out⟩, ⟨bk_ BK116.out⟩, ⟨bl_⟩⟩
 case round =>
  clear H'
  try clear c1
  try clear p1
  try clear q1
  try clear hx1
  try clear p2
  try clear c5
  try clear c5b0
  try clear c6
  try clear c6b0
  try clear p6
  try clear c7
  try clear c10
  try clear c11
  try clear p11
  try clear q11
  try clear hx11
  try clear c13
  try clear hcz12_0
  try clear hcz12_1
  try clear hcz14_0
  try clear hcz14_1
  try clear hfz12_0
  try clear hfz12_1
  try clear hfz14_0
  try clear hfz14_1
  try clear hx117_0
  try clear p117
  try clear q117
  obtain ⟨x11_1, x12_1, x32_1, rfl, rfl, rfl, HA, HK1, BK114, BK115, BK116, HB⟩ := hrel
  cases gk with
  | zero => exact absurd HA.out (by simp [turn_table_window.l0])
  | succ k1 =>
   have H := HA.out
   clear HA
   simp only [turn_table_window.l0] at H
   by_cases c15 : x32_1 < a0_1
   ·rw [if_pos c15] at H
    have c15b0 : decide (x32_1 < a0_1) = true := decide_eq_true c15
    clear c15
    by_cases c16 : (wrap64 (a2 * (wrap64 (a0_1 * a3_1)))) ≤ (wrap64 ((wrap64 ((wrap64 ((rd l0_0 a1) * a3_1)) * (wrap64 (x32_1 + 1)))) + (wrap64 (a3_0 * a0_1))))
    ·rw [if_pos c16] at H
     have c16b0 : decide ((wrap64 (a2 * (wrap64 (a0_1 * a3_1)))) ≤ (wrap64 ((wrap64 ((wrap64 ((rd l0_0 a1) * a3_1)) * (wrap64 (x32_1 + 1)))) + (wrap64 (a3_0 * a0_1))))) = true := decide_eq_true c16
     clear c16
     by_cases c17 : (wrap64 ((wrap64 (a2 - 1)) * (wrap64 (a0_1 * a3_1)))) ≥ (wrap64 ((wrap64 ((wrap64 ((rd l0_0 a1) * a3_1)) * x32_1)) - (wrap64 (a3_0 * a0_1))))
     ·rw [if_pos c17] at H
      have c17b0 : decide ((wrap64 ((wrap64 ((wrap64 ((rd l0_0 a1) * a3_1)) * x32_1)) - (wrap64 (a3_0 * a0_1)))) ≤ (wrap64 ((wrap64 (a2 - 1)) * (wrap64 (a0_1 * a3_1))))) = true := decide_eq_true c17
      clear c17
      obtain ⟨ji18, hji18⟩ : ∃ j_ : Int, (mn x11_1 x32_1) = j_ := ⟨_, rfl⟩
      replace H : (turn_table_window.l0 k1 a2 (wrap64 ((rd l0_0 a1) * a3_1)) (wrap64 (a0_1 * a3_1)) ji18 x32_1 a0_1 (wrap64 (x32_1 + 1)) l0_0 a0_1 a3_0 a3_1) = some (r1, r2) := by first | (rw [hji18] at H; exact H) | (simp only [hji18] at H ⊢; exact H)
      have hji18_ : (if x32_1 < x11_1 then x32_1 else x11_1) = ji18 := hji18
      have H' := Aside0.mk H
      clear H
      have hnb19 := NB115_114.out
      have hnc19 := NB114_115.out
      have hnb20 := NB115_116.out
      have hnc20 := NB116_115.out
      have hcz21_0 := bc_ BK115 0 (.int .i64 a3_0)
      have hcz21_1 := bc_ BK115 1 (.int .i64 a3_1)
      have hfz21_0 := bz_ BK115 0
      have hfz21_1 := bz_ BK115 1
      have hnb22 := NB114_116.out
      have hnc22 := NB116_114.out
      have hcz23_0 := bc_ BK114 0 (.slice (some ad117) l0_0.length c0_0)
      have hcz23_1 := bc_ BK114 1 (.int .i64 a0_1)
      have hfz23_0 := bz_ BK114 0
      have hfz23_1 := bz_ BK114 1
      go_wp2
      repeat (go_quiet (fail); try go_wp2)
      go_roundg k1
      case measure => have := HK1.out; omega
      case rel => exact ⟨(ji18), (x32_1), (wrap64 (x32_1 + 1)), (by first | rfl | (simp; done) | (simp only [← hji18] <;> (first | rfl | simp)) | (simp [*]; done)), rs_, rs_, H', ⟨by have := HK1.out; omega⟩, ⟨bk_ BK114.out⟩, ⟨bk_ BK115.out⟩, ⟨bk_ BK116.out⟩, ⟨bl_⟩⟩
     ·rw [if_neg c17] at H
      have c17b0 : decide ((wrap64 ((wrap64 ((wrap64 ((rd l0_0 a1) * a3_1)) * x32_1)) - (wrap64 (a3_0 * a0_1)))) ≤ (wrap64 ((wrap64 (a2 - 1)) * (wrap64 (a0_1 * a3_1))))) = false := decide_eq_false c17
      clear c17
      have H' := Aside0.mk H
      clear H
      have hnb24 := NB115_114.out
      have hnc24 := NB114_115.out
      have hnb25 := NB115_116.out
      have hnc25 := NB116_115.out
      have hcz26_0 := bc_ BK115 0 (.int .i64 a3_0)
      have hcz26_1 := bc_ BK115 1 (.int .i64 a3_1)
      have hfz26_0 := bz_ BK115 0
      have hfz26_1 := bz_ BK115 1
      have hnb27 := NB114_116.out
      have hnc27 := NB116_114.out
      have hcz28_0 := bc_ BK114 0 (.slice (some ad117) l0_0.length c0_0)
      have hcz28_1 := bc_ BK114 1 (.int .i64 a0_1)
      have hfz28_0 := bz_ BK114 0
      have hfz28_1 := bz_ BK114 1
      go_wp2
      repeat (go_quiet (fail); try go_wp2)
      go_roundg k1
      case measure => have := HK1.out; omega
      case rel => exact ⟨(x11_1), (x12_1), (wrap64 (x32_1 + 1)), rs_, rs_, rs_, H', ⟨by have := HK1.out; omega⟩, ⟨bk_ BK114.out⟩, ⟨bk_ BK115.out⟩, ⟨bk_ BK116.out⟩, ⟨bl_⟩⟩
    ·rw [if_neg c16] at H
     have c16b0 : decide ((wrap64 (a2 * (wrap64 (a0_1 * a3_1)))) ≤ (wrap64 ((wrap64 ((wrap64 ((rd l0_0 a1) * a3_1)) * (wrap64 (x32_1 + 1)))) + (wrap64 (a3_0 * a0_1))))) = false := decide_eq_false c16
     clear c16
     have H' := Aside0.mk H
     clear H
     have hnb29 := NB115_114.out
     have hnc29 := NB114_115.out
     have hnb30 := NB115_116.out
     have hnc30 := NB116_115.out
     have hcz31_0 := bc_ BK115 0 (.int .i64 a3_0)
     have hcz31_1 := bc_ BK115 1 (.int .i64 a3_1)
     have hfz31_0 := bz_ BK115 0
     have hfz31_1 := bz_ BK115 1
     have hnb32 := NB114_116.out
     have hnc32 := NB116_114.out
     have hcz33_0 := bc_ BK114 0 (.slice (some ad117) l0_0.length c0_0)
     have hcz33_1 := bc_ BK114 1 (.int .i64 a0_1)
     have hfz33_0 := bz_ BK114 0
     have hfz33_1 := bz_ BK114 1
     go_wp2
     repeat (go_quiet (fail); try go_wp2)
     go_roundg k1
     case measure => have := HK1.out; omega
     case rel => exact ⟨(x11_1), (x12_1), (wrap64 (x32_1 + 1)), rs_, rs_, rs_, H', ⟨by have := HK1.out; omega⟩, ⟨bk_ BK114.out⟩, ⟨bk_ BK115.out⟩, ⟨bk_ BK116.out⟩, ⟨bl_⟩⟩
   ·rw [if_neg c15] at H
    have c15b0 : decide (x32_1 < a0_1) = false := decide_eq_false c15
    clear c15
    by_cases c34 : x12_1 ≥ 0
    ·rw [if_pos c34] at H
     have c34b0 : decide (0 ≤ x12_1) = true := decide_eq_true c34
     clear c34
     by_cases c35 : (!(x11_1 == 0) || (!(x12_1 == (-1)))) = true
     ·rw [if_pos c35] at H
      have c35b0 : (!(x11_1 == 0) || (!(x12_1 == (-1)))) = true := c35
      clear c35
      simp only [Option.some.injEq, Prod.mk.injEq] at H
      obtain ⟨rfl, rfl⟩ := H
      go_wp2_with (first | ((with_reducible refine gate_dst (N := 14) rfl ?_); refine be_ #[.int .i64 0, .int .i64 0] 51 ?_; intro gb118 hg w36 hbox hb; have BK118 := Aside0.mk (hbox); have GW118 := gw_ hg; have GE118 := gw_ hg; replace HB := hb_ hb; have NB114_118 := nl_ hg BK114; have NB118_114 := sy_ NB114_118; replace BK114 := bb_ BK114 hb; have NB115_118 := nl_ hg BK115; have NB118_115 := sy_ NB115_118; replace BK115 := bb_ BK115 hb; have NB116_118 := nl_ hg BK116; have NB118_116 := sy_ NB116_118; replace BK116 := bb_ BK116 hb; clear hb hbox hg; have hnb37 := NB118_114.out; have hnc37 := NB114_118.out; have hnb38 := NB118_115.out; have hnc38 := NB115_118.out; have hnb39 := NB118_116.out; have hnc39 := NB116_118.out; have hcz40_0 := bc_ BK118 0 (.int .i64 0); have hcz40_1 := bc_ BK118 1 (.int .i64 0); have hfz40_0 := bz_ BK118 0; have hfz40_1 := bz_ BK118 1; have hnb41 := NB116_114.out; have hnc41 := NB114_116.out; have hnb42 := NB116_115.out; have hnc42 := NB115_116.out; have hcz43_0 := bc_ BK116 0 (.int .i64 0); have hcz43_1 := bc_ BK116 1 (.int .i64 0); have hfz43_0 := bz_ BK116 0; have hfz43_1 := bz_ BK116 1; have hcg_0 : w36.cell? ⟨0, 0, none⟩ = some (.int .i64 0) := (HN.out.of HB.out).c0; have hcg_1 : w36.cell? ⟨0, 1, none⟩ = some (.int .i64 (-1)) := (HN.out.of HB.out).c1; have hge_ := HN.out.ne GE118.out; have hgf_ := hge_.symm))
      repeat (go_quiet (first | ((with_reducible refine gate_dst (N := 14) rfl ?_); refine be_ #[.int .i64 0, .int .i64 0] 51 ?_; intro gb118 hg w36 hbox hb; have BK118 := Aside0.mk (hbox); have GW118 := gw_ hg; have GE118 := gw_ hg; replace HB := hb_ hb; have NB114_118 := nl_ hg BK114; have NB118_114 := sy_ NB114_118; replace BK114 := bb_ BK114 hb; have NB115_118 := nl_ hg BK115; have NB118_115 := sy_ NB115_118; replace BK115 := bb_ BK115 hb; have NB116_118 := nl_ hg BK116; have NB118_116 := sy_ NB116_118; replace BK116 := bb_ BK116 hb; clear hb hbox hg; have hnb37 := NB118_114.out; have hnc37 := NB114_118.out; have hnb38 := NB118_115.out; have hnc38 := NB115_118.out; have hnb39 := NB118_116.out; have hnc39 := NB116_118.out; have hcz40_0 := bc_ BK118 0 (.int .i64 0); have hcz40_1 := bc_ BK118 1 (.int .i64 0); have hfz40_0 := bz_ BK118 0; have hfz40_1 := bz_ BK118 1; have hnb41 := NB116_114.out; have hnc41 := NB114_116.out; have hnb42 := NB116_115.out; have hnc42 := NB115_116.out; have hcz43_0 := bc_ BK116 0 (.int .i64 0); have hcz43_1 := bc_ BK116 1 (.int .i64 0); have hfz43_0 := bz_ BK116 0; have hfz43_1 := bz_ BK116 1; have hcg_0 : w36.cell? ⟨0, 0, none⟩ = some (.int .i64 0) := (HN.out.of HB.out).c0; have hcg_1 : w36.cell? ⟨0, 1, none⟩ = some (.int .i64 (-1)) := (HN.out.of HB.out).c1; have hge_ := HN.out.ne GE118.out; have hgf_ := hge_.symm)); try go_wp2_with (first | ((with_reducible refine gate_dst (N := 14) rfl ?_); refine be_ #[.int .i64 0, .int .i64 0] 51 ?_; intro gb118 hg w36 hbox hb; have BK118 := Aside0.mk (hbox); have GW118 := gw_ hg; have GE118 := gw_ hg; replace HB := hb_ hb; have NB114_118 := nl_ hg BK114; have NB118_114 := sy_ NB114_118; replace BK114 := bb_ BK114 hb; have NB115_118 := nl_ hg BK115; have NB118_115 := sy_ NB115_118; replace BK115 := bb_ BK115 hb; have NB116_118 := nl_ hg BK116; have NB118_116 := sy_ NB116_118; replace BK116 := bb_ BK116 hb; clear hb hbox hg; have hnb37 := NB118_114.out; have hnc37 := NB114_118.out; have hnb38 := NB118_115.out; have hnc38 := NB115_118.out; have hnb39 := NB118_116.out; have hnc39 := NB116_118.out; have hcz40_0 := bc_ BK118 0 (.int .i64 0); have hcz40_1 := bc_ BK118 1 (.int .i64 0); have hfz40_0 := bz_ BK118 0; have hfz40_1 := bz_ BK118 1; have hnb41 := NB116_114.out; have hnc41 := NB114_116.out; have hnb42 := NB116_115.out; have hnc42 := NB115_116.out; have hcz43_0 := bc_ BK116 0 (.int .i64 0); have hcz43_1 := bc_ BK116 1 (.int .i64 0); have hfz43_0 := bz_ BK116 0; have hfz43_1 := bz_ BK116 1; have hcg_0 : w36.cell? ⟨0, 0, none⟩ = some (.int .i64 0) := (HN.out.of HB.out).c0; have hcg_1 : w36.cell? ⟨0, 1, none⟩ = some (.int .i64 (-1)) := (HN.out.of HB.out).c1; have hge_ := HN.out.ne GE118.out; have hgf_ := hge_.symm)))
      refine bodyPost_ret (results_cell_row rfl _ _ gb116 51 #[.int .i64 x11_1, .int .i64 x12_1] (0, 0) _ rfl (by refine bk_ ?_; refine blk_put (cs := #[.int .i64 x11_1, .int .i64 0]) ?_ 1 _ rfl; refine bk_ ?_; refine blk_put (cs := #[.int .i64 0, .int .i64 0]) ?_ 0 _ rfl; refine bk_ ?_; refine blk_far ?_ NB116_118.out _; refine bk_ ?_; refine blk_far ?_ NB116_118.out _; refine bk_ ?_; exact BK116.out) Tryd.underlying51 rfl (by kernel_rfl)) rfl ?_
      exact ⟨er_, bl_⟩
     ·rw [if_neg c35] at H
      have c35b0 : (!(x11_1 == 0) || (!(x12_1 == (-1)))) = false := by simpa using c35
      clear c35
      simp only [Option.some.injEq, Prod.mk.injEq] at H
      obtain ⟨rfl, rfl⟩ := H
      go_wp2_with (first | ((with_reducible refine gate_dst (N := 14) rfl ?_); refine be_ #[.int .i64 0, .int .i64 0] 51 ?_; intro gb118 hg w44 hbox hb; have BK118 := Aside0.mk (hbox); have GW118 := gw_ hg; have GE118 := gw_ hg; replace HB := hb_ hb; have NB114_118 := nl_ hg BK114; have NB118_114 := sy_ NB114_118; replace BK114 := bb_ BK114 hb; have NB115_118 := nl_ hg BK115; have NB118_115 := sy_ NB115_118; replace BK115 := bb_ BK115 hb; have NB116_118 := nl_ hg BK116; have NB118_116 := sy_ NB116_118; replace BK116 := bb_ BK116 hb; clear hb hbox hg; have hnb45 := NB118_114.out; have hnc45 := NB114_118.out; have hnb46 := NB118_115.out; have hnc46 := NB115_118.out; have hnb47 := NB118_116.out; have hnc47 := NB116_118.out; have hcz48_0 := bc_ BK118 0 (.int .i64 0); have hcz48_1 := bc_ BK118 1 (.int .i64 0); have hfz48_0 := bz_ BK118 0; have hfz48_1 := bz_ BK118 1; have hnb49 := NB116_114.out; have hnc49 := NB114_116.out; have hnb50 := NB116_115.out; have hnc50 := NB115_116.out; have hcz51_0 := bc_ BK116 0 (.int .i64 0); have hcz51_1 := bc_ BK116 1 (.int .i64 0); have hfz51_0 := bz_ BK116 0; have hfz51_1 := bz_ BK116 1; have hcg_0 : w44.cell? ⟨0, 0, none⟩ = some (.int .i64 0) := (HN.out.of HB.out).c0; have hcg_1 : w44.cell? ⟨0, 1, none⟩ = some (.int .i64 (-1)) := (HN.out.of HB.out).c1; have hge_ := HN.out.ne GE118.out; have hgf_ := hge_.symm))
      repeat (go_quiet (first | ((with_reducible refine gate_dst (N := 14) rfl ?_); refine be_ #[.int .i64 0, .int .i64 0] 51 ?_; intro gb118 hg w44 hbox hb; have BK118 := Aside0.mk (hbox); have GW118 := gw_ hg; have GE118 := gw_ hg; replace HB := hb_ hb; have NB114_118 := nl_ hg BK114; have NB118_114 := sy_ NB114_118; replace BK114 := bb_ BK114 hb; have NB115_118 := nl_ hg BK115; have NB118_115 := sy_ NB115_118; replace BK115 := bb_ BK115 hb; have NB116_118 := nl_ hg BK116; have NB118_116 := sy_ NB116_118; replace BK116 := bb_ BK116 hb; clear hb hbox hg; have hnb45 := NB118_114.out; have hnc45 := NB114_118.out; have hnb46 := NB118_115.out; have hnc46 := NB115_118.out; have hnb47 := NB118_116.out; have hnc47 := NB116_118.out; have hcz48_0 := bc_ BK118 0 (.int .i64 0); have hcz48_1 := bc_ BK118 1 (.int .i64 0); have hfz48_0 := bz_ BK118 0; have hfz48_1 := bz_ BK118 1; have hnb49 := NB116_114.out; have hnc49 := NB114_116.out; have hnb50 := NB116_115.out; have hnc50 := NB115_116.out; have hcz51_0 := bc_ BK116 0 (.int .i64 0); have hcz51_1 := bc_ BK116 1 (.int .i64 0); have hfz51_0 := bz_ BK116 0; have hfz51_1 := bz_ BK116 1; have hcg_0 : w44.cell? ⟨0, 0, none⟩ = some (.int .i64 0) := (HN.out.of HB.out).c0; have hcg_1 : w44.cell? ⟨0, 1, none⟩ = some (.int .i64 (-1)) := (HN.out.of HB.out).c1; have hge_ := HN.out.ne GE118.out; have hgf_ := hge_.symm)); try go_wp2_with (first | ((with_reducible refine gate_dst (N := 14) rfl ?_); refine be_ #[.int .i64 0, .int .i64 0] 51 ?_; intro gb118 hg w44 hbox hb; have BK118 := Aside0.mk (hbox); have GW118 := gw_ hg; have GE118 := gw_ hg; replace HB := hb_ hb; have NB114_118 := nl_ hg BK114; have NB118_114 := sy_ NB114_118; replace BK114 := bb_ BK114 hb; have NB115_118 := nl_ hg BK115; have NB118_115 := sy_ NB115_118; replace BK115 := bb_ BK115 hb; have NB116_118 := nl_ hg BK116; have NB118_116 := sy_ NB116_118; replace BK116 := bb_ BK116 hb; clear hb hbox hg; have hnb45 := NB118_114.out; have hnc45 := NB114_118.out; have hnb46 := NB118_115.out; have hnc46 := NB115_118.out; have hnb47 := NB118_116.out; have hnc47 := NB116_118.out; have hcz48_0 := bc_ BK118 0 (.int .i64 0); have hcz48_1 := bc_ BK118 1 (.int .i64 0); have hfz48_0 := bz_ BK118 0; have hfz48_1 := bz_ BK118 1; have hnb49 := NB116_114.out; have hnc49 := NB114_116.out; have hnb50 := NB116_115.out; have hnc50 := NB115_116.out; have hcz51_0 := bc_ BK116 0 (.int .i64 0); have hcz51_1 := bc_ BK116 1 (.int .i64 0); have hfz51_0 := bz_ BK116 0; have hfz51_1 := bz_ BK116 1; have hcg_0 : w44.cell? ⟨0, 0, none⟩ = some (.int .i64 0) := (HN.out.of HB.out).c0; have hcg_1 : w44.cell? ⟨0, 1, none⟩ = some (.int .i64 (-1)) := (HN.out.of HB.out).c1; have hge_ := HN.out.ne GE118.out; have hgf_ := hge_.symm)))
      refine bodyPost_ret (results_cell_row rfl _ _ gb116 51 #[.int .i64 0, .int .i64 (-1)] (0, 0) _ rfl (by refine bk_ ?_; refine blk_put (cs := #[.int .i64 0, .int .i64 0]) ?_ 1 _ rfl; refine bk_ ?_; refine blk_put (cs := #[.int .i64 0, .int .i64 0]) ?_ 0 _ rfl; refine bk_ ?_; refine blk_far ?_ NB116_118.out _; refine bk_ ?_; refine blk_far ?_ NB116_118.out _; refine bk_ ?_; exact BK116.out) Tryd.underlying51 rfl (by kernel_rfl)) rfl ?_
      exact ⟨er_, bl_⟩
    ·rw [if_neg c34] at H
     have c34b0 : decide (0 ≤ x12_1) = false := decide_eq_false c34
     clear c34
     simp only [Option.some.injEq, Prod.mk.injEq] at H
     obtain ⟨rfl, rfl⟩ := H
     go_wp2_with (first | ((with_reducible refine gate_dst (N := 14) rfl ?_); refine be_ #[.int .i64 0, .int .i64 0] 51 ?_; intro gb118 hg w52 hbox hb; have BK118 := Aside0.mk (hbox); have GW118 := gw_ hg; have GE118 := gw_ hg; replace HB := hb_ hb; have NB114_118 := nl_ hg BK114; have NB118_114 := sy_ NB114_118; replace BK114 := bb_ BK114 hb; have NB115_118 := nl_ hg BK115; have NB118_115 := sy_ NB115_118; replace BK115 := bb_ BK115 hb; have NB116_118 := nl_ hg BK116; have NB118_116 := sy_ NB116_118; replace BK116 := bb_ BK116 hb; clear hb hbox hg; have hnb53 := NB118_114.out; have hnc53 := NB114_118.out; have hnb54 := NB118_115.out; have hnc54 := NB115_118.out; have hnb55 := NB118_116.out; have hnc55 := NB116_118.out; have hcz56_0 := bc_ BK118 0 (.int .i64 0); have hcz56_1 := bc_ BK118 1 (.int .i64 0); have hfz56_0 := bz_ BK118 0; have hfz56_1 := bz_ BK118 1; have hnb57 := NB116_114.out; have hnc57 := NB114_116.out; have hnb58 := NB116_115.out; have hnc58 := NB115_116.out; have hcz59_0 := bc_ BK116 0 (.int .i64 0); have hcz59_1 := bc_ BK116 1 (.int .i64 0); have hfz59_0 := bz_ BK116 0; have hfz59_1 := bz_ BK116 1; have hcg_0 : w52.cell? ⟨0, 0, none⟩ = some (.int .i64 0) := (HN.out.of HB.out).c0; have hcg_1 : w52.cell? ⟨0, 1, none⟩ = some (.int .i64 (-1)) := (HN.out.of HB.out).c1; have hge_ := HN.out.ne GE118.out; have hgf_ := hge_.symm))
     repeat (go_quiet (first | ((with_reducible refine gate_dst (N := 14) rfl ?_); refine be_ #[.int .i64 0, .int .i64 0] 51 ?_; intro gb118 hg w52 hbox hb; have BK118 := Aside0.mk (hbox); have GW118 := gw_ hg; have GE118 := gw_ hg; replace HB := hb_ hb; have NB114_118 := nl_ hg BK114; have NB118_114 := sy_ NB114_118; replace BK114 := bb_ BK114 hb; have NB115_118 := nl_ hg BK115; have NB118_115 := sy_ NB115_118; replace BK115 := bb_ BK115 hb; have NB116_118 := nl_ hg BK116; have NB118_116 := sy_ NB116_118; replace BK116 := bb_ BK116 hb; clear hb hbox hg; have hnb53 := NB118_114.out; have hnc53 := NB114_118.out; have hnb54 := NB118_115.out; have hnc54 := NB115_118.out; have hnb55 := NB118_116.out; have hnc55 := NB116_118.out; have hcz56_0 := bc_ BK118 0 (.int .i64 0); have hcz56_1 := bc_ BK118 1 (.int .i64 0); have hfz56_0 := bz_ BK118 0; have hfz56_1 := bz_ BK118 1; have hnb57 := NB116_114.out; have hnc57 := NB114_116.out; have hnb58 := NB116_115.out; have hnc58 := NB115_116.out; have hcz59_0 := bc_ BK116 0 (.int .i64 0); have hcz59_1 := bc_ BK116 1 (.int .i64 0); have hfz59_0 := bz_ BK116 0; have hfz59_1 := bz_ BK116 1; have hcg_0 : w52.cell? ⟨0, 0, none⟩ = some (.int .i64 0) := (HN.out.of HB.out).c0; have hcg_1 : w52.cell? ⟨0, 1, none⟩ = some (.int .i64 (-1)) := (HN.out.of HB.out).c1; have hge_ := HN.out.ne GE118.out; have hgf_ := hge_.symm)); try go_wp2_with (first | ((with_reducible refine gate_dst (N := 14) rfl ?_); refine be_ #[.int .i64 0, .int .i64 0] 51 ?_; intro gb118 hg w52 hbox hb; have BK118 := Aside0.mk (hbox); have GW118 := gw_ hg; have GE118 := gw_ hg; replace HB := hb_ hb; have NB114_118 := nl_ hg BK114; have NB118_114 := sy_ NB114_118; replace BK114 := bb_ BK114 hb; have NB115_118 := nl_ hg BK115; have NB118_115 := sy_ NB115_118; replace BK115 := bb_ BK115 hb; have NB116_118 := nl_ hg BK116; have NB118_116 := sy_ NB116_118; replace BK116 := bb_ BK116 hb; clear hb hbox hg; have hnb53 := NB118_114.out; have hnc53 := NB114_118.out; have hnb54 := NB118_115.out; have hnc54 := NB115_118.out; have hnb55 := NB118_116.out; have hnc55 := NB116_118.out; have hcz56_0 := bc_ BK118 0 (.int .i64 0); have hcz56_1 := bc_ BK118 1 (.int .i64 0); have hfz56_0 := bz_ BK118 0; have hfz56_1 := bz_ BK118 1; have hnb57 := NB116_114.out; have hnc57 := NB114_116.out; have hnb58 := NB116_115.out; have hnc58 := NB115_116.out; have hcz59_0 := bc_ BK116 0 (.int .i64 0); have hcz59_1 := bc_ BK116 1 (.int .i64 0); have hfz59_0 := bz_ BK116 0; have hfz59_1 := bz_ BK116 1; have hcg_0 : w52.cell? ⟨0, 0, none⟩ = some (.int .i64 0) := (HN.out.of HB.out).c0; have hcg_1 : w52.cell? ⟨0, 1, none⟩ = some (.int .i64 (-1)) := (HN.out.of HB.out).c1; have hge_ := HN.out.ne GE118.out; have hgf_ := hge_.symm)))
     refine bodyPost_ret (results_cell_row rfl _ _ gb116 51 #[.int .i64 0, .int .i64 (-1)] (0, 0) _ rfl (by refine bk_ ?_; refine blk_put (cs := #[.int .i64 0, .int .i64 0]) ?_ 1 _ rfl; refine bk_ ?_; refine blk_put (cs := #[.int .i64 0, .int .i64 0]) ?_ 0 _ rfl; refine bk_ ?_; refine blk_far ?_ NB116_118.out _; refine bk_ ?_; refine blk_far ?_ NB116_118.out _; refine bk_ ?_; exact BK116.out) Tryd.underlying51 rfl (by kernel_rfl)) rfl ?_
     exact ⟨er_, bl_⟩

/-! ### turn_table_windows: function 46 -/
mutual
def turn_table_windows.l0 : Nat → List (List (S51)) → List Int → Int → Int → List Int → Int → Int → Int → Option ((List (List (S51))))
  | 0, _, _, _, _, _, _, _, _ => none
  | k + 1, x5, x11, x12, x13, x120000, x120001, x121000, x121001 => if x13 < x12 then (if 0 ≤ x13 then (if x13 < (x11.length : Int) then (turn_table_windows.l1 k x5 x13 ([] : List (S51)) x11 x12 x13 (rd x11 x13) 0 x120000 x120001 x121000 x121001) else (none)) else (none)) else (some x5)
def turn_table_windows.l1 : Nat → List (List (S51)) → Int → List (S51) → List Int → Int → Int → Int → Int → List Int → Int → Int → Int → Option ((List (List (S51))))
  | 0, _, _, _, _, _, _, _, _, _, _, _, _ => none
  | k + 1, x5, x6, x8, x11, x12, x13, x18, x19, x120000, x120001, x121000, x121001 => if x19 < x18 then ((turn_table_window.f k x120000 x120001 x6 (wrap64 (x19 + 1)) x121000 x121001).bind fun bt122 => (if x8.length < 8796093022208 then (turn_table_windows.l1 k x5 x6 (x8 ++ [(⟨bt122.1, bt122.2⟩ : S51)]) x11 x12 x13 x18 (wrap64 (x19 + 1)) x120000 x120001 x121000 x121001) else (none))) else (if x5.length < 5864062014805 then (turn_table_windows.l0 k (x5 ++ [x8]) x11 x12 (wrap64 (x13 + 1)) x120000 x120001 x121000 x121001) else (none))
end
def turn_table_windows.f (k : Nat) (l0_0 : List Int) (a0_1 : Int) (a1_0 : Int) (a1_1 : Int) : Option ((List (List (S51)))) := turn_table_windows.l0 k ([] : List (List (S51))) l0_0 (l0_0.length : Int) 0 l0_0 a0_1 a1_0 a1_1
theorem turn_table_windows.mono_l : ∀ k, (∀ y0 y1 y2 y3 y4 y5 y6 y7, LeO (turn_table_windows.l0 k y0 y1 y2 y3 y4 y5 y6 y7) (turn_table_windows.l0 (k + 1) y0 y1 y2 y3 y4 y5 y6 y7)) ∧ (∀ y0 y1 y2 y3 y4 y5 y6 y7 y8 y9 y10 y11, LeO (turn_table_windows.l1 k y0 y1 y2 y3 y4 y5 y6 y7 y8 y9 y10 y11) (turn_table_windows.l1 (k + 1) y0 y1 y2 y3 y4 y5 y6 y7 y8 y9 y10 y11))
  | 0 => ⟨fun _ _ _ _ _ _ _ _ r h => by simp [turn_table_windows.l0] at h, fun _ _ _ _ _ _ _ _ _ _ _ _ r h => by simp [turn_table_windows.l1] at h⟩
  | k + 1 => by
    obtain ⟨ih0, ih1⟩ := turn_table_windows.mono_l k
    refine ⟨?_, ?_⟩
    · intro y0 y1 y2 y3 y4 y5 y6 y7
      unfold turn_table_windows.l0
      with_reducible repeat' first | exact ih0 _ _ _ _ _ _ _ _ | exact ih1 _ _ _ _ _ _ _ _ _ _ _ _ | exact turn_table_window.mono _ _ _ _ _ _ _ | exact LeO.refl _ | exact LeO.none _ | refine LeO.ite ?_ ?_ | refine LeO.bind ?_ (fun _ => ?_)
    · intro y0 y1 y2 y3 y4 y5 y6 y7 y8 y9 y10 y11
      unfold turn_table_windows.l1
      with_reducible repeat' first | exact ih0 _ _ _ _ _ _ _ _ | exact ih1 _ _ _ _ _ _ _ _ _ _ _ _ | exact turn_table_window.mono _ _ _ _ _ _ _ | exact LeO.refl _ | exact LeO.none _ | refine LeO.ite ?_ ?_ | refine LeO.bind ?_ (fun _ => ?_)
theorem turn_table_windows.mono : ∀ a0 a1 a2 a3 k, LeO (turn_table_windows.f k a0 a1 a2 a3) (turn_table_windows.f (k + 1) a0 a1 a2 a3) := by
  intro a0 a1 a2 a3 k
  obtain ⟨ih0, ih1⟩ := turn_table_windows.mono_l k
  unfold turn_table_windows.f
  with_reducible repeat' first | exact ih0 _ _ _ _ _ _ _ _ | exact ih1 _ _ _ _ _ _ _ _ _ _ _ _ | exact turn_table_window.mono _ _ _ _ _ _ _ | exact LeO.refl _ | exact LeO.none _ | refine LeO.ite ?_ ?_ | refine LeO.bind ?_ (fun _ => ?_)
set_option maxHeartbeats 8000000 in
set_option maxRecDepth 100000 in
theorem turn_table_windows.calls (k : Nat) (A0_0 : Option Addr) (c0_0 : Nat) (l0_0 : List Int) (a0_1 : Int) (a1_0 : Int) (a1_1 : Int) (r : List (List (S51))) (w : World) (hr0_0 : Kd.C (Kd.int .i64) w A0_0 l0_0.length l0_0) (hc0_0 : l0_0.length ≤ c0_0) (h : turn_table_windows.f k l0_0 a0_1 a1_0 a1_1 = some r) (hN0 : NoneLaid w) :
    Calls Tryd.prog 46 #[.agg #[.slice A0_0 l0_0.length c0_0, .int .i64 a0_1], .agg #[.int .i64 a1_0, .int .i64 a1_1]] w fun e w' => ∃ v0_ : Value, e = .returned (v0_) ∧ Kd.S (Kd.slice 51 k51) 49 w' w.heap.size (fun _ => True) v0_ r ∧ Below w.heap.size w w' := by
 have HN := Aside0.mk hN0
 clear hN0
 have hu60 := Tryd.underlying60
 have hu26 := Tryd.underlying26
 have HR0_0 := Aside0.mk hr0_0
 have HC0_0 := Aside0.mk hc0_0
 clear hr0_0 hc0_0
 have HB := Aside0.mk (Below.refl w.heap.size w)
 have H : (turn_table_windows.l0 k ([] : List (List (S51))) l0_0 (l0_0.length : Int) 0 l0_0 a0_1 a1_0 a1_1) = some r := h
 clear h
 have H' := Aside0.mk H
 clear H
 go_enter Tryd.func46, Tryd.ntmps46
 go_wp2_with (first | ((with_reducible refine gate_dst (N := 2) rfl ?_); refine be_ #[.slice A0_0 l0_0.length c0_0, .int .i64 a0_1] 60 ?_; intro gb119 hg w3 hbox hb; have BK119 := Aside0.mk (hbox); have GW119 := gw_ hg; have GE119 := gw_ hg; replace HB := hb_ hb; clear hb hbox hg) | ((with_reducible refine gate_dst (N := 3) rfl ?_); refine be_ #[.int .i64 a1_0, .int .i64 a1_1] 26 ?_; intro gb120 hg w4 hbox hb; have BK120 := Aside0.mk (hbox); have GW120 := gw_ hg; have GE120 := gw_ hg; replace HB := hb_ hb; have NB119_120 := nl_ hg BK119; have NB120_119 := sy_ NB119_120; replace BK119 := bb_ BK119 hb; clear hb hbox hg; have hnb5 := NB119_120.out; have hnc5 := NB120_119.out; have hcz6_0 := bc_ BK119 0 (.slice A0_0 l0_0.length c0_0); have hcz6_1 := bc_ BK119 1 (.int .i64 a0_1); have hfz6_0 := bz_ BK119 0; have hfz6_1 := bz_ BK119 1))
 go_loopg [5, 13] k (fun kq v5 v13 w' => ∃ (x5_1 : List (List (S51))) (x13_1 : Int), v13 = .int .i64 x13_1 ∧ Aside0 (turn_table_windows.l0 kq x5_1 l0_0 (l0_0.length : Int) x13_1 l0_0 a0_1 a1_0 a1_1 = some r) ∧ Aside0 (kq ≤ k) ∧ Aside0 (Kd.S (Kd.slice 51 k51) 49 w' w.heap.size (fun _ => True) v5 x5_1) ∧ Aside0 (w'.heap[gb119]? = some (.cells #[(.slice A0_0 l0_0.length c0_0), .int .i64 a0_1] 60 (0, 0))) ∧ Aside0 (w'.heap[gb120]? = some (.cells #[.int .i64 a1_0, .int .i64 a1_1] 26 (0, 0))) ∧ Aside0 (Below w.heap.size w w'))
 case atStart => exact ⟨(([] : List (List (S51)))), (0), rs_, H', ⟨Nat.le_refl _⟩, ⟨by first | exact Kd.S_nil _ _ _ _ _ | exact Kd.N_nil _ _ _ _ _ | exact Kd.V_nil _ _ _ _ _ | exact Kd.Q_nil _ _ _ _ _ | exact Kd.R_nil _ _ _ _ _⟩, ⟨bk_ BK119.out⟩, ⟨bk_ BK120.out⟩, ⟨bl_⟩⟩
 case round =>
  clear H'
  try clear p2
  try clear c4
  try clear c5
  try clear hcz6_0
  try clear hcz6_1
  try clear hfz6_0
  try clear hfz6_1
  obtain ⟨x5_1, x13_1, rfl, HA, HK1, HO_5, BK119, BK120, HB⟩ := hrel
  cases gk with
  | zero => exact absurd HA.out (by simp [turn_table_windows.l0])
  | succ k1 =>
   have H := HA.out
   clear HA
   simp only [turn_table_windows.l0] at H
   by_cases c7 : x13_1 < (l0_0.length : Int)
   ·rw [if_pos c7] at H
    have c7b0 : decide (x13_1 < (l0_0.length : Int)) = true := decide_eq_true c7
    clear c7
    obtain ⟨c8b0, H⟩ := fp_ H
    obtain ⟨c9b0, H⟩ := fp_ H
    have H' := Aside0.mk H
    clear H
    obtain ⟨ad121, e121, hx121_0, p121, q121⟩ := ai_ HR0_0.out x13_1
    cases e121
    replace hx121_0 := hc_ HB hx121_0
    go_wp2
    go_loopg [8, 19] k1 (fun kq v8 v19 w' => ∃ (x8_2 : List (S51)) (x19_2 : Int), v19 = .int .i64 x19_2 ∧ Aside0 (turn_table_windows.l1 kq x5_1 x13_1 x8_2 l0_0 (l0_0.length : Int) x13_1 (rd l0_0 x13_1) x19_2 l0_0 a0_1 a1_0 a1_1 = some r) ∧ Aside0 (kq ≤ k1) ∧ Aside0 (Kd.S (Kd.slice 51 k51) 49 w' w.heap.size (fun k_ => some k_ ≠ (v8 : Value).ownBlock) u5 x5_1) ∧ Aside0 (Kd.R k51 51 w' w.heap.size (fun _ => True) v8 x8_2) ∧ Aside0 (w'.heap[gb119]? = some (.cells #[(.slice (some ad121) l0_0.length c0_0), .int .i64 a0_1] 60 (0, 0))) ∧ Aside0 (w'.heap[gb120]? = some (.cells #[.int .i64 a1_0, .int .i64 a1_1] 26 (0, 0))) ∧ Aside0 (Below w.heap.size w w'))
    case atStart => exact ⟨(([] : List (S51))), (0), rs_, H', ⟨Nat.le_refl _⟩, ⟨by refine ks_ ?_; exact Kd.S_mono HO_5.out (fun _ hk => (by simp [Value.ownBlock]))⟩, ⟨by first | exact Kd.R_nil _ _ _ _ _ | exact Kd.N_nil _ _ _ _ _ | exact Kd.V_nil _ _ _ _ _ | exact Kd.Q_nil _ _ _ _ _ | exact Kd.S_nil _ _ _ _ _⟩, ⟨bk_ BK119.out⟩, ⟨bk_ BK120.out⟩, ⟨bl_⟩⟩
    case round =>
     clear H'
     try clear p1
     try clear q1
     try clear hx1
     try clear p2
     try clear c4
     try clear c5
     try clear c7
     try clear c7b0
     try clear c8
     try clear c8b0
     try clear c9
     try clear c9b0
     try clear hcz6_0
     try clear hcz6_1
     try clear hfz6_0
     try clear hfz6_1
     try clear hx121_0
     try clear p121
     try clear p2
     try clear q121
     obtain ⟨x8_2, x19_2, rfl, HA, HK2, HO_5, HO_8, BK119, BK120, HB⟩ := hrel
     cases gk with
     | zero => exact absurd HA.out (by simp [turn_table_windows.l1])
     | succ k2 =>
      have H := HA.out
      clear HA
      simp only [turn_table_windows.l1] at H
      by_cases c10 : x19_2 < (rd l0_0 x13_1)
      ·rw [if_pos c10] at H
       have c10b0 : decide (x19_2 < (rd l0_0 x13_1)) = true := decide_eq_true c10
       clear c10
       obtain ⟨⟨t122, t123⟩, A11, H⟩ := bi_ H
       replace H : (if x8_2.length < 8796093022208 then (turn_table_windows.l1 k2 x5_1 x13_1 (x8_2 ++ [(⟨t122, t123⟩ : S51)]) l0_0 (l0_0.length : Int) x13_1 (rd l0_0 x13_1) (wrap64 (x19_2 + 1)) l0_0 a0_1 a1_0 a1_1) else (none)) = some r := H
       have c12 : x8_2.length < 8796093022208 := fl_ fun c12 => by rw [if_neg c12] at H; exact absurd H (by simp)
       rw [if_pos c12] at H
       have LMc12 := Aside0.mk c12
       clear c12
       obtain ⟨y124, hy124⟩ : ∃ y_ : List (S51), y_ = (x8_2 ++ [(⟨t122, t123⟩ : S51)]) := ⟨_, rfl⟩
       replace H : (turn_table_windows.l1 k2 x5_1 x13_1 y124 l0_0 (l0_0.length : Int) x13_1 (rd l0_0 x13_1) (wrap64 (x19_2 + 1)) l0_0 a0_1 a1_0 a1_1) = some r := by first | (rw [hy124]; with_reducible exact H) | (have H2_ := (Option.bind_some _ _).symm.trans H; rw [hy124]; with_reducible exact H2_) | (have H2_ := (Option.bind_some _ _).symm.trans H; with_reducible exact H2_) | with_reducible exact H | (rw [hy124]; exact H) | exact H
       have Ny124 := Aside0.mk hy124
       clear hy124
       have H' := Aside0.mk H
       clear H
       have hnb13 := NB119_120.out
       have hnc13 := NB120_119.out
       have hcz14_0 := bc_ BK119 0 (.slice (some ad121) l0_0.length c0_0)
       have hcz14_1 := bc_ BK119 1 (.int .i64 a0_1)
       have hfz14_0 := bz_ BK119 0
       have hfz14_1 := bz_ BK119 1
       have hcz15_0 := bc_ BK120 0 (.int .i64 a1_0)
       have hcz15_1 := bc_ BK120 1 (.int .i64 a1_1)
       have hfz15_0 := bz_ BK120 0
       have hfz15_1 := bz_ BK120 1
       go_wp2_with (first | ((with_reducible refine gate_callee (f := 70) rfl ?_); refine goesL_ (some 28) rfl rfl Tryd.func70 (by kernel_rfl) rfl #[.agg #[.slice (some ad121) l0_0.length c0_0, .int .i64 a0_1], .int .i64 x13_1, .int .i64 (wrap64 (x19_2 + 1)), .agg #[.int .i64 a1_0, .int .i64 a1_1]] rfl (as_) ?_; (with_reducible refine (turn_table_window.calls k2 _ _ l0_0 a0_1 x13_1 (wrap64 (x19_2 + 1)) a1_0 a1_1 t122 t123 _ ?side1 ?side2 A11.out (HN.out.of (bl_))).mono ?_); (case side1 => exact cb_ HR0_0.out); (case side2 => exact HC0_0.out); rintro e w16 ⟨rfl, hb⟩; refine ⟨_, rfl, ?_⟩; replace HO_5 := Aside0.mk (Kd.S_below (ks_ HO_5.out) hb); replace HO_8 := rb_ HO_8 hb; replace BK119 := bb_ BK119 hb; replace BK120 := bb_ BK120 hb; replace HB := hb_ hb; clear hb) | ((with_reducible refine gate_builtin (b := .append) (xs := #[.tmp 22, .tmp 29]) rfl ?_); at_builtin; refine Kd.R_append k51 (w0 := w) w.heap.size rfl (.tmp 22) (.tmp 29) 49 51 (.agg #[(.int .i64 0), (.int .i64 0)]) 16 rfl Tryd.underlying49 info51 rfl (by decide) (by omega) u8 x8_2 (⟨t122, t123⟩ : S51) [.int .i64 t122, .int .i64 t123] (fun _ => True) (fun _ => False) rfl rfl ?aP (fun _ hk => hk.elim) ?aF ?aO ?aB ?aS ?aL ?_; (case aP => exact k51_mkM _ _ _ (⟨t122, t123⟩ : S51)); (case aB => exact (bl_)); (case aF => exact (fun _ _ => trivial)); (case aO => exact (kr_ HO_8.out)); (case aS => exact (below_size (bl_))); (case aL => have := LMc12.out; omega); intro v125 w17 ho hb hg hat; rw [← Ny124.out] at ho; replace HO_5 := Aside0.mk (Kd.S_after (ok := (fun _ => True)) (by refine ks_ ?_; exact Kd.S_mono HO_5.out (fun _ hk => ⟨trivial, hk⟩)) hg hat); replace BK119 := Aside0.mk (blk_grown (g := gb119) (o := .cells #[.slice (some ad121) l0_0.length c0_0, .int .i64 a0_1] 60 (0, 0)) (bk_ BK119.out) hg (Kd.R_ne HO_8.out BK119.out (by decide))); replace BK120 := Aside0.mk (blk_grown (g := gb120) (o := .cells #[.int .i64 a1_0, .int .i64 a1_1] 26 (0, 0)) (bk_ BK120.out) hg (Kd.R_ne HO_8.out BK120.out (by decide))); replace HB := Aside0.mk (hb); have HO126 := Aside0.mk (ho); clear HO_8; clear ho hb hg hat))
       go_roundg k2
       case measure => have := HK1.out; have := HK2.out; omega
       case rel => exact ⟨(y124), (wrap64 (x19_2 + 1)), rs_, H', ⟨by have := HK1.out; have := HK2.out; omega⟩, ⟨by refine ks_ ?_; exact Kd.S_mono HO_5.out (fun _ hk => hk.2)⟩, ⟨kr_ HO126.out⟩, ⟨bk_ BK119.out⟩, ⟨bk_ BK120.out⟩, ⟨bl_⟩⟩
      ·rw [if_neg c10] at H
       have c10b0 : decide (x19_2 < (rd l0_0 x13_1)) = false := decide_eq_false c10
       clear c10
       have c18 : x5_1.length < 5864062014805 := fl_ fun c18 => by rw [if_neg c18] at H; exact absurd H (by simp)
       rw [if_pos c18] at H
       have LMc18 := Aside0.mk c18
       clear c18
       obtain ⟨y127, hy127⟩ : ∃ y_ : List (List (S51)), y_ = (x5_1 ++ [x8_2]) := ⟨_, rfl⟩
       replace H : (turn_table_windows.l0 k2 y127 l0_0 (l0_0.length : Int) (wrap64 (x13_1 + 1)) l0_0 a0_1 a1_0 a1_1) = some r := by first | (rw [hy127]; with_reducible exact H) | (have H2_ := (Option.bind_some _ _).symm.trans H; rw [hy127]; with_reducible exact H2_) | (have H2_ := (Option.bind_some _ _).symm.trans H; with_reducible exact H2_) | with_reducible exact H | (rw [hy127]; exact H) | exact H
       have Ny127 := Aside0.mk hy127
       clear hy127
       have H' := Aside0.mk H
       clear H
       obtain ⟨Ao20, co20, eo20⟩ := Kd.R_slice HO_8.out
       subst eo20
       go_wp2_with (first | ((with_reducible refine gate_builtin (b := .append) (xs := #[.tmp 32, .tmp 34]) rfl ?_); at_builtin; refine Kd.S_append (Kd.slice 51 k51) (w0 := w) w.heap.size rfl (.tmp 32) (.tmp 34) 46 49 (.slice none 0 0) 24 rfl Tryd.underlying46 info49 rfl (by decide) (by omega) u5 x5_1 x8_2 [.slice Ao20 x8_2.length co20] (fun _ => True) (fun k_ => some k_ = (.slice Ao20 x8_2.length co20 : Value).ownBlock) rfl rfl ?aP (fun k_ hk_ => ((Kd.R_mono (ok' := fun k_ => ((fun _ => True)) k_ ∧ some k_ ≠ (u5 : Value).ownBlock) (Kd.R_apart' (HO_8.out) (Kd.S_typed HO_5.out) (by decide)) (fun k_ hk => ⟨trivial, hk.2⟩))).1 k_ hk_.symm) ?aF ?aO ?aB ?aS ?aL ?_; (case aP => exact Kd.M_row (Kd.R_mono (Kd.R_tight rfl (Kd.R_mono (ok' := fun k_ => ((fun _ => True)) k_ ∧ some k_ ≠ (u5 : Value).ownBlock) (Kd.R_apart' (HO_8.out) (Kd.S_typed HO_5.out) (by decide)) (fun k_ hk => ⟨trivial, hk.2⟩))) (fun _ h_ => h_))); (case aB => exact (bl_)); (case aF => exact (fun _ _ => trivial)); (case aO => exact (by refine ks_ ?_; exact Kd.S_mono HO_5.out (fun k_ hk => ⟨trivial, fun e_ => hk e_⟩))); (case aS => exact (below_size (bl_))); (case aL => have := LMc18.out; omega); intro v128 w19 ho hb hg hat; rw [← Ny127.out] at ho; replace BK119 := Aside0.mk (blk_grown (g := gb119) (o := .cells #[.slice (some ad121) l0_0.length c0_0, .int .i64 a0_1] 60 (0, 0)) (bk_ BK119.out) hg (Kd.S_ne HO_5.out BK119.out (by decide))); replace BK120 := Aside0.mk (blk_grown (g := gb120) (o := .cells #[.int .i64 a1_0, .int .i64 a1_1] 26 (0, 0)) (bk_ BK120.out) hg (Kd.S_ne HO_5.out BK120.out (by decide))); replace HB := Aside0.mk (hb); have HO129 := Aside0.mk (ho); clear HO_5 HO_8; clear ho hb hg hat))
       go_roundg k2
       case measure => have := HK1.out; have := HK2.out; omega
       case rel => exact ⟨(y127), (wrap64 (x13_1 + 1)), rs_, H', ⟨by have := HK1.out; have := HK2.out; omega⟩, ⟨ks_ HO129.out⟩, ⟨bk_ BK119.out⟩, ⟨bk_ BK120.out⟩, ⟨bl_⟩⟩
   ·rw [if_neg c7] at H
    have c7b0 : decide (x13_1 < (l0_0.length : Int)) = false := decide_eq_false c7
    clear c7
    obtain rfl := Option.some.inj H
    go_wp2
    go_ret
    exact ⟨_, er_, by refine ks_ ?_; exact HO_5.out, bl_⟩

/-! ### slices_Clone_int_int: function 71 -/
def slices_Clone_int_int.f (l0 : List Int) : Option (List Int) := if l0.length < 17592186044416 then (some l0) else (none)
set_option maxHeartbeats 400000 in
set_option maxRecDepth 100000 in
theorem slices_Clone_int_int.calls (A0 : Option Addr) (c0 : Nat) (l0 : List Int) (r : List Int) (w : World) (hr0 : Kd.C (Kd.int .i64) w A0 l0.length l0) (hc0 : l0.length ≤ c0) (h : slices_Clone_int_int.f l0 = some r) :
    Calls Tryd.prog 71 #[.slice A0 l0.length c0] w fun e w' => ∃ v0_ : Value, e = .returned (v0_) ∧ Kd.R (Kd.int .i64) 3 w' w.heap.size (fun _ => True) v0_ r ∧ Below w.heap.size w w' := by
 unfold slices_Clone_int_int.f at h
 by_cases hl : l0.length < 17592186044416
 ·rw [if_pos hl] at h
  obtain rfl := Option.some.inj h
  clear h
  have hu1 := Tryd.underlying22
  have HR0 := Aside0.mk hr0
  have HC0 := Aside0.mk hc0
  have HL := Aside0.mk hl
  clear hr0 hc0 hl
  cases A0 with
  | none =>
   have he := fun w => Lib.run_eql_slice_nil (P := Tryd.prog) w 22 3 none l0.length c0 0 0 Tryd.underlying22
   go_enter Tryd.func71, Tryd.ntmps71
   go_wp2_with fail
   go_ret
   refine ⟨_, rfl, ?_, Below.refl _ _⟩
   have h0 : l0 = [] := by
    have := HR0.out.2.2
    cases l0 with
    | nil => rfl
    | cons x xs => exact absurd (this (by simp)) (by simp)
   rw [h0]
   exact Kd.R_nil _ _ _ _ _
  | some ad =>
   have he := fun w => Lib.run_eql_slice_nil (P := Tryd.prog) w 22 3 (some ad) l0.length c0 0 0 Tryd.underlying22
   have HB := Aside0.mk (Below.refl w.heap.size w)
   go_enter Tryd.func71, Tryd.ntmps71
   go_wp2_with (first | ((with_reducible refine gate_builtin (b := .append) (xs := #[.tmp 5, .tmp 6]) rfl ?_); at_builtin; refine Kd.R_append_row (Value.int .i64) (0 : Int) (h1 := fun _ => rfl) (w0 := w) w.heap.size rfl (.tmp 5) (.tmp 6) 22 3 (.int .i64 0) 8 rfl Tryd.underlying22 info3 rfl (by omega) (.slice (some ⟨w.heap.size, 0, none⟩) 0 0) ([] : List Int) l0 (some ad) l0.length c0 (fun _ => True) rfl rfl (fun _ _ => trivial) ?HO ?HR ?HW (by simp) (by have := HL.out; simp; omega) ?_; (case HO => exact Kd.R_of_own (own_lit w w.heap.size 3 .i64 [] (Nat.le_refl _) (by simp)) (fun _ _ => trivial)); (case HR => exact Kd.C_alloc HR0.out _); (case HW => exact below_alloc HB.out _); intro v1 w1 hR hb hg hat))
   go_ret
   exact ⟨_, rfl, hR, hb⟩
 ·rw [if_neg hl] at h
  exact absurd h (by simp)

end Go.Proofs.YtgobffgogmnmpaaDoor.P
