-- Written by wip/tools/myprint.py of this session's repo, over the kit's printer and hand texts.
import Derived.Test.YtlcgoacmlbeliaaDoorPx0
import Derived.Test.YtlcgoacmlbeliaaDoorPre
import Derived.Test.YtlcgoacmlbeliaaDoorPx5
import Derived.Test.YtlcgoacmlbeliaaDoorPx7
namespace Go.Proofs.YtlcgoacmlbeliaaDoor.P
open Go.RowKit Go.Proofs.YtlcgoacmlbeliaaDoorW.PrintWords Go.Proofs.YtlcgoacmlbeliaaDoorW.PrintLast Go.Proofs.YtlcgoacmlbeliaaDoorW.PrintMore
attribute [local go_sem] max2_int min2_int max_two min_two max_three min_three max_four min_four   -- for this text's walks alone
set_option linter.unusedVariables false
set_option linter.unusedSimpArgs false

/-! ### oneway_drawn: function 11 -/
def oneway_drawn.l0 : Nat → List (List (S39)) → List ByteArray → Int → Int → Int → List (S39) → Option (Int × (List (S39)) × (List (List (S39))) × Int)
  | 0, _, _, _, _, _, _ => none
  | k + 1, x11, x26, x27, x28, x244000, x244001 => if x28 < x27 then (if 0 ≤ x28 then (if x28 < (x26.length : Int) then ((oneway_quarter_signed.f k x244000 x244001 (rdOf ByteArray.empty x26 x28)).bind fun bt245 => (if bt245.2 = true then (if x11.length < 5864062014805 then (oneway_drawn.l0 k (x11 ++ [bt245.1]) x26 x27 (wrap64 (x28 + 1)) x244000 x244001) else (none)) else (some (x244000, x244001, ([] : List (List (S39))), 5)))) else (none)) else (none)) else (some (x244000, x244001, x11, 0))
def oneway_drawn.f (k : Nat) (a0 : Int) (l1 : List (S39)) (l2 : List ByteArray) : Option (Int × (List (S39)) × (List (List (S39))) × Int) := (oneway_read.f k a0 l1).bind fun bt238 => (if bt238.2.2 = 0 then (oneway_drawn.l0 k ([] : List (List (S39))) l2 (l2.length : Int) 0 bt238.1 bt238.2.1) else (some (bt238.1, bt238.2.1, ([] : List (List (S39))), bt238.2.2)))
theorem oneway_drawn.mono_l : ∀ k, (∀ y0 y1 y2 y3 y4 y5, LeO (oneway_drawn.l0 k y0 y1 y2 y3 y4 y5) (oneway_drawn.l0 (k + 1) y0 y1 y2 y3 y4 y5))
  | 0 => fun _ _ _ _ _ _ r h => by simp [oneway_drawn.l0] at h
  | k + 1 => by
    have ih0 := oneway_drawn.mono_l k
    · intro y0 y1 y2 y3 y4 y5
      unfold oneway_drawn.l0
      with_reducible repeat' first | exact ih0 _ _ _ _ _ _ | exact oneway_quarter_signed.mono _ _ _ _ | exact oneway_read.mono _ _ _ | exact LeO.refl _ | exact LeO.none _ | refine LeO.ite ?_ ?_ | refine LeO.bind ?_ (fun _ => ?_)
theorem oneway_drawn.mono : ∀ a0 a1 a2 k, LeO (oneway_drawn.f k a0 a1 a2) (oneway_drawn.f (k + 1) a0 a1 a2) := by
  intro a0 a1 a2 k
  have ih0 := oneway_drawn.mono_l k
  unfold oneway_drawn.f
  with_reducible repeat' first | exact ih0 _ _ _ _ _ _ | exact oneway_quarter_signed.mono _ _ _ _ | exact oneway_read.mono _ _ _ | exact LeO.refl _ | exact LeO.none _ | refine LeO.ite ?_ ?_ | refine LeO.bind ?_ (fun _ => ?_)
set_option maxHeartbeats 8000000 in
set_option maxRecDepth 100000 in
theorem oneway_drawn.calls (k : Nat) (a0 : Int) (P1_ : Nat → Prop) (A1 : Option Addr) (c1 : Nat) (l1 : List (S39)) (A2 : Option Addr) (c2 : Nat) (l2 : List ByteArray) (r1 : Int) (r2 : List (S39)) (r3 : List (List (S39))) (r4 : Int) (w : World) (hs1 : Kd.V k39 39 w w.heap.size (fun k_ => P1_ k_) (.slice A1 l1.length c1) l1) (hr2 : Kd.C Kd.string w A2 l2.length l2) (hc2 : l2.length ≤ c2) (h : oneway_drawn.f k a0 l1 l2 = some (r1, r2, r3, r4)) :
    Calls Tryd.prog 11 #[.int .i64 a0, .slice A1 l1.length c1, .slice A2 l2.length c2] w fun e w' => ∃ v1_ v2_ : Value, e = .returned (.tuple #[.agg #[.int .i64 r1, v1_], v2_, .int .i64 r4]) ∧ Kd.V k39 39 w' w.heap.size (fun k_ => (P1_ k_ ∨ w.heap.size ≤ k_) ∧ some k_ ≠ (v2_ : Value).ownBlock) v1_ r2 ∧ Kd.S (Kd.slice 39 k39) 45 w' w.heap.size (fun k_ => (w.heap.size ≤ k_)) v2_ r3 ∧ Below w.heap.size w w' := by
 have hu41 := Tryd.underlying41
 have HO1 := Aside0.mk (show Kd.V k39 39 w w.heap.size (fun k_ => (P1_ k_ ∨ w.heap.size ≤ k_)) (.slice A1 l1.length c1) l1 from Kd.V_mono hs1 (fun k_ hk => .inl hk))
 have HR2 := Aside0.mk hr2
 have HC2 := Aside0.mk hc2
 clear hr2 hc2
 have HB := Aside0.mk (Below.refl w.heap.size w)
 have H : ((oneway_read.f k a0 l1).bind fun bt238 => (if bt238.2.2 = 0 then (oneway_drawn.l0 k ([] : List (List (S39))) l2 (l2.length : Int) 0 bt238.1 bt238.2.1) else (some (bt238.1, bt238.2.1, ([] : List (List (S39))), bt238.2.2)))) = some (r1, r2, r3, r4) := h
 clear h
 obtain ⟨⟨t238, t239, t242⟩, A4, H⟩ := bi_ H
 replace H : (if t242 = 0 then (oneway_drawn.l0 k ([] : List (List (S39))) l2 (l2.length : Int) 0 t238 t239) else (some (t238, t239, ([] : List (List (S39))), t242))) = some (r1, r2, r3, r4) := H
 by_cases c5 : t242 = 0
 ·rw [if_pos c5] at H
  have c5b0 : (t242 == 0) = true := beq_iff_eq.mpr c5
  have c5b1 : (t242 != 0) = false := bne_eq_false_iff_eq.mpr c5
  clear c5
  have H' := Aside0.mk H
  clear H
  go_enter Tryd.func11, Tryd.ntmps11
  go_wp2_with (first | ((with_reducible refine gate_dst (N := 6) rfl ?_); refine be_ #[.int .i64 0, .slice none 0 0] 41 ?_; intro gb237 hg w6 hbox hb; replace HO1 := ve_ HO1 hg hb; have BK237 := Aside0.mk (hbox); have GW237 := gw_ hg; have GE237 := gw_ hg; replace HB := hb_ hb; clear hb hbox hg) | ((with_reducible refine gate_callee (f := 18) rfl ?_); refine goesL_ (some 19) rfl rfl Tryd.func18 (by kernel_rfl) rfl #[.int .i64 a0, .slice A1 l1.length c1] rfl (as_) ?_; (with_reducible refine (oneway_read.calls k a0 (fun k_ => ((P1_ k_ ∨ w.heap.size ≤ k_) ∧ k_ ≠ gb237)) _ _ l1 t238 t239 t242 _ ?side1 A4.out).mono ?_); (case side1 => exact HO1.out); rintro e w7 ⟨v240, rfl, ho0, hb⟩; refine ⟨_, rfl, ?_⟩; replace HO1 := Aside0.mk (Kd.V_below (kv_ HO1.out) hb); have HO241 := Aside0.mk (Kd.V_lower (Kd.V_mono (ok' := fun k_ => (P1_ k_ ∨ w.heap.size ≤ k_) ∧ k_ ≠ gb237) ho0 (fun k_ hk_ => ⟨Or.elim hk_ (fun hs_ => hs_.1) (fun hn_ => (.inr (Nat.le_trans (below_size (bl_)) hn_))), Or.elim hk_ (fun hs_ => hs_.2) (fun hn_ => (Kd.freshB (g := gb237) (o := .cells #[.int .i64 0, .slice none 0 0] 41 (0, 0)) (bk_ BK237.out) k_ hn_))⟩)) (below_size (bl_))); replace BK237 := bb_ BK237 hb; replace HB := hb_ hb; clear hb ho0) | ((with_reducible refine gate_dst (N := 9) rfl ?_); refine be_ #[.int .i64 0, .slice none 0 0] 41 ?_; intro gb243 hg w8 hbox hb; replace HO1 := ve_ HO1 hg hb; replace HO241 := ve_ HO241 hg hb; have BK243 := Aside0.mk (hbox); have GW243 := gw_ hg; have GE243 := gw_ hg; replace HB := hb_ hb; have NB237_243 := nl_ hg BK237; have NB243_237 := sy_ NB237_243; replace BK237 := bb_ BK237 hb; clear hb hbox hg; have hnb9 := NB243_237.out; have hnc9 := NB237_243.out; have hcz10_0 := bc_ BK243 0 (.int .i64 0); have hcz10_1 := bc_ BK243 1 (.slice none 0 0); have hfz10_0 := bz_ BK243 0; have hfz10_1 := bz_ BK243 1; obtain ⟨Ao11, co11, eo11⟩ := Kd.V_slice HO241.out; subst eo11))
  go_loopg [11, 28] k (fun kq v11 v28 w' => ∃ (x11_1 : List (List (S39))) (x28_1 : Int) (x238000_1 : Int), v28 = .int .i64 x28_1 ∧ Aside0 (oneway_drawn.l0 kq x11_1 l2 (l2.length : Int) x28_1 t238 t239 = some (r1, r2, r3, r4)) ∧ Aside0 (kq ≤ k) ∧ Aside0 (Kd.S (Kd.slice 39 k39) 45 w' w.heap.size (fun k_ => (w.heap.size ≤ k_)) v11 x11_1) ∧ Aside0 (Kd.V k39 39 w' w.heap.size (fun k_ => (P1_ k_ ∨ w.heap.size ≤ k_) ∧ some k_ ≠ (v11 : Value).ownBlock ∧ k_ ≠ gb237 ∧ k_ ≠ gb243) (.slice Ao11 t239.length co11) t239) ∧ Aside0 (w'.heap[gb237]? = some (.cells #[.int .i64 x238000_1, (.slice none 0 0)] 41 (0, 0))) ∧ Aside0 (w'.heap[gb243]? = some (.cells #[.int .i64 t238, (.slice Ao11 t239.length co11)] 41 (0, 0))) ∧ Aside0 (Below w.heap.size w w'))
  case atStart => exact ⟨(([] : List (List (S39)))), (0), (0), rs_, H', ⟨Nat.le_refl _⟩, ⟨by first | exact Kd.S_nil _ _ _ _ _ | exact Kd.N_nil _ _ _ _ _ | exact Kd.V_nil _ _ _ _ _ | exact Kd.Q_nil _ _ _ _ _ | exact Kd.R_nil _ _ _ _ _⟩, ⟨by refine kv_ ?_; exact Kd.V_mono (Kd.V_far (p := ⟨gb243, 1, none⟩) (Kd.V_far (p := ⟨gb243, 0, none⟩) (Kd.V_mono HO241.out (fun k_ hk => (⟨hk, hk.2⟩ : _ ∧ k_ ≠ gb243))) (fun _ hk => hk.2) (.int .i64 t238)) (fun _ hk => hk.2) (.slice Ao11 t239.length co11)) (fun _ hk => ⟨hk.1.1.1, ⟨(by simp [Value.ownBlock]), ⟨hk.1.1.2, hk.1.2⟩⟩⟩)⟩, ⟨by refine bk_ ?_; refine blk_far ?_ NB237_243.out _; refine bk_ ?_; refine blk_far ?_ NB237_243.out _; refine bk_ ?_; exact BK237.out⟩, ⟨by refine bk_ ?_; refine blk_put (cs := #[.int .i64 t238, .slice none 0 0]) ?_ 1 _ rfl; refine bk_ ?_; refine blk_put (cs := #[.int .i64 0, .slice none 0 0]) ?_ 0 _ rfl; refine bk_ ?_; exact BK243.out⟩, ⟨bl_⟩⟩
  case round =>
   clear H'
   try clear c1
   try clear c2
   try clear p2
   try clear c5
   try clear c5b0
   try clear c5b1
   try clear c9
   try clear c11
   try clear hcz10_0
   try clear hcz10_1
   try clear hfz10_0
   try clear hfz10_1
   obtain ⟨x11_1, x28_1, x238000_1, rfl, HA, HK1, HO_11, HO_244001, BK237, BK243, HB⟩ := hrel
   cases gk with
   | zero => exact absurd HA.out (by simp [oneway_drawn.l0])
   | succ k1 =>
    have H := HA.out
    clear HA
    simp only [oneway_drawn.l0] at H
    by_cases c12 : x28_1 < (l2.length : Int)
    ·rw [if_pos c12] at H
     have c12b0 : decide (x28_1 < (l2.length : Int)) = true := decide_eq_true c12
     clear c12
     obtain ⟨c13b0, H⟩ := fp_ H
     obtain ⟨c14b0, H⟩ := fp_ H
     obtain ⟨⟨t245, t248⟩, A15, H⟩ := bi_ H
     replace H : (if t248 = true then (if x11_1.length < 5864062014805 then (oneway_drawn.l0 k1 (x11_1 ++ [t245]) l2 (l2.length : Int) (wrap64 (x28_1 + 1)) t238 t239) else (none)) else (some (t238, t239, ([] : List (List (S39))), 5))) = some (r1, r2, r3, r4) := H
     by_cases c16 : t248 = true
     ·subst c16
      have H1 : (if x11_1.length < 5864062014805 then (oneway_drawn.l0 k1 (x11_1 ++ [t245]) l2 (l2.length : Int) (wrap64 (x28_1 + 1)) t238 t239) else (none)) = some (r1, r2, r3, r4) := by rw [if_pos rfl] at H; exact H
      clear H
      have H := H1
      clear H1
      have c17 : x11_1.length < 5864062014805 := fl_ fun c17 => by rw [if_neg c17] at H; exact absurd H (by simp)
      rw [if_pos c17] at H
      have LMc17 := Aside0.mk c17
      clear c17
      obtain ⟨y249, hy249⟩ : ∃ y_ : List (List (S39)), y_ = (x11_1 ++ [t245]) := ⟨_, rfl⟩
      replace H : (oneway_drawn.l0 k1 y249 l2 (l2.length : Int) (wrap64 (x28_1 + 1)) t238 t239) = some (r1, r2, r3, r4) := by first | (rw [hy249]; with_reducible exact H) | (have H2_ := (Option.bind_some _ _).symm.trans H; rw [hy249]; with_reducible exact H2_) | (have H2_ := (Option.bind_some _ _).symm.trans H; with_reducible exact H2_) | with_reducible exact H | (rw [hy249]; exact H) | exact H
      have Ny249 := Aside0.mk hy249
      clear hy249
      have H' := Aside0.mk H
      clear H
      have p244 : 0 ≤ (x28_1 : Int) := od_
      have q244 : x28_1 < (l2.length : Int) := od_
      obtain ⟨ad244, e244, hx244_0⟩ := Kd.at_string HR2.out x28_1 p244 q244
      cases e244
      replace hx244_0 := hc_ HB hx244_0
      replace p244 := eq_true p244
      replace q244 := eq_true q244
      have hnb18 := NB243_237.out
      have hnc18 := NB237_243.out
      have hcz19_0 := bc_ BK243 0 (.int .i64 t238)
      have hcz19_1 := bc_ BK243 1 (.slice Ao11 t239.length co11)
      have hfz19_0 := bz_ BK243 0
      have hfz19_1 := bz_ BK243 1
      go_wp2_with (first | ((with_reducible refine gate_callee (f := 21) rfl ?_); refine goesL_ (some 35) rfl rfl Tryd.func21 (by kernel_rfl) rfl #[.agg #[.int .i64 t238, .slice Ao11 t239.length co11], .string (rdOf ByteArray.empty l2 x28_1)] rfl (as_) ?_; (with_reducible refine (oneway_quarter_signed.calls k1 t238 _ _ t239 (rdOf ByteArray.empty l2 x28_1) t245 true _ ?side1 ?side2 A15.out).mono ?_); (case side1 => repeat (first | exact (Kd.V_reads' HO_244001.out).2.2 | (with_reducible refine Kd.C_alloc ?_ _) | (with_reducible refine Kd.C_drewN ?_ _) | (with_reducible refine Kd.C_drew ?_))); (case side2 => exact (Kd.V_reads' HO_244001.out).2.1); rintro e w20 ⟨v246, rfl, ho0, hb⟩; refine ⟨_, rfl, ?_⟩; replace HO_11 := Aside0.mk (Kd.S_elder' (ks_ HO_11.out) (Kd.R_base ho0) hb); replace HO_244001 := Aside0.mk (Kd.V_elder' (kv_ HO_244001.out) (Kd.R_base ho0) hb); have HO247 := Aside0.mk (Kd.R_lower (Kd.R_newM (M := fun k_ => (w.heap.size ≤ k_)) ho0 (below_size (bl_)) (fun k_ h_ => h_)) (below_size (bl_))); replace BK237 := bb_ BK237 hb; replace BK243 := bb_ BK243 hb; replace HB := hb_ hb; clear hb ho0; obtain ⟨Ao22, co22, eo22⟩ := Kd.R_slice HO247.out; subst eo22) | ((with_reducible refine gate_builtin (b := .append) (xs := #[.tmp 41, .tmp 43]) rfl ?_); at_builtin; refine Kd.S_append (Kd.slice 39 k39) (w0 := w) w.heap.size rfl (.tmp 41) (.tmp 43) 42 45 (.slice none 0 0) 24 rfl Tryd.underlying42 info45 rfl (by decide) (by omega) u11 x11_1 t245 [.slice Ao22 t245.length co22] (fun k_ => (w.heap.size ≤ k_)) (fun k_ => some k_ = (.slice Ao22 t245.length co22 : Value).ownBlock) rfl rfl ?aP (fun k_ hk_ => ((Kd.R_mono (ok' := fun k_ => ((fun k_ => (w.heap.size ≤ k_))) k_ ∧ some k_ ≠ (u11 : Value).ownBlock) (Kd.R_apart' (HO247.out) (Kd.S_typed HO_11.out) (by decide)) (fun k_ hk => ⟨hk.1.1, hk.2⟩))).1 k_ hk_.symm) ?aF ?aO ?aB ?aS ?aL ?_; (case aP => exact Kd.M_row (Kd.R_mono (Kd.R_tight rfl (Kd.R_mono (ok' := fun k_ => ((fun k_ => (w.heap.size ≤ k_))) k_ ∧ some k_ ≠ (u11 : Value).ownBlock) (Kd.R_apart' (HO247.out) (Kd.S_typed HO_11.out) (by decide)) (fun k_ hk => ⟨hk.1.1, hk.2⟩))) (fun _ h_ => h_))); (case aB => exact (bl_)); (case aF => exact (fun k_ hk => (Nat.le_trans (below_size (bl_)) hk))); (case aO => exact (by refine ks_ ?_; exact Kd.S_mono HO_11.out (fun k_ hk => ⟨hk.1, fun e_ => hk.2 e_⟩))); (case aS => exact (below_size (bl_))); (case aL => have := LMc17.out; omega); intro v250 w21 ho hb hg hat; rw [← Ny249.out] at ho; replace HO_244001 := Aside0.mk (Kd.V_afterv (ok := (fun k_ => (P1_ k_ ∨ w.heap.size ≤ k_) ∧ some k_ ≠ (.slice Ao22 t245.length co22 : Value).ownBlock ∧ k_ ≠ gb237 ∧ k_ ≠ gb243)) (by refine kv_ ?_; exact Kd.V_mono HO_244001.out (fun _ hk => ⟨⟨hk.1.1, ⟨hk.2, ⟨hk.1.2.2.1, hk.1.2.2.2⟩⟩⟩, hk.1.2.1⟩)) hg hat); replace BK237 := Aside0.mk (blk_grown (g := gb237) (o := .cells #[.int .i64 x238000_1, .slice none 0 0] 41 (0, 0)) (bk_ BK237.out) hg (Kd.S_ne HO_11.out BK237.out (by decide))); replace BK243 := Aside0.mk (blk_grown (g := gb243) (o := .cells #[.int .i64 t238, .slice Ao11 t239.length co11] 41 (0, 0)) (bk_ BK243.out) hg (Kd.S_ne HO_11.out BK243.out (by decide))); replace HB := Aside0.mk (hb); have HO251 := Aside0.mk (ho); clear HO_11 HO247; clear ho hb hg hat))
      go_roundg k1
      case measure => have := HK1.out; omega
      case rel => exact ⟨(y249), (wrap64 (x28_1 + 1)), (x238000_1), rs_, H', ⟨by have := HK1.out; omega⟩, ⟨ks_ HO251.out⟩, ⟨by refine kv_ ?_; exact Kd.V_mono HO_244001.out (fun _ hk => ⟨hk.1.1, ⟨hk.2, ⟨hk.1.2.2.1, hk.1.2.2.2⟩⟩⟩)⟩, ⟨bk_ BK237.out⟩, ⟨bk_ BK243.out⟩, ⟨bl_⟩⟩
     ·replace c16 := Bool.eq_false_iff.mpr c16
      subst c16
      have H1 : (some (t238, t239, ([] : List (List (S39))), 5)) = some (r1, r2, r3, r4) := by rw [if_neg (show ¬ (false = true) by decide)] at H; exact H
      clear H
      have H := H1
      clear H1
      simp only [Option.some.injEq, Prod.mk.injEq] at H
      obtain ⟨rfl, rfl, rfl, rfl⟩ := H
      have p244 : 0 ≤ (x28_1 : Int) := od_
      have q244 : x28_1 < (l2.length : Int) := od_
      obtain ⟨ad244, e244, hx244_0⟩ := Kd.at_string HR2.out x28_1 p244 q244
      cases e244
      replace hx244_0 := hc_ HB hx244_0
      replace p244 := eq_true p244
      replace q244 := eq_true q244
      have hnb23 := NB243_237.out
      have hnc23 := NB237_243.out
      have hcz24_0 := bc_ BK243 0 (.int .i64 t238)
      have hcz24_1 := bc_ BK243 1 (.slice Ao11 t239.length co11)
      have hfz24_0 := bz_ BK243 0
      have hfz24_1 := bz_ BK243 1
      go_wp2_with (first | ((with_reducible refine gate_callee (f := 21) rfl ?_); refine goesL_ (some 35) rfl rfl Tryd.func21 (by kernel_rfl) rfl #[.agg #[.int .i64 t238, .slice Ao11 t239.length co11], .string (rdOf ByteArray.empty l2 x28_1)] rfl (as_) ?_; (with_reducible refine (oneway_quarter_signed.calls k1 t238 _ _ t239 (rdOf ByteArray.empty l2 x28_1) t245 false _ ?side1 ?side2 A15.out).mono ?_); (case side1 => repeat (first | exact (Kd.V_reads' HO_244001.out).2.2 | (with_reducible refine Kd.C_alloc ?_ _) | (with_reducible refine Kd.C_drewN ?_ _) | (with_reducible refine Kd.C_drew ?_))); (case side2 => exact (Kd.V_reads' HO_244001.out).2.1); rintro e w25 ⟨v246, rfl, ho0, hb⟩; refine ⟨_, rfl, ?_⟩; replace HO_11 := Aside0.mk (Kd.S_elder' (ks_ HO_11.out) (Kd.R_base ho0) hb); replace HO_244001 := Aside0.mk (Kd.V_elder' (kv_ HO_244001.out) (Kd.R_base ho0) hb); have HO247 := Aside0.mk (Kd.R_lower (Kd.R_newM (M := fun k_ => (w.heap.size ≤ k_)) ho0 (below_size (bl_)) (fun k_ h_ => h_)) (below_size (bl_))); replace BK237 := bb_ BK237 hb; replace BK243 := bb_ BK243 hb; replace HB := hb_ hb; clear hb ho0; have hcz26_0 := bc_ BK243 0 (.int .i64 t238); have hcz26_1 := bc_ BK243 1 (.slice Ao11 t239.length co11); have hfz26_0 := bz_ BK243 0; have hfz26_1 := bz_ BK243 1; have hcz27_0 := bc_ BK237 0 (.int .i64 x238000_1); have hcz27_1 := bc_ BK237 1 (.slice none 0 0); have hfz27_0 := bz_ BK237 0; have hfz27_1 := bz_ BK237 1))
      refine bodyPost_ret (results_ctt rfl _ _ gb237 41 #[.int .i64 t238, .slice Ao11 t239.length co11] (0, 0) _ rfl (by refine bk_ ?_; refine blk_put (cs := #[.int .i64 t238, .slice none 0 0]) ?_ 1 _ rfl; refine bk_ ?_; refine blk_put (cs := #[.int .i64 x238000_1, .slice none 0 0]) ?_ 0 _ rfl; refine bk_ ?_; exact BK237.out) Tryd.underlying41 rfl (by kernel_rfl)) rfl ?_
      exact ⟨_, _, er_, by refine kv_ ?_; exact Kd.V_mono (Kd.V_far (p := ⟨gb237, 1, none⟩) (Kd.V_far (p := ⟨gb237, 0, none⟩) (Kd.V_mono HO_244001.out (fun k_ hk => (⟨hk, hk.1.2.2.1⟩ : _ ∧ k_ ≠ gb237))) (fun _ hk => hk.2) (.int .i64 t238)) (fun _ hk => hk.2) (.slice Ao11 t239.length co11)) (fun _ hk => ⟨hk.1.1.1, (by simp [Value.ownBlock])⟩), by first | exact Kd.S_nil _ _ _ _ _ | exact Kd.N_nil _ _ _ _ _ | exact Kd.V_nil _ _ _ _ _ | exact Kd.Q_nil _ _ _ _ _ | exact Kd.R_nil _ _ _ _ _, bl_⟩
    ·rw [if_neg c12] at H
     have c12b0 : decide (x28_1 < (l2.length : Int)) = false := decide_eq_false c12
     clear c12
     simp only [Option.some.injEq, Prod.mk.injEq] at H
     obtain ⟨rfl, rfl, rfl, rfl⟩ := H
     have hnb28 := NB243_237.out
     have hnc28 := NB237_243.out
     have hcz29_0 := bc_ BK243 0 (.int .i64 t238)
     have hcz29_1 := bc_ BK243 1 (.slice Ao11 t239.length co11)
     have hfz29_0 := bz_ BK243 0
     have hfz29_1 := bz_ BK243 1
     have hcz30_0 := bc_ BK237 0 (.int .i64 x238000_1)
     have hcz30_1 := bc_ BK237 1 (.slice none 0 0)
     have hfz30_0 := bz_ BK237 0
     have hfz30_1 := bz_ BK237 1
     go_wp2
     refine bodyPost_ret (results_ctt rfl _ _ gb237 41 #[.int .i64 t238, .slice Ao11 t239.length co11] (0, 0) _ rfl (by refine bk_ ?_; refine blk_put (cs := #[.int .i64 t238, .slice none 0 0]) ?_ 1 _ rfl; refine bk_ ?_; refine blk_put (cs := #[.int .i64 x238000_1, .slice none 0 0]) ?_ 0 _ rfl; refine bk_ ?_; exact BK237.out) Tryd.underlying41 rfl (by kernel_rfl)) rfl ?_
     exact ⟨_, _, er_, by refine kv_ ?_; exact Kd.V_mono (Kd.V_far (p := ⟨gb237, 1, none⟩) (Kd.V_far (p := ⟨gb237, 0, none⟩) (Kd.V_mono HO_244001.out (fun k_ hk => (⟨hk, hk.2.2.1⟩ : _ ∧ k_ ≠ gb237))) (fun _ hk => hk.2) (.int .i64 t238)) (fun _ hk => hk.2) (.slice Ao11 t239.length co11)) (fun _ hk => ⟨hk.1.1, hk.1.2.1⟩), by refine ks_ ?_; exact Kd.S_mono (Kd.S_far (p := ⟨gb237, 1, none⟩) (Kd.S_far (p := ⟨gb237, 0, none⟩) (Kd.S_types HO_11.out BK237.out (by decide)) (fun _ hk => hk.2) (.int .i64 t238)) (fun _ hk => hk.2) (.slice Ao11 t239.length co11)) (fun _ hk => hk.1), bl_⟩
 ·rw [if_neg c5] at H
  have c5b0 : (t242 == 0) = false := beq_eq_false_iff_ne.mpr c5
  have c5b1 : (t242 != 0) = true := bne_iff_ne.mpr c5
  simp only [Option.some.injEq, Prod.mk.injEq] at H
  obtain ⟨rfl, rfl, rfl, rfl⟩ := H
  go_enter Tryd.func11, Tryd.ntmps11
  go_wp2_with (first | ((with_reducible refine gate_dst (N := 6) rfl ?_); refine be_ #[.int .i64 0, .slice none 0 0] 41 ?_; intro gb237 hg w31 hbox hb; replace HO1 := ve_ HO1 hg hb; have BK237 := Aside0.mk (hbox); have GW237 := gw_ hg; have GE237 := gw_ hg; replace HB := hb_ hb; clear hb hbox hg) | ((with_reducible refine gate_callee (f := 18) rfl ?_); refine goesL_ (some 19) rfl rfl Tryd.func18 (by kernel_rfl) rfl #[.int .i64 a0, .slice A1 l1.length c1] rfl (as_) ?_; (with_reducible refine (oneway_read.calls k a0 (fun k_ => ((P1_ k_ ∨ w.heap.size ≤ k_) ∧ k_ ≠ gb237)) _ _ l1 t238 t239 t242 _ ?side1 A4.out).mono ?_); (case side1 => exact HO1.out); rintro e w32 ⟨v240, rfl, ho0, hb⟩; refine ⟨_, rfl, ?_⟩; replace HO1 := Aside0.mk (Kd.V_below (kv_ HO1.out) hb); have HO241 := Aside0.mk (Kd.V_lower (Kd.V_mono (ok' := fun k_ => (P1_ k_ ∨ w.heap.size ≤ k_) ∧ k_ ≠ gb237) ho0 (fun k_ hk_ => ⟨Or.elim hk_ (fun hs_ => hs_.1) (fun hn_ => (.inr (Nat.le_trans (below_size (bl_)) hn_))), Or.elim hk_ (fun hs_ => hs_.2) (fun hn_ => (Kd.freshB (g := gb237) (o := .cells #[.int .i64 0, .slice none 0 0] 41 (0, 0)) (bk_ BK237.out) k_ hn_))⟩)) (below_size (bl_))); replace BK237 := bb_ BK237 hb; replace HB := hb_ hb; clear hb ho0) | ((with_reducible refine gate_dst (N := 9) rfl ?_); refine be_ #[.int .i64 0, .slice none 0 0] 41 ?_; intro gb243 hg w33 hbox hb; replace HO1 := ve_ HO1 hg hb; replace HO241 := ve_ HO241 hg hb; have BK243 := Aside0.mk (hbox); have GW243 := gw_ hg; have GE243 := gw_ hg; replace HB := hb_ hb; have NB237_243 := nl_ hg BK237; have NB243_237 := sy_ NB237_243; replace BK237 := bb_ BK237 hb; clear hb hbox hg; have hnb34 := NB243_237.out; have hnc34 := NB237_243.out; have hcz35_0 := bc_ BK243 0 (.int .i64 0); have hcz35_1 := bc_ BK243 1 (.slice none 0 0); have hfz35_0 := bz_ BK243 0; have hfz35_1 := bz_ BK243 1; obtain ⟨Ao36, co36, eo36⟩ := Kd.V_slice HO241.out; subst eo36; have hcz37_0 := bc_ BK237 0 (.int .i64 0); have hcz37_1 := bc_ BK237 1 (.slice none 0 0); have hfz37_0 := bz_ BK237 0; have hfz37_1 := bz_ BK237 1))
  refine bodyPost_ret (results_ctt rfl _ _ gb237 41 #[.int .i64 t238, .slice Ao36 t239.length co36] (0, 0) _ rfl (by refine bk_ ?_; refine blk_put (cs := #[.int .i64 t238, .slice none 0 0]) ?_ 1 _ rfl; refine bk_ ?_; refine blk_put (cs := #[.int .i64 0, .slice none 0 0]) ?_ 0 _ rfl; refine bk_ ?_; refine blk_far ?_ NB237_243.out _; refine bk_ ?_; refine blk_far ?_ NB237_243.out _; refine bk_ ?_; exact BK237.out) Tryd.underlying41 rfl (by kernel_rfl)) rfl ?_
  exact ⟨_, _, er_, by refine kv_ ?_; exact Kd.V_mono (Kd.V_far (p := ⟨gb237, 1, none⟩) (Kd.V_far (p := ⟨gb237, 0, none⟩) (Kd.V_far (p := ⟨gb243, 1, none⟩) (Kd.V_far (p := ⟨gb243, 0, none⟩) (Kd.V_mono (Kd.V_mono HO241.out (fun k_ hk => (⟨hk, hk.2⟩ : _ ∧ k_ ≠ gb243))) (fun k_ hk => (⟨hk, hk.1.1.2⟩ : _ ∧ k_ ≠ gb237))) (fun _ hk => hk.1.2) (.int .i64 t238)) (fun _ hk => hk.1.2) (.slice Ao36 t239.length co36)) (fun _ hk => hk.2) (.int .i64 t238)) (fun _ hk => hk.2) (.slice Ao36 t239.length co36)) (fun _ hk => ⟨hk.1.1.1.1, (by simp [Value.ownBlock])⟩), by first | exact Kd.S_nil _ _ _ _ _ | exact Kd.N_nil _ _ _ _ _ | exact Kd.V_nil _ _ _ _ _ | exact Kd.Q_nil _ _ _ _ _ | exact Kd.R_nil _ _ _ _ _, bl_⟩

/-! ### slices_Index_int_int: function 48 -/
def slices_Index_int_int.l0 : Nat → List Int → Int → Int → Int → Option (Int)
  | 0, _, _, _, _ => none
  | k + 1, x0, x1, x7, x8 => if x8 < x7 then (if 0 ≤ x8 then (if x8 < (x0.length : Int) then (if x1 = (rd x0 x8) then (some x8) else (slices_Index_int_int.l0 k x0 x1 x7 (wrap64 (x8 + 1)))) else (none)) else (none)) else (some (-1))
def slices_Index_int_int.f (k : Nat) (l0 : List Int) (a1 : Int) : Option (Int) := slices_Index_int_int.l0 k l0 a1 (l0.length : Int) 0
theorem slices_Index_int_int.mono_l : ∀ k, (∀ y0 y1 y2 y3, LeO (slices_Index_int_int.l0 k y0 y1 y2 y3) (slices_Index_int_int.l0 (k + 1) y0 y1 y2 y3))
  | 0 => fun _ _ _ _ r h => by simp [slices_Index_int_int.l0] at h
  | k + 1 => by
    have ih0 := slices_Index_int_int.mono_l k
    · intro y0 y1 y2 y3
      unfold slices_Index_int_int.l0
      with_reducible repeat' first | exact ih0 _ _ _ _ | exact LeO.refl _ | exact LeO.none _ | refine LeO.ite ?_ ?_ | refine LeO.bind ?_ (fun _ => ?_)
theorem slices_Index_int_int.mono : ∀ a0 a1 k, LeO (slices_Index_int_int.f k a0 a1) (slices_Index_int_int.f (k + 1) a0 a1) := by
  intro a0 a1 k
  have ih0 := slices_Index_int_int.mono_l k
  unfold slices_Index_int_int.f
  with_reducible repeat' first | exact ih0 _ _ _ _ | exact LeO.refl _ | exact LeO.none _ | refine LeO.ite ?_ ?_ | refine LeO.bind ?_ (fun _ => ?_)
set_option maxHeartbeats 8000000 in
set_option maxRecDepth 100000 in
theorem slices_Index_int_int.calls (k : Nat) (A0 : Option Addr) (c0 : Nat) (l0 : List Int) (a1 : Int) (r : Int) (w : World) (hr0 : Kd.C (Kd.int .i64) w A0 l0.length l0) (hc0 : l0.length ≤ c0) (h : slices_Index_int_int.f k l0 a1 = some r) :
    Calls Tryd.prog 48 #[.slice A0 l0.length c0, .int .i64 a1] w fun e w' => e = .returned (.int .i64 r) ∧ Drawn0 w w' := by
 have HR0 := Aside0.mk hr0
 have HC0 := Aside0.mk hc0
 clear hr0 hc0
 have H : (slices_Index_int_int.l0 k l0 a1 (l0.length : Int) 0) = some r := h
 clear h
 have H' := Aside0.mk H
 clear H
 go_enter Tryd.func48, Tryd.ntmps48
 go_wp2
 go_loopg [8] k (fun kq v8 w' => ∃ (x8_1 : Int), v8 = .int .i64 x8_1 ∧ Aside0 (slices_Index_int_int.l0 kq l0 a1 (l0.length : Int) x8_1 = some r) ∧ Aside0 (kq ≤ k) ∧ Drawn0 w w')
 case atStart => exact ⟨(0), rs_, H', ⟨Nat.le_refl _⟩, by repeat (first | exact Drawn0.refl _ | apply Drawn0.step)⟩
 case round =>
  clear H'
  try clear p2
  obtain ⟨x8_1, rfl, HA, HK1, ⟨m1, rfl⟩⟩ := hrel
  cases gk with
  | zero => exact absurd HA.out (by simp [slices_Index_int_int.l0])
  | succ k1 =>
   have H := HA.out
   clear HA
   simp only [slices_Index_int_int.l0] at H
   by_cases c3 : x8_1 < (l0.length : Int)
   ·rw [if_pos c3] at H
    have c3b0 : decide (x8_1 < (l0.length : Int)) = true := decide_eq_true c3
    clear c3
    obtain ⟨c4b0, H⟩ := fp_ H
    obtain ⟨c5b0, H⟩ := fp_ H
    by_cases c6 : a1 = (rd l0 x8_1)
    ·rw [if_pos c6] at H
     have c6b0 : (a1 == (rd l0 x8_1)) = true := beq_iff_eq.mpr c6
     have c6b1 : (a1 != (rd l0 x8_1)) = false := bne_eq_false_iff_eq.mpr c6
     clear c6
     obtain rfl := Option.some.inj H
     obtain ⟨ad252, e252, hx252_0, p252, q252⟩ := ai_ HR0.out x8_1
     cases e252
     go_wp2
     go_ret
     exact ⟨by first | rfl | (simp; done) | (simp [*]; done), by repeat (first | exact Drawn0.refl _ | apply Drawn0.step)⟩
    ·rw [if_neg c6] at H
     have c6b0 : (a1 == (rd l0 x8_1)) = false := beq_eq_false_iff_ne.mpr c6
     have c6b1 : (a1 != (rd l0 x8_1)) = true := bne_iff_ne.mpr c6
     have H' := Aside0.mk H
     clear H
     obtain ⟨ad252, e252, hx252_0, p252, q252⟩ := ai_ HR0.out x8_1
     cases e252
     go_wp2
     go_roundg k1
     case measure => have := HK1.out; omega
     case rel => exact ⟨(wrap64 (x8_1 + 1)), rs_, H', ⟨by have := HK1.out; omega⟩, by repeat (first | exact Drawn0.refl _ | apply Drawn0.step)⟩
   ·rw [if_neg c3] at H
    have c3b0 : decide (x8_1 < (l0.length : Int)) = false := decide_eq_false c3
    clear c3
    obtain rfl := Option.some.inj H
    go_wp2
    go_ret
    exact ⟨by first | rfl | (simp; done) | (simp [*]; done), by repeat (first | exact Drawn0.refl _ | apply Drawn0.step)⟩

/-! ### slices_Contains_int_int: function 33 -/
def slices_Contains_int_int.f (k : Nat) (l0 : List Int) (a1 : Int) : Option (Bool) := (slices_Index_int_int.f k l0 a1).bind fun t253 => (some (decide (t253 ≥ 0)))
theorem slices_Contains_int_int.mono : ∀ a0 a1 k, LeO (slices_Contains_int_int.f k a0 a1) (slices_Contains_int_int.f (k + 1) a0 a1) := by
  intro a0 a1 k
  unfold slices_Contains_int_int.f
  with_reducible repeat' first | exact slices_Index_int_int.mono _ _ _ | exact LeO.refl _ | exact LeO.none _ | refine LeO.ite ?_ ?_ | refine LeO.bind ?_ (fun _ => ?_)
set_option maxHeartbeats 8000000 in
set_option maxRecDepth 100000 in
theorem slices_Contains_int_int.calls (k : Nat) (A0 : Option Addr) (c0 : Nat) (l0 : List Int) (a1 : Int) (r : Bool) (w : World) (hr0 : Kd.C (Kd.int .i64) w A0 l0.length l0) (hc0 : l0.length ≤ c0) (h : slices_Contains_int_int.f k l0 a1 = some r) :
    Calls Tryd.prog 33 #[.slice A0 l0.length c0, .int .i64 a1] w fun e w' => e = .returned (.bool r) ∧ Drawn0 w w' := by
 have HR0 := Aside0.mk hr0
 have HC0 := Aside0.mk hc0
 clear hr0 hc0
 have H : ((slices_Index_int_int.f k l0 a1).bind fun t253 => (some (decide (t253 ≥ 0)))) = some r := h
 clear h
 obtain ⟨t253, A3, H⟩ := bi_ H
 replace H : (some (decide (t253 ≥ 0))) = some r := H
 obtain rfl := Option.some.inj H
 go_enter Tryd.func33, Tryd.ntmps33
 go_wp2_with (first | ((with_reducible refine gate_callee (f := 48) rfl ?_); refine goesL_ (some 7) rfl rfl Tryd.func48 (by kernel_rfl) rfl #[.slice A0 l0.length c0, .int .i64 a1] rfl (as_) ?_; (with_reducible refine (slices_Index_int_int.calls k _ _ l0 a1 t253 _ ?side1 ?side2 A3.out).mono ?_); (case side1 => repeat (first | exact HR0.out | (with_reducible refine Kd.C_alloc ?_ _) | (with_reducible refine Kd.C_drewN ?_ _) | (with_reducible refine Kd.C_drew ?_))); (case side2 => exact HC0.out); rintro e w' ⟨rfl, ⟨nd, rfl⟩⟩; refine ⟨_, rfl, ?_⟩))
 go_ret
 exact ⟨by first | rfl | (simp; done) | (simp [*]; done), by repeat (first | exact Drawn0.refl _ | apply Drawn0.step)⟩

/-! ### slices_Max_int_int: function 34 -/
def slices_Max_int_int.l0 : Nat → List Int → Int → Int → Option (Int)
  | 0, _, _, _ => none
  | k + 1, x0, x3, x4 => if x4 < (x0.length : Int) then (if 0 ≤ x4 then (slices_Max_int_int.l0 k x0 (mx x3 (rd x0 x4)) (wrap64 (x4 + 1))) else (none)) else (some x3)
def slices_Max_int_int.f (k : Nat) (l0 : List Int) : Option (Int) := if (l0.length : Int) < 1 then (none) else (if 0 < (l0.length : Int) then (slices_Max_int_int.l0 k l0 (rd l0 0) 1) else (none))
theorem slices_Max_int_int.mono_l : ∀ k, (∀ y0 y1 y2, LeO (slices_Max_int_int.l0 k y0 y1 y2) (slices_Max_int_int.l0 (k + 1) y0 y1 y2))
  | 0 => fun _ _ _ r h => by simp [slices_Max_int_int.l0] at h
  | k + 1 => by
    have ih0 := slices_Max_int_int.mono_l k
    · intro y0 y1 y2
      unfold slices_Max_int_int.l0
      with_reducible repeat' first | exact ih0 _ _ _ | exact LeO.refl _ | exact LeO.none _ | refine LeO.ite ?_ ?_ | refine LeO.bind ?_ (fun _ => ?_)
theorem slices_Max_int_int.mono : ∀ a0 k, LeO (slices_Max_int_int.f k a0) (slices_Max_int_int.f (k + 1) a0) := by
  intro a0 k
  have ih0 := slices_Max_int_int.mono_l k
  unfold slices_Max_int_int.f
  with_reducible repeat' first | exact ih0 _ _ _ | exact LeO.refl _ | exact LeO.none _ | refine LeO.ite ?_ ?_ | refine LeO.bind ?_ (fun _ => ?_)
set_option maxHeartbeats 8000000 in
set_option maxRecDepth 100000 in
theorem slices_Max_int_int.calls (k : Nat) (A0 : Option Addr) (c0 : Nat) (l0 : List Int) (r : Int) (w : World) (hr0 : Kd.C (Kd.int .i64) w A0 l0.length l0) (hc0 : l0.length ≤ c0) (h : slices_Max_int_int.f k l0 = some r) :
    Calls Tryd.prog 34 #[.slice A0 l0.length c0] w fun e w' => e = .returned (.int .i64 r) ∧ Below w.heap.size w w' := by
 have HR0 := Aside0.mk hr0
 have HC0 := Aside0.mk hc0
 clear hr0 hc0
 have HB := Aside0.mk (Below.refl w.heap.size w)
 have H : (if (l0.length : Int) < 1 then (none) else (if 0 < (l0.length : Int) then (slices_Max_int_int.l0 k l0 (rd l0 0) 1) else (none))) = some r := h
 clear h
 by_cases c2 : (l0.length : Int) < 1
 ·rw [if_pos c2] at H
  exact absurd H (by simp)
 ·rw [if_neg c2] at H
  have c2b0 : decide ((l0.length : Int) < 1) = false := decide_eq_false c2
  have c2b1 : decide (l0.length < 1) = false := decide_eq_false (by omega)
  clear c2
  have c3 : 0 < (l0.length : Int) := fl_ fun c3 => by rw [if_neg c3] at H; exact absurd H (by simp)
  rw [if_pos c3] at H
  have c3b0 : decide (0 < (l0.length : Int)) = true := decide_eq_true c3
  have c3b1 : decide (0 < l0.length) = true := decide_eq_true (by omega)
  clear c3
  have H' := Aside0.mk H
  clear H
  have p254 : 0 ≤ (0 : Int) := (by omega)
  have q254 : 0 < (l0.length : Int) := od_
  obtain ⟨ad254, e254, hx254_0⟩ := Kd.at_int HR0.out 0 p254 q254
  cases e254
  have qi254 : (0 < l0.length) = True := eq_true (by omega)
  (try rw [show ((0 : Int)).toNat = 0 from rfl] at hx254_0)
  (try rw [Addr.add_zero'] at hx254_0)
  replace p254 := eq_true p254
  replace q254 := eq_true q254
  go_enter Tryd.func34, Tryd.ntmps34
  go_wp2
  go_loopg [3, 4] k (fun kq v3 v4 w' => ∃ (x3_1 : Int) (x4_1 : Int), v3 = .int .i64 x3_1 ∧ v4 = .int .i64 x4_1 ∧ Aside0 (slices_Max_int_int.l0 kq l0 x3_1 x4_1 = some r) ∧ Aside0 (kq ≤ k) ∧ Aside0 (Below w.heap.size w w'))
  case atStart => exact ⟨(rd l0 0), (1), rs_, rs_, H', ⟨Nat.le_refl _⟩, ⟨bl_⟩⟩
  case round =>
   clear H'
   try clear c2
   try clear c2b0
   try clear c2b1
   try clear p2
   try clear q2
   try clear hx2
   try clear qi2
   try clear c3
   try clear c3b0
   try clear c3b1
   try clear hx254_0
   try clear p254
   try clear q254
   obtain ⟨x3_1, x4_1, rfl, rfl, HA, HK1, HB⟩ := hrel
   cases gk with
   | zero => exact absurd HA.out (by simp [slices_Max_int_int.l0])
   | succ k1 =>
    have H := HA.out
    clear HA
    simp only [slices_Max_int_int.l0] at H
    by_cases c4 : x4_1 < (l0.length : Int)
    ·rw [if_pos c4] at H
     have c4b0 : decide (x4_1 < (l0.length : Int)) = true := decide_eq_true c4
     clear c4
     obtain ⟨c5b0, H⟩ := fp_ H
     obtain ⟨ji6, hji6⟩ : ∃ j_ : Int, (mx x3_1 (rd l0 x4_1)) = j_ := ⟨_, rfl⟩
     replace H : (slices_Max_int_int.l0 k1 l0 ji6 (wrap64 (x4_1 + 1))) = some r := by first | (rw [hji6] at H; exact H) | (simp only [hji6] at H ⊢; exact H)
     have hji6_ : (if x3_1 < (rd l0 x4_1) then (rd l0 x4_1) else x3_1) = ji6 := hji6
     have H' := Aside0.mk H
     clear H
     obtain ⟨ad255, e255, hx255_0, p255, q255⟩ := ai_ HR0.out x4_1
     obtain rfl : ad254 = ad255 := (by injection e255)
     replace hx255_0 := hc_ HB hx255_0
     go_wp2
     go_roundg k1
     case measure => have := HK1.out; omega
     case rel => exact ⟨(ji6), (wrap64 (x4_1 + 1)), (by first | rfl | (simp; done) | (simp only [← hji6] <;> (first | rfl | simp)) | (simp [*]; done)), rs_, H', ⟨by have := HK1.out; omega⟩, ⟨bl_⟩⟩
    ·rw [if_neg c4] at H
     have c4b0 : decide (x4_1 < (l0.length : Int)) = false := decide_eq_false c4
     clear c4
     obtain rfl := Option.some.inj H
     go_wp2
     go_ret
     exact ⟨er_, bl_⟩

/-! ### oneway_arcs_width: function 22 -/
def oneway_arcs_width.l0 : Nat → List (S39) → Int → Int → Int → Int → Option (Int)
  | 0, _, _, _, _, _ => none
  | k + 1, x0, x1, x5, x8, x9 => if x9 < x8 then ((oneway_arcs_far.f k x0 x1 x9).bind fun t256 => ((slices_Contains_int_int.f k t256 (-1)).bind fun t259 => (if t259 = true then (some (-1)) else ((slices_Max_int_int.f k t256).bind fun t260 => (oneway_arcs_width.l0 k x0 x1 (mx x5 t260) x8 (wrap64 (x9 + 1))))))) else (some x5)
def oneway_arcs_width.f (k : Nat) (l0 : List (S39)) (a1 : Int) : Option (Int) := oneway_arcs_width.l0 k l0 a1 0 a1 0
theorem oneway_arcs_width.mono_l : ∀ k, (∀ y0 y1 y2 y3 y4, LeO (oneway_arcs_width.l0 k y0 y1 y2 y3 y4) (oneway_arcs_width.l0 (k + 1) y0 y1 y2 y3 y4))
  | 0 => fun _ _ _ _ _ r h => by simp [oneway_arcs_width.l0] at h
  | k + 1 => by
    have ih0 := oneway_arcs_width.mono_l k
    · intro y0 y1 y2 y3 y4
      unfold oneway_arcs_width.l0
      with_reducible repeat' first | exact ih0 _ _ _ _ _ | exact oneway_arcs_far.mono _ _ _ _ | exact slices_Contains_int_int.mono _ _ _ | exact slices_Max_int_int.mono _ _ | exact LeO.refl _ | exact LeO.none _ | refine LeO.ite ?_ ?_ | refine LeO.bind ?_ (fun _ => ?_)
theorem oneway_arcs_width.mono : ∀ a0 a1 k, LeO (oneway_arcs_width.f k a0 a1) (oneway_arcs_width.f (k + 1) a0 a1) := by
  intro a0 a1 k
  have ih0 := oneway_arcs_width.mono_l k
  unfold oneway_arcs_width.f
  with_reducible repeat' first | exact ih0 _ _ _ _ _ | exact oneway_arcs_far.mono _ _ _ _ | exact slices_Contains_int_int.mono _ _ _ | exact slices_Max_int_int.mono _ _ | exact LeO.refl _ | exact LeO.none _ | refine LeO.ite ?_ ?_ | refine LeO.bind ?_ (fun _ => ?_)
set_option maxHeartbeats 8000000 in
set_option maxRecDepth 100000 in
theorem oneway_arcs_width.calls (k : Nat) (A0 : Option Addr) (c0 : Nat) (l0 : List (S39)) (a1 : Int) (r : Int) (w : World) (hr0 : Kd.C k39 w A0 l0.length l0) (hc0 : l0.length ≤ c0) (h : oneway_arcs_width.f k l0 a1 = some r) :
    Calls Tryd.prog 22 #[.slice A0 l0.length c0, .int .i64 a1] w fun e w' => e = .returned (.int .i64 r) ∧ Below w.heap.size w w' := by
 have HR0 := Aside0.mk hr0
 have HC0 := Aside0.mk hc0
 clear hr0 hc0
 have HB := Aside0.mk (Below.refl w.heap.size w)
 have H : (oneway_arcs_width.l0 k l0 a1 0 a1 0) = some r := h
 clear h
 have H' := Aside0.mk H
 clear H
 go_enter Tryd.func22, Tryd.ntmps22
 go_wp2
 go_loopg [5, 9] k (fun kq v5 v9 w' => ∃ (x5_1 : Int) (x9_1 : Int), v5 = .int .i64 x5_1 ∧ v9 = .int .i64 x9_1 ∧ Aside0 (oneway_arcs_width.l0 kq l0 a1 x5_1 a1 x9_1 = some r) ∧ Aside0 (kq ≤ k) ∧ Aside0 (Below w.heap.size w w'))
 case atStart => exact ⟨(0), (0), rs_, rs_, H', ⟨Nat.le_refl _⟩, ⟨bl_⟩⟩
 case round =>
  clear H'
  try clear c2
  try clear p2
  obtain ⟨x5_1, x9_1, rfl, rfl, HA, HK1, HB⟩ := hrel
  cases gk with
  | zero => exact absurd HA.out (by simp [oneway_arcs_width.l0])
  | succ k1 =>
   have H := HA.out
   clear HA
   simp only [oneway_arcs_width.l0] at H
   by_cases c3 : x9_1 < a1
   ·rw [if_pos c3] at H
    have c3b0 : decide (x9_1 < a1) = true := decide_eq_true c3
    clear c3
    obtain ⟨t256, A4, H⟩ := bi_ H
    replace H : ((slices_Contains_int_int.f k1 t256 (-1)).bind fun t259 => (if t259 = true then (some (-1)) else ((slices_Max_int_int.f k1 t256).bind fun t260 => (oneway_arcs_width.l0 k1 l0 a1 (mx x5_1 t260) a1 (wrap64 (x9_1 + 1)))))) = some r := H
    obtain ⟨t259, A5, H⟩ := bi_ H
    replace H : (if t259 = true then (some (-1)) else ((slices_Max_int_int.f k1 t256).bind fun t260 => (oneway_arcs_width.l0 k1 l0 a1 (mx x5_1 t260) a1 (wrap64 (x9_1 + 1))))) = some r := H
    by_cases c6 : t259 = true
    ·subst c6
     have H1 : (some (-1)) = some r := by rw [if_pos rfl] at H; exact H
     clear H
     have H := H1
     clear H1
     obtain rfl := Option.some.inj H
     go_wp2_with (first | ((with_reducible refine gate_callee (f := 20) rfl ?_); refine goesL_ (some 15) rfl rfl Tryd.func20 (by kernel_rfl) rfl #[.slice A0 l0.length c0, .int .i64 a1, .int .i64 x9_1] rfl (as_) ?_; (with_reducible refine (oneway_arcs_far.calls k1 _ _ l0 a1 x9_1 t256 _ ?side1 ?side2 A4.out).mono ?_); (case side1 => exact cb_ HR0.out); (case side2 => exact HC0.out); rintro e w7 ⟨v257, rfl, ho0, hb⟩; refine ⟨_, rfl, ?_⟩; have HO258 := rl_ ho0; replace HB := hb_ hb; clear hb ho0; obtain ⟨Ao8, co8, eo8⟩ := Kd.R_slice HO258.out; subst eo8) | ((with_reducible refine gate_callee (f := 33) rfl ?_); refine goesL_ (some 17) rfl rfl Tryd.func33 (by kernel_rfl) rfl #[.slice Ao8 t256.length co8, .int .i64 (-1)] rfl (as_) ?_; (with_reducible refine (slices_Contains_int_int.calls k1 _ _ t256 (-1) true _ ?side1 ?side2 A5.out).mono ?_); (case side1 => exact cr_ HO258.out); (case side2 => exact (Kd.R_reads' HO258.out).2.1); rintro e w' ⟨rfl, ⟨nd, rfl⟩⟩; refine ⟨_, rfl, ?_⟩))
     go_ret
     exact ⟨er_, bl_⟩
    ·replace c6 := Bool.eq_false_iff.mpr c6
     subst c6
     have H1 : ((slices_Max_int_int.f k1 t256).bind fun t260 => (oneway_arcs_width.l0 k1 l0 a1 (mx x5_1 t260) a1 (wrap64 (x9_1 + 1)))) = some r := by rw [if_neg (show ¬ (false = true) by decide)] at H; exact H
     clear H
     have H := H1
     clear H1
     obtain ⟨t260, A9, H⟩ := bi_ H
     replace H : (oneway_arcs_width.l0 k1 l0 a1 (mx x5_1 t260) a1 (wrap64 (x9_1 + 1))) = some r := H
     obtain ⟨ji10, hji10⟩ : ∃ j_ : Int, (mx x5_1 t260) = j_ := ⟨_, rfl⟩
     replace H : (oneway_arcs_width.l0 k1 l0 a1 ji10 a1 (wrap64 (x9_1 + 1))) = some r := by first | (rw [hji10] at H; exact H) | (simp only [hji10] at H ⊢; exact H)
     (try rw [hji10] at A4)
     (try rw [hji10] at A5)
     (try rw [hji10] at A9)
     have hji10_ : (if x5_1 < t260 then t260 else x5_1) = ji10 := hji10
     have H' := Aside0.mk H
     clear H
     go_wp2_with (first | ((with_reducible refine gate_callee (f := 20) rfl ?_); refine goesL_ (some 15) rfl rfl Tryd.func20 (by kernel_rfl) rfl #[.slice A0 l0.length c0, .int .i64 a1, .int .i64 x9_1] rfl (as_) ?_; (with_reducible refine (oneway_arcs_far.calls k1 _ _ l0 a1 x9_1 t256 _ ?side1 ?side2 A4.out).mono ?_); (case side1 => exact cb_ HR0.out); (case side2 => exact HC0.out); rintro e w11 ⟨v257, rfl, ho0, hb⟩; refine ⟨_, rfl, ?_⟩; have HO258 := rl_ ho0; replace HB := hb_ hb; clear hb ho0; obtain ⟨Ao12, co12, eo12⟩ := Kd.R_slice HO258.out; subst eo12) | ((with_reducible refine gate_callee (f := 33) rfl ?_); refine goesL_ (some 17) rfl rfl Tryd.func33 (by kernel_rfl) rfl #[.slice Ao12 t256.length co12, .int .i64 (-1)] rfl (as_) ?_; (with_reducible refine (slices_Contains_int_int.calls k1 _ _ t256 (-1) false _ ?side1 ?side2 A5.out).mono ?_); (case side1 => exact cr_ HO258.out); (case side2 => exact (Kd.R_reads' HO258.out).2.1); rintro e w' ⟨rfl, ⟨nd, rfl⟩⟩; refine ⟨_, rfl, ?_⟩) | ((with_reducible refine gate_callee (f := 34) rfl ?_); refine goesL_ (some 20) rfl rfl Tryd.func34 (by kernel_rfl) rfl #[.slice Ao12 t256.length co12] rfl (as_) ?_; (with_reducible refine (slices_Max_int_int.calls k1 _ _ t256 t260 _ ?side1 ?side2 A9.out).mono ?_); (case side1 => exact cr_ HO258.out); (case side2 => exact (Kd.R_reads' HO258.out).2.1); rintro e w13 ⟨rfl, hb⟩; refine ⟨_, rfl, ?_⟩; replace HO258 := rb_ HO258 hb; replace HB := hb_ hb; clear hb))
     go_roundg k1
     case measure => have := HK1.out; omega
     case rel => exact ⟨(ji10), (wrap64 (x9_1 + 1)), (by first | rfl | (simp; done) | (simp only [← hji10] <;> (first | rfl | simp)) | (simp [*]; done)), rs_, H', ⟨by have := HK1.out; omega⟩, ⟨bl_⟩⟩
   ·rw [if_neg c3] at H
    have c3b0 : decide (x9_1 < a1) = false := decide_eq_false c3
    clear c3
    obtain rfl := Option.some.inj H
    go_wp2
    go_ret
    exact ⟨er_, bl_⟩

/-! ### oneway_arcs_strong: function 12 -/
def oneway_arcs_strong.f (k : Nat) (l0 : List (S39)) (a1 : Int) : Option (Bool) := (oneway_arcs_width.f k l0 a1).bind fun t261 => (some (decide (t261 ≥ 0)))
theorem oneway_arcs_strong.mono : ∀ a0 a1 k, LeO (oneway_arcs_strong.f k a0 a1) (oneway_arcs_strong.f (k + 1) a0 a1) := by
  intro a0 a1 k
  unfold oneway_arcs_strong.f
  with_reducible repeat' first | exact oneway_arcs_width.mono _ _ _ | exact LeO.refl _ | exact LeO.none _ | refine LeO.ite ?_ ?_ | refine LeO.bind ?_ (fun _ => ?_)
set_option maxHeartbeats 8000000 in
set_option maxRecDepth 100000 in
theorem oneway_arcs_strong.calls (k : Nat) (A0 : Option Addr) (c0 : Nat) (l0 : List (S39)) (a1 : Int) (r : Bool) (w : World) (hr0 : Kd.C k39 w A0 l0.length l0) (hc0 : l0.length ≤ c0) (h : oneway_arcs_strong.f k l0 a1 = some r) :
    Calls Tryd.prog 12 #[.slice A0 l0.length c0, .int .i64 a1] w fun e w' => e = .returned (.bool r) ∧ Below w.heap.size w w' := by
 have HR0 := Aside0.mk hr0
 have HC0 := Aside0.mk hc0
 clear hr0 hc0
 have HB := Aside0.mk (Below.refl w.heap.size w)
 have H : ((oneway_arcs_width.f k l0 a1).bind fun t261 => (some (decide (t261 ≥ 0)))) = some r := h
 clear h
 obtain ⟨t261, A3, H⟩ := bi_ H
 replace H : (some (decide (t261 ≥ 0))) = some r := H
 obtain rfl := Option.some.inj H
 go_enter Tryd.func12, Tryd.ntmps12
 go_wp2_with (first | ((with_reducible refine gate_callee (f := 22) rfl ?_); refine goesL_ (some 7) rfl rfl Tryd.func22 (by kernel_rfl) rfl #[.slice A0 l0.length c0, .int .i64 a1] rfl (as_) ?_; (with_reducible refine (oneway_arcs_width.calls k _ _ l0 a1 t261 _ ?side1 ?side2 A3.out).mono ?_); (case side1 => repeat (first | exact HR0.out | (with_reducible refine Kd.C_alloc ?_ _) | (with_reducible refine Kd.C_drewN ?_ _) | (with_reducible refine Kd.C_drew ?_))); (case side2 => exact HC0.out); rintro e w4 ⟨rfl, hb⟩; refine ⟨_, rfl, ?_⟩; replace HB := hb_ hb; clear hb))
 go_ret
 exact ⟨er_, bl_⟩

/-! ### oneway_Strong: function 5 -/
def oneway_Strong.f (k : Nat) (a0 : Int) (l1 : List (S39)) (a2 : ByteArray) : Option (Bool × Int) := (oneway_drawn.f k a0 l1 (([a2] : List ByteArray))).bind fun bt265 => (if bt265.2.2.2 = 0 then (if 0 < (bt265.2.2.1.length : Int) then ((oneway_arcs_strong.f k (rd_L4 bt265.2.2.1 0) a0).bind fun t275 => (some (t275, 0))) else (none)) else (some (false, bt265.2.2.2)))
theorem oneway_Strong.mono : ∀ a0 a1 a2 k, LeO (oneway_Strong.f k a0 a1 a2) (oneway_Strong.f (k + 1) a0 a1 a2) := by
  intro a0 a1 a2 k
  unfold oneway_Strong.f
  with_reducible repeat' first | exact oneway_arcs_strong.mono _ _ _ | exact oneway_drawn.mono _ _ _ _ | exact LeO.refl _ | exact LeO.none _ | refine LeO.ite ?_ ?_ | refine LeO.bind ?_ (fun _ => ?_)
set_option maxHeartbeats 8000000 in
set_option maxRecDepth 100000 in
theorem oneway_Strong.calls (k : Nat) (a0 : Int) (A1 : Option Addr) (c1 : Nat) (l1 : List (S39)) (a2 : ByteArray) (r1 : Bool) (r2 : Int) (w : World) (hr1 : Kd.C k39 w A1 l1.length l1) (hc1 : l1.length ≤ c1) (h : oneway_Strong.f k a0 l1 a2 = some (r1, r2)) :
    Calls Tryd.prog 5 #[.int .i64 a0, .slice A1 l1.length c1, .string a2] w fun e w' => e = .returned (.tuple #[.bool r1, .int .i64 r2]) ∧ Below w.heap.size w w' := by
 have hu41 := Tryd.underlying41
 have HR1 := Aside0.mk hr1
 have HC1 := Aside0.mk hc1
 clear hr1 hc1
 have HB := Aside0.mk (Below.refl w.heap.size w)
 have H : ((oneway_drawn.f k a0 l1 (([a2] : List ByteArray))).bind fun bt265 => (if bt265.2.2.2 = 0 then (if 0 < (bt265.2.2.1.length : Int) then ((oneway_arcs_strong.f k (rd_L4 bt265.2.2.1 0) a0).bind fun t275 => (some (t275, 0))) else (none)) else (some (false, bt265.2.2.2)))) = some (r1, r2) := h
 clear h
 obtain ⟨y262, hy262⟩ : ∃ y_ : List ByteArray, y_ = (([a2] : List ByteArray)) := ⟨_, rfl⟩
 replace H : ((oneway_drawn.f k a0 l1 y262).bind fun bt265 => (if bt265.2.2.2 = 0 then (if 0 < (bt265.2.2.1.length : Int) then ((oneway_arcs_strong.f k (rd_L4 bt265.2.2.1 0) a0).bind fun t275 => (some (t275, 0))) else (none)) else (some (false, bt265.2.2.2)))) = some (r1, r2) := by first | (rw [hy262]; with_reducible exact H) | (have H2_ := (Option.bind_some _ _).symm.trans H; rw [hy262]; with_reducible exact H2_) | (have H2_ := (Option.bind_some _ _).symm.trans H; with_reducible exact H2_) | with_reducible exact H | (rw [hy262]; exact H) | exact H
 have Ny262 := Aside0.mk hy262
 clear hy262
 obtain ⟨⟨t265, t266, t269, t272⟩, A4, H⟩ := bi_ H
 replace H : (if t272 = 0 then (if 0 < (t269.length : Int) then ((oneway_arcs_strong.f k (rd_L4 t269 0) a0).bind fun t275 => (some (t275, 0))) else (none)) else (some (false, t272))) = some (r1, r2) := H
 by_cases c5 : t272 = 0
 ·rw [if_pos c5] at H
  have c5b0 : (t272 == 0) = true := beq_iff_eq.mpr c5
  have c5b1 : (t272 != 0) = false := bne_eq_false_iff_eq.mpr c5
  clear c5
  have c6 : 0 < (t269.length : Int) := fl_ fun c6 => by rw [if_neg c6] at H; exact absurd H (by simp)
  rw [if_pos c6] at H
  have c6b0 : decide (0 < (t269.length : Int)) = true := decide_eq_true c6
  have c6b1 : decide (0 < t269.length) = true := decide_eq_true (by omega)
  clear c6
  obtain ⟨t275, A7, H⟩ := bi_ H
  replace H : (some (t275, 0)) = some (r1, r2) := H
  simp only [Option.some.injEq, Prod.mk.injEq] at H
  obtain ⟨rfl, rfl⟩ := H
  go_enter Tryd.func5, Tryd.ntmps5
  go_wp2_with (first | ((with_reducible refine gate_dst (N := 15) rfl ?_); refine Kd.R_lit Kd.string _ 9 ?hg (N := 15) ?hd (xs := ([a2] : List ByteArray)) (inner := [.string a2]) (ok := fun _ => True) (okp := fun _ => True) ?hr ?hp (fun _ hk => hk) trivial (Below.refl _ _) (Nat.le_refl _) (by simp) ?_; (case hd => rfl); (case hg => rfl); (case hr => first | (go_simp; done) | (go_simp; rfl)); (case hp => exact (Reps.one (show Kd.M Kd.string _ _ _ a2 [.string a2] from rfl) (Reps.none _ _))); intro v263 w8 ho9 hb hg_ hnew_; clear hg_ hnew_; (first | rw [← Ny262.out] at ho9 | (simp only [Int.reduceToNat] at ho9; rw [← Ny262.out] at ho9)); have HO264 := rl_ ho9; replace HB := hb_ hb; clear hb ho9; obtain ⟨Ao10, co10, eo10⟩ := Kd.R_slice HO264.out; subst eo10) | ((with_reducible refine gate_callee (f := 11) rfl ?_); refine goesL_ (some 16) rfl rfl Tryd.func11 (by kernel_rfl) rfl #[.int .i64 a0, .slice A1 l1.length c1, .slice Ao10 y262.length co10] rfl (as_) ?_; (with_reducible refine (oneway_drawn.calls k a0 (fun k_ => k_ < w.heap.size) _ _ l1 _ _ y262 t265 t266 t269 t272 _ ?side1 ?side2 ?side3 A4.out).mono ?_); (case side1 => exact Kd.V_mk HC1.out (Kd.F_below (Kd.C_F k39_heap HR1.out) (bl_))); (case side2 => exact cr_ HO264.out); (case side3 => exact (Kd.R_reads' HO264.out).2.1); rintro e w11 ⟨v267, v270, rfl, ho0, ho1, hb⟩; refine ⟨_, rfl, ?_⟩; have HO268 := Aside0.mk (Kd.V_lower (Kd.V_mono (ok' := fun k_ => some k_ ≠ (v270 : Value).ownBlock ∧ some k_ ≠ (.slice Ao10 y262.length co10 : Value).ownBlock) ho0 (fun k_ hk_ => ⟨hk_.2, Or.elim hk_.1 (fun hs_ => fun e_ => Nat.not_le.2 hs_ (Kd.R_base HO264.out k_ e_.symm)) (fun hn_ => (Kd.fresh' (Kd.R_lt (kr_ HO264.out)) k_ hn_))⟩)) (below_size (bl_))); replace HO264 := rb_ HO264 hb; have HO271 := Aside0.mk (Kd.S_lower (Kd.S_mono (ok' := fun k_ => True) ho1 (fun _ hk_ => trivial)) (below_size (bl_))); replace HB := hb_ hb; clear hb ho0 ho1) | ((with_reducible refine gate_dst (N := 8) rfl ?_); refine be_ #[.int .i64 0, .slice none 0 0] 41 ?_; intro gb273 hg w12 hbox hb; replace HO264 := rb_ HO264 hb; replace HO268 := ve_ HO268 hg hb; replace HO271 := Aside0.mk (Kd.S_below (ks_ HO271.out) hb); have BK273 := Aside0.mk (hbox); have GW273 := gw_ hg; have GE273 := gw_ hg; replace HB := hb_ hb; clear hb hbox hg; have hcz13_0 := bc_ BK273 0 (.int .i64 0); have hcz13_1 := bc_ BK273 1 (.slice none 0 0); have hfz13_0 := bz_ BK273 0; have hfz13_1 := bz_ BK273 1; obtain ⟨Ao14, co14, eo14⟩ := Kd.V_slice HO268.out; subst eo14) | ((with_reducible refine gate_store (t := 41) (p := 8) rfl ?_); refine store_event (t := 41) (p := 8) (v := ?vo_w15) (w1 := ((w12.setCell ⟨gb273, 0, none⟩ (.int .i64 t265)).setCell ⟨gb273, 1, none⟩ (.slice Ao14 t266.length co14))) ?hg ?ho ?hn ?hr ?_; (case ho => rfl); (case hg => rfl); (case hn => rfl); (case hr => first | (go_simp; done) | (go_simp; rfl)); intro w15 hw; replace HO264 : Aside0 (Kd.R Kd.string 9 w15 w.heap.size (fun _ => True) (.slice Ao10 y262.length co10) y262) := ⟨(by rw [hw]; exact (by refine kr_ ?_; exact Kd.R_mono (Kd.R_far (p := ⟨gb273, 1, none⟩) (Kd.R_far (p := ⟨gb273, 0, none⟩) (Kd.R_types HO264.out BK273.out (by decide)) (fun _ hk => hk.2) (.int .i64 t265)) (fun _ hk => hk.2) (.slice Ao14 t266.length co14)) (fun _ hk => trivial)))⟩; replace HO268 : Aside0 (Kd.V k39 39 w15 w.heap.size (fun k_ => some k_ ≠ (.slice Ao10 y262.length co10 : Value).ownBlock ∧ some k_ ≠ (v270 : Value).ownBlock ∧ k_ ≠ gb273) (.slice Ao14 t266.length co14) t266) := ⟨(by rw [hw]; exact (by refine kv_ ?_; exact Kd.V_mono (Kd.V_far (p := ⟨gb273, 1, none⟩) (Kd.V_far (p := ⟨gb273, 0, none⟩) (Kd.V_mono HO268.out (fun k_ hk => (⟨hk, hk.2⟩ : _ ∧ k_ ≠ gb273))) (fun _ hk => hk.2) (.int .i64 t265)) (fun _ hk => hk.2) (.slice Ao14 t266.length co14)) (fun _ hk => ⟨hk.1.1.2, ⟨hk.1.1.1, hk.1.2⟩⟩)))⟩; replace HO271 : Aside0 (Kd.S (Kd.slice 39 k39) 45 w15 w.heap.size (fun _ => True) v270 t269) := ⟨(by rw [hw]; exact (by refine ks_ ?_; exact Kd.S_mono (Kd.S_far (p := ⟨gb273, 1, none⟩) (Kd.S_far (p := ⟨gb273, 0, none⟩) (Kd.S_types HO271.out BK273.out (by decide)) (fun _ hk => hk.2) (.int .i64 t265)) (fun _ hk => hk.2) (.slice Ao14 t266.length co14)) (fun _ hk => trivial)))⟩; replace BK273 : Aside0 (w15.heap[gb273]? = some (.cells #[.int .i64 t265, .slice Ao14 t266.length co14] 41 (0, 0))) := ⟨(by rw [hw]; exact (by refine bk_ ?_; refine blk_put (cs := #[.int .i64 t265, .slice none 0 0]) ?_ 1 _ rfl; refine bk_ ?_; refine blk_put (cs := #[.int .i64 0, .slice none 0 0]) ?_ 0 _ rfl; refine bk_ ?_; exact BK273.out))⟩; replace HB : Aside0 (Below w.heap.size w w15) := ⟨(by rw [hw]; exact (bl_))⟩; clear hw; obtain ⟨Ao16, co16, eo16⟩ := Kd.S_slice HO271.out; subst eo16; have p274 : 0 ≤ (0 : Int) := (by omega); have q274 : 0 < (t269.length : Int) := od_; obtain ⟨ad274, A274_0, c274_0, e274, hx274_0, hl274_0, hi274_0⟩ := at_L4 (Kd.S_reads' HO271.out).2.2 0 p274 q274; cases e274; obtain ⟨ce274, hce274, hMe274, hcc274⟩ := Kd.S_get HO271.out [] 0 p274 (by first | exact q274 | exact od_ | (have e_ := (Kd.S_reads' HO271.out).1; omega)); obtain ⟨ve274_0, rfl, ge274_0⟩ := hMe274; have hv274_0 := hcc274 0 _ rfl; rw [Nat.add_zero, show ((Kd.slice 39 k39)).sz = 1 from rfl, Nat.mul_one] at hv274_0; replace hv274_0 := Option.some.inj (hv274_0.symm.trans hx274_0); rw [hv274_0] at ge274_0; have HL274_0 := Aside0.mk (show Kd.R k39 39 _ _ _ _ (rd_L4 t269 0) from ge274_0); clear hv274_0 ge274_0; clear hcc274 hce274; have qi274 : (0 < t269.length) = True := eq_true (by omega); (try rw [show ((0 : Int)).toNat = 0 from rfl] at hx274_0); (try rw [Addr.add_zero'] at hx274_0); have HR274_0 := Aside0.mk hi274_0; have HC274_0 := Aside0.mk hl274_0; clear hi274_0 hl274_0; replace p274 := eq_true p274; replace q274 := eq_true q274) | ((with_reducible refine gate_callee (f := 12) rfl ?_); refine goesL_ (some 27) rfl rfl Tryd.func12 (by kernel_rfl) rfl #[.slice A274_0 (rd_L4 t269 0).length c274_0, .int .i64 a0] rfl (as_) ?_; (with_reducible refine (oneway_arcs_strong.calls k _ _ (rd_L4 t269 0) a0 t275 _ ?side1 ?side2 A7.out).mono ?_); (case side1 => repeat (first | exact (by repeat (first | (with_reducible exact HR274_0.out) | (with_reducible refine Kd.C_alloc ?_ _) | (with_reducible refine Kd.C_drewN ?_ _) | (with_reducible refine Kd.C_drew ?_) | exact HR274_0.out)) | (with_reducible refine Kd.C_alloc ?_ _) | (with_reducible refine Kd.C_drewN ?_ _) | (with_reducible refine Kd.C_drew ?_))); (case side2 => exact HC274_0.out); rintro e w17 ⟨rfl, hb⟩; refine ⟨_, rfl, ?_⟩; replace HO264 := rb_ HO264 hb; replace HO268 := Aside0.mk (Kd.V_below (kv_ HO268.out) hb); replace HO271 := Aside0.mk (Kd.S_below (ks_ HO271.out) hb); replace HL274_0 := rb_ HL274_0 hb; replace BK273 := bb_ BK273 hb; replace HR274_0 := Aside0.mk (Kd.C_below (by repeat (first | (with_reducible exact HR274_0.out) | (with_reducible refine Kd.C_alloc ?_ _) | (with_reducible refine Kd.C_drewN ?_ _) | (with_reducible refine Kd.C_drew ?_) | exact HR274_0.out)) hb); replace HB := hb_ hb; clear hb))
  go_ret2
  exact ⟨er_, bl_⟩
 ·rw [if_neg c5] at H
  have c5b0 : (t272 == 0) = false := beq_eq_false_iff_ne.mpr c5
  have c5b1 : (t272 != 0) = true := bne_iff_ne.mpr c5
  simp only [Option.some.injEq, Prod.mk.injEq] at H
  obtain ⟨rfl, rfl⟩ := H
  go_enter Tryd.func5, Tryd.ntmps5
  go_wp2_with (first | ((with_reducible refine gate_dst (N := 15) rfl ?_); refine Kd.R_lit Kd.string _ 9 ?hg (N := 15) ?hd (xs := ([a2] : List ByteArray)) (inner := [.string a2]) (ok := fun _ => True) (okp := fun _ => True) ?hr ?hp (fun _ hk => hk) trivial (Below.refl _ _) (Nat.le_refl _) (by simp) ?_; (case hd => rfl); (case hg => rfl); (case hr => first | (go_simp; done) | (go_simp; rfl)); (case hp => exact (Reps.one (show Kd.M Kd.string _ _ _ a2 [.string a2] from rfl) (Reps.none _ _))); intro v263 w18 ho19 hb hg_ hnew_; clear hg_ hnew_; (first | rw [← Ny262.out] at ho19 | (simp only [Int.reduceToNat] at ho19; rw [← Ny262.out] at ho19)); have HO264 := rl_ ho19; replace HB := hb_ hb; clear hb ho19; obtain ⟨Ao20, co20, eo20⟩ := Kd.R_slice HO264.out; subst eo20) | ((with_reducible refine gate_callee (f := 11) rfl ?_); refine goesL_ (some 16) rfl rfl Tryd.func11 (by kernel_rfl) rfl #[.int .i64 a0, .slice A1 l1.length c1, .slice Ao20 y262.length co20] rfl (as_) ?_; (with_reducible refine (oneway_drawn.calls k a0 (fun k_ => k_ < w.heap.size) _ _ l1 _ _ y262 t265 t266 t269 t272 _ ?side1 ?side2 ?side3 A4.out).mono ?_); (case side1 => exact Kd.V_mk HC1.out (Kd.F_below (Kd.C_F k39_heap HR1.out) (bl_))); (case side2 => exact cr_ HO264.out); (case side3 => exact (Kd.R_reads' HO264.out).2.1); rintro e w21 ⟨v267, v270, rfl, ho0, ho1, hb⟩; refine ⟨_, rfl, ?_⟩; have HO268 := Aside0.mk (Kd.V_lower (Kd.V_mono (ok' := fun k_ => some k_ ≠ (v270 : Value).ownBlock ∧ some k_ ≠ (.slice Ao20 y262.length co20 : Value).ownBlock) ho0 (fun k_ hk_ => ⟨hk_.2, Or.elim hk_.1 (fun hs_ => fun e_ => Nat.not_le.2 hs_ (Kd.R_base HO264.out k_ e_.symm)) (fun hn_ => (Kd.fresh' (Kd.R_lt (kr_ HO264.out)) k_ hn_))⟩)) (below_size (bl_))); replace HO264 := rb_ HO264 hb; have HO271 := Aside0.mk (Kd.S_lower (Kd.S_mono (ok' := fun k_ => True) ho1 (fun _ hk_ => trivial)) (below_size (bl_))); replace HB := hb_ hb; clear hb ho0 ho1) | ((with_reducible refine gate_dst (N := 8) rfl ?_); refine be_ #[.int .i64 0, .slice none 0 0] 41 ?_; intro gb273 hg w22 hbox hb; replace HO264 := rb_ HO264 hb; replace HO268 := ve_ HO268 hg hb; replace HO271 := Aside0.mk (Kd.S_below (ks_ HO271.out) hb); have BK273 := Aside0.mk (hbox); have GW273 := gw_ hg; have GE273 := gw_ hg; replace HB := hb_ hb; clear hb hbox hg; have hcz23_0 := bc_ BK273 0 (.int .i64 0); have hcz23_1 := bc_ BK273 1 (.slice none 0 0); have hfz23_0 := bz_ BK273 0; have hfz23_1 := bz_ BK273 1; obtain ⟨Ao24, co24, eo24⟩ := Kd.V_slice HO268.out; subst eo24))
  go_ret2
  exact ⟨er_, bl_⟩

end Go.Proofs.YtlcgoacmlbeliaaDoor.P
