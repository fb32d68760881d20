-- Written by wip/tools/myprint.py of this session's repo, over the kit's printer and hand texts.
import Derived.Test.YtlcgoacmlbeliaaDoorPx0
import Derived.Test.YtlcgoacmlbeliaaDoorPre
import Derived.Test.YtlcgoacmlbeliaaDoorPx3
import Derived.Test.YtlcgoacmlbeliaaDoorPx6
import Derived.Test.YtlcgoacmlbeliaaDoorPx8
import Derived.Test.YtlcgoacmlbeliaaDoorPx9
import Derived.Test.YtlcgoacmlbeliaaDoorPx10
namespace Go.Proofs.YtlcgoacmlbeliaaDoor.P
open Go.RowKit Go.Proofs.YtlcgoacmlbeliaaDoorW.PrintWords Go.Proofs.YtlcgoacmlbeliaaDoorW.PrintLast Go.Proofs.YtlcgoacmlbeliaaDoorW.PrintMore
attribute [local go_sem] max2_int min2_int max_two min_two max_three min_three max_four min_four   -- for this text's walks alone
set_option linter.unusedVariables false
set_option linter.unusedSimpArgs false

/-! ### trishawtop_TopStrong: function 3 -/
def trishawtop_TopStrong.j0 : Nat → Int → List (S39) → ByteArray → Bool → Option (Bool)
  | 0, _, _, _, _ => none
  | k + 1, x0, x1, x2, x19 => if x19 = true then ((trishawtop_streets.f k).bind fun t307 => (some t307)) else ((oneway_Strong.f k x0 x1 x2).bind fun bt308 => (if bt308.2 = 0 then ((trishawtop_along.f k x1 x2).bind fun t311 => ((fetch_Strong.f k x0 t311).bind fun bt314 => ((trishawtop_along.f k x1 x2).bind fun t316 => ((fetch_Mend.f k x0 t316).bind fun bt319 => (if bt314.2 = 0 then (if bt319.2 = 0 then (if (bt308.1 == bt314.1) = true then (if (bt308.1 == ((bt319.1.length : Int) == 0)) = true then ((trishawtop_streets.f k).bind fun t323 => (some t323)) else (some false)) else (some false)) else (some false)) else (if bt314.2 = 9 then (if bt319.2 = bt314.2 then (if bt308.1 = true then (some false) else ((trishawtop_streets.f k).bind fun t324 => (some t324))) else (some false)) else (some false))))))) else (if bt308.1 = true then (some false) else ((trishawtop_streets.f k).bind fun t310 => (some t310)))))
def trishawtop_TopStrong.f (k : Nat) (a0 : Int) (l1 : List (S39)) (a2 : ByteArray) : Option (Bool) := if (l1.length : Int) > 14 then (trishawtop_TopStrong.j0 k a0 l1 a2 true) else (trishawtop_TopStrong.j0 k a0 l1 a2 (decide (a0 < 2)))
theorem trishawtop_TopStrong.mono_l : ∀ k, (∀ y0 y1 y2 y3, LeO (trishawtop_TopStrong.j0 k y0 y1 y2 y3) (trishawtop_TopStrong.j0 (k + 1) y0 y1 y2 y3))
  | 0 => fun _ _ _ _ r h => by simp [trishawtop_TopStrong.j0] at h
  | k + 1 => by
    have ih0 := trishawtop_TopStrong.mono_l k
    · intro y0 y1 y2 y3
      unfold trishawtop_TopStrong.j0
      with_reducible repeat' first | exact ih0 _ _ _ _ | exact fetch_Mend.mono _ _ _ | exact fetch_Strong.mono _ _ _ | exact oneway_Strong.mono _ _ _ _ | exact trishawtop_along.mono _ _ _ | exact trishawtop_streets.mono _ | exact LeO.refl _ | exact LeO.none _ | refine LeO.ite ?_ ?_ | refine LeO.bind ?_ (fun _ => ?_)
theorem trishawtop_TopStrong.mono : ∀ a0 a1 a2 k, LeO (trishawtop_TopStrong.f k a0 a1 a2) (trishawtop_TopStrong.f (k + 1) a0 a1 a2) := by
  intro a0 a1 a2 k
  have ih0 := trishawtop_TopStrong.mono_l k
  unfold trishawtop_TopStrong.f
  with_reducible repeat' first | exact ih0 _ _ _ _ | exact fetch_Mend.mono _ _ _ | exact fetch_Strong.mono _ _ _ | exact oneway_Strong.mono _ _ _ _ | exact trishawtop_along.mono _ _ _ | exact trishawtop_streets.mono _ | exact LeO.refl _ | exact LeO.none _ | refine LeO.ite ?_ ?_ | refine LeO.bind ?_ (fun _ => ?_)
set_option maxHeartbeats 8000000 in
set_option maxRecDepth 100000 in
theorem trishawtop_TopStrong.calls (k : Nat) (a0 : Int) (A1 : Option Addr) (c1 : Nat) (l1 : List (S39)) (a2 : ByteArray) (r : Bool) (w : World) (hr1 : Kd.C k39 w A1 l1.length l1) (hc1 : l1.length ≤ c1) (h : trishawtop_TopStrong.f k a0 l1 a2 = some r) :
    Calls Tryd.prog 3 #[.int .i64 a0, .slice A1 l1.length c1, .string a2] w fun e w' => e = .returned (.bool r) ∧ Below w.heap.size w w' := by
 have HR1 := Aside0.mk hr1
 have HC1 := Aside0.mk hc1
 clear hr1 hc1
 have HB := Aside0.mk (Below.refl w.heap.size w)
 have H : (if (l1.length : Int) > 14 then (trishawtop_TopStrong.j0 k a0 l1 a2 true) else (trishawtop_TopStrong.j0 k a0 l1 a2 (decide (a0 < 2)))) = some r := h
 clear h
 have HC4 := Aside0.mk H
 clear H
 go_enter Tryd.func3, Tryd.ntmps3
 go_upto_region 1 with (fail)
 go_cut [19] (fun v19 wc => ∃ (kq : Nat) (x19_3 : Bool), v19 = .bool x19_3 ∧ Aside0 (trishawtop_TopStrong.j0 kq a0 l1 a2 x19_3 = some r) ∧ Aside0 (kq ≤ k) ∧ Aside0 (Below w.heap.size w wc))
 case first =>
  have H := HC4.out
  clear HC4
  by_cases c5 : (l1.length : Int) > 14
  ·rw [if_pos c5] at H
   have c5b0 : decide (14 < (l1.length : Int)) = true := decide_eq_true c5
   have c5b1 : decide (14 < l1.length) = true := decide_eq_true (by omega)
   clear c5
   (first | rw [c5b0] | (simp only [i64_w, i32_w]; rw [c5b0]) | skip)
   have H' := Aside0.mk H
   clear H
   go_wp2
   go_meet
   case rel => exact ⟨_, (true), rs_, H', ⟨by first | omega | exact Nat.le_refl _⟩, ⟨bl_⟩⟩
  ·rw [if_neg c5] at H
   have c5b0 : decide (14 < (l1.length : Int)) = false := decide_eq_false c5
   have c5b1 : decide (14 < l1.length) = false := decide_eq_false (by omega)
   clear c5
   (first | rw [c5b0] | (simp only [i64_w, i32_w]; rw [c5b0]) | skip)
   have H' := Aside0.mk H
   clear H
   go_wp2
   go_meet
   case rel => exact ⟨_, (decide (a0 < 2)), rs_, H', ⟨by first | omega | exact Nat.le_refl _⟩, ⟨bl_⟩⟩
 case rest =>
  clear HC4
  try clear c1
  try clear p2
  try clear c3
  try clear c5
  try clear c5b0
  try clear c5b1
  obtain ⟨kq, x19_3, rfl, HA, HJ3, HB⟩ := hcut
  cases kq with
  | zero => exact absurd HA.out (by simp [trishawtop_TopStrong.j0])
  | succ kj3 =>
   have H := HA.out
   clear HA
   simp only [trishawtop_TopStrong.j0] at H
   by_cases c6 : x19_3 = true
   ·subst c6
    have H1 : ((trishawtop_streets.f kj3).bind fun t307 => (some t307)) = some r := by rw [if_pos rfl] at H; exact H
    clear H
    have H := H1
    clear H1
    obtain ⟨t307, A7, H⟩ := bi_ H
    replace H : (some t307) = some r := H
    obtain rfl := Option.some.inj H
    go_wp2_with (first | ((with_reducible refine gate_callee (f := 4) rfl ?_); refine goesL_ (some 20) rfl rfl Tryd.func4 (by kernel_rfl) rfl #[] rfl (as_) ?_; (with_reducible refine (trishawtop_streets.calls kj3  t307 _ A7.out).mono ?_); rintro e w8 ⟨rfl, hb⟩; refine ⟨_, rfl, ?_⟩; replace HB := hb_ hb; clear hb))
    go_ret
    exact ⟨er_, bl_⟩
   ·replace c6 := Bool.eq_false_iff.mpr c6
    subst c6
    have H1 : ((oneway_Strong.f kj3 a0 l1 a2).bind fun bt308 => (if bt308.2 = 0 then ((trishawtop_along.f kj3 l1 a2).bind fun t311 => ((fetch_Strong.f kj3 a0 t311).bind fun bt314 => ((trishawtop_along.f kj3 l1 a2).bind fun t316 => ((fetch_Mend.f kj3 a0 t316).bind fun bt319 => (if bt314.2 = 0 then (if bt319.2 = 0 then (if (bt308.1 == bt314.1) = true then (if (bt308.1 == ((bt319.1.length : Int) == 0)) = true then ((trishawtop_streets.f kj3).bind fun t323 => (some t323)) else (some false)) else (some false)) else (some false)) else (if bt314.2 = 9 then (if bt319.2 = bt314.2 then (if bt308.1 = true then (some false) else ((trishawtop_streets.f kj3).bind fun t324 => (some t324))) else (some false)) else (some false))))))) else (if bt308.1 = true then (some false) else ((trishawtop_streets.f kj3).bind fun t310 => (some t310))))) = some r := by rw [if_neg (show ¬ (false = true) by decide)] at H; exact H
    clear H
    have H := H1
    clear H1
    obtain ⟨⟨t308, t309⟩, A9, H⟩ := bi_ H
    replace H : (if t309 = 0 then ((trishawtop_along.f kj3 l1 a2).bind fun t311 => ((fetch_Strong.f kj3 a0 t311).bind fun bt314 => ((trishawtop_along.f kj3 l1 a2).bind fun t316 => ((fetch_Mend.f kj3 a0 t316).bind fun bt319 => (if bt314.2 = 0 then (if bt319.2 = 0 then (if (t308 == bt314.1) = true then (if (t308 == ((bt319.1.length : Int) == 0)) = true then ((trishawtop_streets.f kj3).bind fun t323 => (some t323)) else (some false)) else (some false)) else (some false)) else (if bt314.2 = 9 then (if bt319.2 = bt314.2 then (if t308 = true then (some false) else ((trishawtop_streets.f kj3).bind fun t324 => (some t324))) else (some false)) else (some false))))))) else (if t308 = true then (some false) else ((trishawtop_streets.f kj3).bind fun t310 => (some t310)))) = some r := H
    by_cases c10 : t309 = 0
    ·rw [if_pos c10] at H
     have c10b0 : (t309 == 0) = true := beq_iff_eq.mpr c10
     have c10b1 : (t309 != 0) = false := bne_eq_false_iff_eq.mpr c10
     clear c10
     obtain ⟨t311, A11, H⟩ := bi_ H
     replace H : ((fetch_Strong.f kj3 a0 t311).bind fun bt314 => ((trishawtop_along.f kj3 l1 a2).bind fun t316 => ((fetch_Mend.f kj3 a0 t316).bind fun bt319 => (if bt314.2 = 0 then (if bt319.2 = 0 then (if (t308 == bt314.1) = true then (if (t308 == ((bt319.1.length : Int) == 0)) = true then ((trishawtop_streets.f kj3).bind fun t323 => (some t323)) else (some false)) else (some false)) else (some false)) else (if bt314.2 = 9 then (if bt319.2 = bt314.2 then (if t308 = true then (some false) else ((trishawtop_streets.f kj3).bind fun t324 => (some t324))) else (some false)) else (some false)))))) = some r := H
     obtain ⟨⟨t314, t315⟩, A12, H⟩ := bi_ H
     replace H : ((trishawtop_along.f kj3 l1 a2).bind fun t316 => ((fetch_Mend.f kj3 a0 t316).bind fun bt319 => (if t315 = 0 then (if bt319.2 = 0 then (if (t308 == t314) = true then (if (t308 == ((bt319.1.length : Int) == 0)) = true then ((trishawtop_streets.f kj3).bind fun t323 => (some t323)) else (some false)) else (some false)) else (some false)) else (if t315 = 9 then (if bt319.2 = t315 then (if t308 = true then (some false) else ((trishawtop_streets.f kj3).bind fun t324 => (some t324))) else (some false)) else (some false))))) = some r := H
     obtain ⟨t316, A13, H⟩ := bi_ H
     replace H : ((fetch_Mend.f kj3 a0 t316).bind fun bt319 => (if t315 = 0 then (if bt319.2 = 0 then (if (t308 == t314) = true then (if (t308 == ((bt319.1.length : Int) == 0)) = true then ((trishawtop_streets.f kj3).bind fun t323 => (some t323)) else (some false)) else (some false)) else (some false)) else (if t315 = 9 then (if bt319.2 = t315 then (if t308 = true then (some false) else ((trishawtop_streets.f kj3).bind fun t324 => (some t324))) else (some false)) else (some false)))) = some r := H
     obtain ⟨⟨t319, t322⟩, A14, H⟩ := bi_ H
     replace H : (if t315 = 0 then (if t322 = 0 then (if (t308 == t314) = true then (if (t308 == ((t319.length : Int) == 0)) = true then ((trishawtop_streets.f kj3).bind fun t323 => (some t323)) else (some false)) else (some false)) else (some false)) else (if t315 = 9 then (if t322 = t315 then (if t308 = true then (some false) else ((trishawtop_streets.f kj3).bind fun t324 => (some t324))) else (some false)) else (some false))) = some r := H
     by_cases c15 : t315 = 0
     ·rw [if_pos c15] at H
      have c15b0 : (t315 == 0) = true := beq_iff_eq.mpr c15
      have c15b1 : (t315 != 0) = false := bne_eq_false_iff_eq.mpr c15
      clear c15
      by_cases c16 : t322 = 0
      ·rw [if_pos c16] at H
       have c16b0 : (t322 == 0) = true := beq_iff_eq.mpr c16
       have c16b1 : (t322 != 0) = false := bne_eq_false_iff_eq.mpr c16
       clear c16
       by_cases c17 : (t308 == t314) = true
       ·rw [if_pos c17] at H
        have c17b0 : (t308 == t314) = true := c17
        (try (have c17b1 : decide (t308 = t314) = true := by simpa using c17))
        (try (have c17b2 : (t308 == t314) = true := by simpa using c17))
        clear c17
        by_cases c18 : (t308 == ((t319.length : Int) == 0)) = true
        ·rw [if_pos c18] at H
         have c18b0 : (t308 == ((t319.length : Int) == 0)) = true := c18
         (try (have c18b1 : decide (t308 = ((t319.length : Int) == 0)) = true := by simpa using c18))
         (try (have c18b2 : (t308 == ((t319.length : Int) == 0)) = true := by simpa using c18))
         clear c18
         obtain ⟨t323, A19, H⟩ := bi_ H
         replace H : (some t323) = some r := H
         obtain rfl := Option.some.inj H
         go_wp2_with (first | ((with_reducible refine gate_callee (f := 5) rfl ?_); refine goesL_ (some 25) rfl rfl Tryd.func5 (by kernel_rfl) rfl #[.int .i64 a0, .slice A1 l1.length c1, .string a2] rfl (as_) ?_; (with_reducible refine (oneway_Strong.calls kj3 a0 _ _ l1 a2 t308 t309 _ ?side1 ?side2 A9.out).mono ?_); (case side1 => exact cb_ HR1.out); (case side2 => exact HC1.out); rintro e w20 ⟨rfl, hb⟩; refine ⟨_, rfl, ?_⟩; replace HB := hb_ hb; clear hb) | ((with_reducible refine gate_callee (f := 7) rfl ?_); refine goesL_ (some 39) rfl rfl Tryd.func7 (by kernel_rfl) rfl #[.slice A1 l1.length c1, .string a2] rfl (as_) ?_; (with_reducible refine (trishawtop_along.calls kj3 _ _ l1 a2 t311 _ ?side1 ?side2 A11.out).mono ?_); (case side1 => exact cb_ HR1.out); (case side2 => exact HC1.out); rintro e w21 ⟨v312, rfl, ho0, hb⟩; refine ⟨_, rfl, ?_⟩; have HO313 := rl_ ho0; replace HB := hb_ hb; clear hb ho0; obtain ⟨Ao22, co22, eo22⟩ := Kd.R_slice HO313.out; subst eo22) | ((with_reducible refine gate_callee (f := 6) rfl ?_); refine goesL_ (some 40) rfl rfl Tryd.func6 (by kernel_rfl) rfl #[.int .i64 a0, .slice Ao22 t311.length co22] rfl (as_) ?_; (with_reducible refine (fetch_Strong.calls kj3 a0 _ _ t311 t314 t315 _ ?side1 ?side2 A12.out).mono ?_); (case side1 => exact cr_ HO313.out); (case side2 => exact (Kd.R_reads' HO313.out).2.1); rintro e w23 ⟨rfl, hb⟩; refine ⟨_, rfl, ?_⟩; replace HO313 := rb_ HO313 hb; replace HB := hb_ hb; clear hb) | ((with_reducible refine gate_callee (f := 7) rfl ?_); refine goesL_ (some 47) rfl rfl Tryd.func7 (by kernel_rfl) rfl #[.slice A1 l1.length c1, .string a2] rfl (as_) ?_; (with_reducible refine (trishawtop_along.calls kj3 _ _ l1 a2 t316 _ ?side1 ?side2 A13.out).mono ?_); (case side1 => exact cb_ HR1.out); (case side2 => exact HC1.out); rintro e w24 ⟨v317, rfl, ho0, hb⟩; refine ⟨_, rfl, ?_⟩; have HO318 := rl_ (rn_ ho0 HO313); replace HO313 := re_ HO313 ho0 hb; replace HB := hb_ hb; clear hb ho0; obtain ⟨Ao25, co25, eo25⟩ := Kd.R_slice HO318.out; subst eo25) | ((with_reducible refine gate_callee (f := 8) rfl ?_); refine goesL_ (some 48) rfl rfl Tryd.func8 (by kernel_rfl) rfl #[.int .i64 a0, .slice Ao25 t316.length co25] rfl (as_) ?_; (with_reducible refine (fetch_Mend.calls kj3 a0 (fun k_ => some k_ = (.slice Ao25 t316.length co25 : Value).ownBlock) _ _ t316 t319 t322 _ ?side1 A14.out).mono ?_); (case side1 => exact Kd.R_V (Kd.R_tight rfl (HO318.out))); rintro e w26 ⟨v320, rfl, ho0, hb⟩; refine ⟨_, rfl, ?_⟩; have HO321 := Aside0.mk (Kd.V_lower (Kd.V_mono (ok' := fun k_ => some k_ ≠ (.slice Ao22 t311.length co22 : Value).ownBlock) ho0 (fun k_ hk_ => Or.elim hk_ (fun hs_ => ((HO318.out).1 k_ hs_.symm).2) (fun hn_ => (Kd.fresh' (Kd.R_lt (kr_ HO313.out)) k_ hn_)))) (below_size (bl_))); replace HO313 := rb_ HO313 hb; replace HO318 := rb_ HO318 hb; replace HB := hb_ hb; clear hb ho0; obtain ⟨Ao27, co27, eo27⟩ := Kd.V_slice HO321.out; subst eo27) | (go_at_call 4; (with_reducible refine (trishawtop_streets.calls kj3  t323 _ A19.out).mono ?_); rintro e w28 ⟨rfl, hb⟩; replace HO313 := rb_ HO313 hb; replace HO318 := rb_ HO318 hb; replace HO321 := Aside0.mk (Kd.V_below (kv_ HO321.out) hb); replace HB := hb_ hb; clear hb))
         go_ret
         exact ⟨er_, bl_⟩
        ·rw [if_neg c18] at H
         have c18b0 : (t308 == ((t319.length : Int) == 0)) = false := by simpa using c18
         (try (have c18b1 : decide (t308 = ((t319.length : Int) == 0)) = false := by simpa using c18))
         (try (have c18b2 : (t308 == ((t319.length : Int) == 0)) = false := by simpa using c18))
         (try (have c18b3 : ¬ (t308 = ((t319.length : Int) == 0)) := by simpa using c18))
         clear c18
         obtain rfl := Option.some.inj H
         go_wp2_with (first | ((with_reducible refine gate_callee (f := 5) rfl ?_); refine goesL_ (some 25) rfl rfl Tryd.func5 (by kernel_rfl) rfl #[.int .i64 a0, .slice A1 l1.length c1, .string a2] rfl (as_) ?_; (with_reducible refine (oneway_Strong.calls kj3 a0 _ _ l1 a2 t308 t309 _ ?side1 ?side2 A9.out).mono ?_); (case side1 => exact cb_ HR1.out); (case side2 => exact HC1.out); rintro e w29 ⟨rfl, hb⟩; refine ⟨_, rfl, ?_⟩; replace HB := hb_ hb; clear hb) | ((with_reducible refine gate_callee (f := 7) rfl ?_); refine goesL_ (some 39) rfl rfl Tryd.func7 (by kernel_rfl) rfl #[.slice A1 l1.length c1, .string a2] rfl (as_) ?_; (with_reducible refine (trishawtop_along.calls kj3 _ _ l1 a2 t311 _ ?side1 ?side2 A11.out).mono ?_); (case side1 => exact cb_ HR1.out); (case side2 => exact HC1.out); rintro e w30 ⟨v312, rfl, ho0, hb⟩; refine ⟨_, rfl, ?_⟩; have HO313 := rl_ ho0; replace HB := hb_ hb; clear hb ho0; obtain ⟨Ao31, co31, eo31⟩ := Kd.R_slice HO313.out; subst eo31) | ((with_reducible refine gate_callee (f := 6) rfl ?_); refine goesL_ (some 40) rfl rfl Tryd.func6 (by kernel_rfl) rfl #[.int .i64 a0, .slice Ao31 t311.length co31] rfl (as_) ?_; (with_reducible refine (fetch_Strong.calls kj3 a0 _ _ t311 t314 t315 _ ?side1 ?side2 A12.out).mono ?_); (case side1 => exact cr_ HO313.out); (case side2 => exact (Kd.R_reads' HO313.out).2.1); rintro e w32 ⟨rfl, hb⟩; refine ⟨_, rfl, ?_⟩; replace HO313 := rb_ HO313 hb; replace HB := hb_ hb; clear hb) | ((with_reducible refine gate_callee (f := 7) rfl ?_); refine goesL_ (some 47) rfl rfl Tryd.func7 (by kernel_rfl) rfl #[.slice A1 l1.length c1, .string a2] rfl (as_) ?_; (with_reducible refine (trishawtop_along.calls kj3 _ _ l1 a2 t316 _ ?side1 ?side2 A13.out).mono ?_); (case side1 => exact cb_ HR1.out); (case side2 => exact HC1.out); rintro e w33 ⟨v317, rfl, ho0, hb⟩; refine ⟨_, rfl, ?_⟩; have HO318 := rl_ (rn_ ho0 HO313); replace HO313 := re_ HO313 ho0 hb; replace HB := hb_ hb; clear hb ho0; obtain ⟨Ao34, co34, eo34⟩ := Kd.R_slice HO318.out; subst eo34) | ((with_reducible refine gate_callee (f := 8) rfl ?_); refine goesL_ (some 48) rfl rfl Tryd.func8 (by kernel_rfl) rfl #[.int .i64 a0, .slice Ao34 t316.length co34] rfl (as_) ?_; (with_reducible refine (fetch_Mend.calls kj3 a0 (fun k_ => some k_ = (.slice Ao34 t316.length co34 : Value).ownBlock) _ _ t316 t319 t322 _ ?side1 A14.out).mono ?_); (case side1 => exact Kd.R_V (Kd.R_tight rfl (HO318.out))); rintro e w35 ⟨v320, rfl, ho0, hb⟩; refine ⟨_, rfl, ?_⟩; have HO321 := Aside0.mk (Kd.V_lower (Kd.V_mono (ok' := fun k_ => some k_ ≠ (.slice Ao31 t311.length co31 : Value).ownBlock) ho0 (fun k_ hk_ => Or.elim hk_ (fun hs_ => ((HO318.out).1 k_ hs_.symm).2) (fun hn_ => (Kd.fresh' (Kd.R_lt (kr_ HO313.out)) k_ hn_)))) (below_size (bl_))); replace HO313 := rb_ HO313 hb; replace HO318 := rb_ HO318 hb; replace HB := hb_ hb; clear hb ho0; obtain ⟨Ao36, co36, eo36⟩ := Kd.V_slice HO321.out; subst eo36))
         go_ret
         exact ⟨er_, bl_⟩
       ·rw [if_neg c17] at H
        have c17b0 : (t308 == t314) = false := by simpa using c17
        (try (have c17b1 : decide (t308 = t314) = false := by simpa using c17))
        (try (have c17b2 : (t308 == t314) = false := by simpa using c17))
        (try (have c17b3 : ¬ (t308 = t314) := by simpa using c17))
        clear c17
        obtain rfl := Option.some.inj H
        go_wp2_with (first | ((with_reducible refine gate_callee (f := 5) rfl ?_); refine goesL_ (some 25) rfl rfl Tryd.func5 (by kernel_rfl) rfl #[.int .i64 a0, .slice A1 l1.length c1, .string a2] rfl (as_) ?_; (with_reducible refine (oneway_Strong.calls kj3 a0 _ _ l1 a2 t308 t309 _ ?side1 ?side2 A9.out).mono ?_); (case side1 => exact cb_ HR1.out); (case side2 => exact HC1.out); rintro e w37 ⟨rfl, hb⟩; refine ⟨_, rfl, ?_⟩; replace HB := hb_ hb; clear hb) | ((with_reducible refine gate_callee (f := 7) rfl ?_); refine goesL_ (some 39) rfl rfl Tryd.func7 (by kernel_rfl) rfl #[.slice A1 l1.length c1, .string a2] rfl (as_) ?_; (with_reducible refine (trishawtop_along.calls kj3 _ _ l1 a2 t311 _ ?side1 ?side2 A11.out).mono ?_); (case side1 => exact cb_ HR1.out); (case side2 => exact HC1.out); rintro e w38 ⟨v312, rfl, ho0, hb⟩; refine ⟨_, rfl, ?_⟩; have HO313 := rl_ ho0; replace HB := hb_ hb; clear hb ho0; obtain ⟨Ao39, co39, eo39⟩ := Kd.R_slice HO313.out; subst eo39) | ((with_reducible refine gate_callee (f := 6) rfl ?_); refine goesL_ (some 40) rfl rfl Tryd.func6 (by kernel_rfl) rfl #[.int .i64 a0, .slice Ao39 t311.length co39] rfl (as_) ?_; (with_reducible refine (fetch_Strong.calls kj3 a0 _ _ t311 t314 t315 _ ?side1 ?side2 A12.out).mono ?_); (case side1 => exact cr_ HO313.out); (case side2 => exact (Kd.R_reads' HO313.out).2.1); rintro e w40 ⟨rfl, hb⟩; refine ⟨_, rfl, ?_⟩; replace HO313 := rb_ HO313 hb; replace HB := hb_ hb; clear hb) | ((with_reducible refine gate_callee (f := 7) rfl ?_); refine goesL_ (some 47) rfl rfl Tryd.func7 (by kernel_rfl) rfl #[.slice A1 l1.length c1, .string a2] rfl (as_) ?_; (with_reducible refine (trishawtop_along.calls kj3 _ _ l1 a2 t316 _ ?side1 ?side2 A13.out).mono ?_); (case side1 => exact cb_ HR1.out); (case side2 => exact HC1.out); rintro e w41 ⟨v317, rfl, ho0, hb⟩; refine ⟨_, rfl, ?_⟩; have HO318 := rl_ (rn_ ho0 HO313); replace HO313 := re_ HO313 ho0 hb; replace HB := hb_ hb; clear hb ho0; obtain ⟨Ao42, co42, eo42⟩ := Kd.R_slice HO318.out; subst eo42) | ((with_reducible refine gate_callee (f := 8) rfl ?_); refine goesL_ (some 48) rfl rfl Tryd.func8 (by kernel_rfl) rfl #[.int .i64 a0, .slice Ao42 t316.length co42] rfl (as_) ?_; (with_reducible refine (fetch_Mend.calls kj3 a0 (fun k_ => some k_ = (.slice Ao42 t316.length co42 : Value).ownBlock) _ _ t316 t319 t322 _ ?side1 A14.out).mono ?_); (case side1 => exact Kd.R_V (Kd.R_tight rfl (HO318.out))); rintro e w43 ⟨v320, rfl, ho0, hb⟩; refine ⟨_, rfl, ?_⟩; have HO321 := Aside0.mk (Kd.V_lower (Kd.V_mono (ok' := fun k_ => some k_ ≠ (.slice Ao39 t311.length co39 : Value).ownBlock) ho0 (fun k_ hk_ => Or.elim hk_ (fun hs_ => ((HO318.out).1 k_ hs_.symm).2) (fun hn_ => (Kd.fresh' (Kd.R_lt (kr_ HO313.out)) k_ hn_)))) (below_size (bl_))); replace HO313 := rb_ HO313 hb; replace HO318 := rb_ HO318 hb; replace HB := hb_ hb; clear hb ho0))
        go_ret
        exact ⟨er_, bl_⟩
      ·rw [if_neg c16] at H
       have c16b0 : (t322 == 0) = false := beq_eq_false_iff_ne.mpr c16
       have c16b1 : (t322 != 0) = true := bne_iff_ne.mpr c16
       obtain rfl := Option.some.inj H
       go_wp2_with (first | ((with_reducible refine gate_callee (f := 5) rfl ?_); refine goesL_ (some 25) rfl rfl Tryd.func5 (by kernel_rfl) rfl #[.int .i64 a0, .slice A1 l1.length c1, .string a2] rfl (as_) ?_; (with_reducible refine (oneway_Strong.calls kj3 a0 _ _ l1 a2 t308 t309 _ ?side1 ?side2 A9.out).mono ?_); (case side1 => exact cb_ HR1.out); (case side2 => exact HC1.out); rintro e w44 ⟨rfl, hb⟩; refine ⟨_, rfl, ?_⟩; replace HB := hb_ hb; clear hb) | ((with_reducible refine gate_callee (f := 7) rfl ?_); refine goesL_ (some 39) rfl rfl Tryd.func7 (by kernel_rfl) rfl #[.slice A1 l1.length c1, .string a2] rfl (as_) ?_; (with_reducible refine (trishawtop_along.calls kj3 _ _ l1 a2 t311 _ ?side1 ?side2 A11.out).mono ?_); (case side1 => exact cb_ HR1.out); (case side2 => exact HC1.out); rintro e w45 ⟨v312, rfl, ho0, hb⟩; refine ⟨_, rfl, ?_⟩; have HO313 := rl_ ho0; replace HB := hb_ hb; clear hb ho0; obtain ⟨Ao46, co46, eo46⟩ := Kd.R_slice HO313.out; subst eo46) | ((with_reducible refine gate_callee (f := 6) rfl ?_); refine goesL_ (some 40) rfl rfl Tryd.func6 (by kernel_rfl) rfl #[.int .i64 a0, .slice Ao46 t311.length co46] rfl (as_) ?_; (with_reducible refine (fetch_Strong.calls kj3 a0 _ _ t311 t314 t315 _ ?side1 ?side2 A12.out).mono ?_); (case side1 => exact cr_ HO313.out); (case side2 => exact (Kd.R_reads' HO313.out).2.1); rintro e w47 ⟨rfl, hb⟩; refine ⟨_, rfl, ?_⟩; replace HO313 := rb_ HO313 hb; replace HB := hb_ hb; clear hb) | ((with_reducible refine gate_callee (f := 7) rfl ?_); refine goesL_ (some 47) rfl rfl Tryd.func7 (by kernel_rfl) rfl #[.slice A1 l1.length c1, .string a2] rfl (as_) ?_; (with_reducible refine (trishawtop_along.calls kj3 _ _ l1 a2 t316 _ ?side1 ?side2 A13.out).mono ?_); (case side1 => exact cb_ HR1.out); (case side2 => exact HC1.out); rintro e w48 ⟨v317, rfl, ho0, hb⟩; refine ⟨_, rfl, ?_⟩; have HO318 := rl_ (rn_ ho0 HO313); replace HO313 := re_ HO313 ho0 hb; replace HB := hb_ hb; clear hb ho0; obtain ⟨Ao49, co49, eo49⟩ := Kd.R_slice HO318.out; subst eo49) | ((with_reducible refine gate_callee (f := 8) rfl ?_); refine goesL_ (some 48) rfl rfl Tryd.func8 (by kernel_rfl) rfl #[.int .i64 a0, .slice Ao49 t316.length co49] rfl (as_) ?_; (with_reducible refine (fetch_Mend.calls kj3 a0 (fun k_ => some k_ = (.slice Ao49 t316.length co49 : Value).ownBlock) _ _ t316 t319 t322 _ ?side1 A14.out).mono ?_); (case side1 => exact Kd.R_V (Kd.R_tight rfl (HO318.out))); rintro e w50 ⟨v320, rfl, ho0, hb⟩; refine ⟨_, rfl, ?_⟩; have HO321 := Aside0.mk (Kd.V_lower (Kd.V_mono (ok' := fun k_ => some k_ ≠ (.slice Ao46 t311.length co46 : Value).ownBlock) ho0 (fun k_ hk_ => Or.elim hk_ (fun hs_ => ((HO318.out).1 k_ hs_.symm).2) (fun hn_ => (Kd.fresh' (Kd.R_lt (kr_ HO313.out)) k_ hn_)))) (below_size (bl_))); replace HO313 := rb_ HO313 hb; replace HO318 := rb_ HO318 hb; replace HB := hb_ hb; clear hb ho0))
       go_ret
       exact ⟨er_, bl_⟩
     ·rw [if_neg c15] at H
      have c15b0 : (t315 == 0) = false := beq_eq_false_iff_ne.mpr c15
      have c15b1 : (t315 != 0) = true := bne_iff_ne.mpr c15
      by_cases c51 : t315 = 9
      ·rw [if_pos c51] at H
       have c51b0 : (t315 == 9) = true := beq_iff_eq.mpr c51
       have c51b1 : (t315 != 9) = false := bne_eq_false_iff_eq.mpr c51
       clear c51
       by_cases c52 : t322 = t315
       ·rw [if_pos c52] at H
        have c52b0 : (t322 == t315) = true := beq_iff_eq.mpr c52
        have c52b1 : (t322 != t315) = false := bne_eq_false_iff_eq.mpr c52
        clear c52
        by_cases c53 : t308 = true
        ·subst c53
         have H1 : (some false) = some r := by rw [if_pos rfl] at H; exact H
         clear H
         have H := H1
         clear H1
         obtain rfl := Option.some.inj H
         go_wp2_with (first | ((with_reducible refine gate_callee (f := 5) rfl ?_); refine goesL_ (some 25) rfl rfl Tryd.func5 (by kernel_rfl) rfl #[.int .i64 a0, .slice A1 l1.length c1, .string a2] rfl (as_) ?_; (with_reducible refine (oneway_Strong.calls kj3 a0 _ _ l1 a2 true t309 _ ?side1 ?side2 A9.out).mono ?_); (case side1 => exact cb_ HR1.out); (case side2 => exact HC1.out); rintro e w54 ⟨rfl, hb⟩; refine ⟨_, rfl, ?_⟩; replace HB := hb_ hb; clear hb) | ((with_reducible refine gate_callee (f := 7) rfl ?_); refine goesL_ (some 39) rfl rfl Tryd.func7 (by kernel_rfl) rfl #[.slice A1 l1.length c1, .string a2] rfl (as_) ?_; (with_reducible refine (trishawtop_along.calls kj3 _ _ l1 a2 t311 _ ?side1 ?side2 A11.out).mono ?_); (case side1 => exact cb_ HR1.out); (case side2 => exact HC1.out); rintro e w55 ⟨v312, rfl, ho0, hb⟩; refine ⟨_, rfl, ?_⟩; have HO313 := rl_ ho0; replace HB := hb_ hb; clear hb ho0; obtain ⟨Ao56, co56, eo56⟩ := Kd.R_slice HO313.out; subst eo56) | ((with_reducible refine gate_callee (f := 6) rfl ?_); refine goesL_ (some 40) rfl rfl Tryd.func6 (by kernel_rfl) rfl #[.int .i64 a0, .slice Ao56 t311.length co56] rfl (as_) ?_; (with_reducible refine (fetch_Strong.calls kj3 a0 _ _ t311 t314 t315 _ ?side1 ?side2 A12.out).mono ?_); (case side1 => exact cr_ HO313.out); (case side2 => exact (Kd.R_reads' HO313.out).2.1); rintro e w57 ⟨rfl, hb⟩; refine ⟨_, rfl, ?_⟩; replace HO313 := rb_ HO313 hb; replace HB := hb_ hb; clear hb) | ((with_reducible refine gate_callee (f := 7) rfl ?_); refine goesL_ (some 47) rfl rfl Tryd.func7 (by kernel_rfl) rfl #[.slice A1 l1.length c1, .string a2] rfl (as_) ?_; (with_reducible refine (trishawtop_along.calls kj3 _ _ l1 a2 t316 _ ?side1 ?side2 A13.out).mono ?_); (case side1 => exact cb_ HR1.out); (case side2 => exact HC1.out); rintro e w58 ⟨v317, rfl, ho0, hb⟩; refine ⟨_, rfl, ?_⟩; have HO318 := rl_ (rn_ ho0 HO313); replace HO313 := re_ HO313 ho0 hb; replace HB := hb_ hb; clear hb ho0; obtain ⟨Ao59, co59, eo59⟩ := Kd.R_slice HO318.out; subst eo59) | ((with_reducible refine gate_callee (f := 8) rfl ?_); refine goesL_ (some 48) rfl rfl Tryd.func8 (by kernel_rfl) rfl #[.int .i64 a0, .slice Ao59 t316.length co59] rfl (as_) ?_; (with_reducible refine (fetch_Mend.calls kj3 a0 (fun k_ => some k_ = (.slice Ao59 t316.length co59 : Value).ownBlock) _ _ t316 t319 t322 _ ?side1 A14.out).mono ?_); (case side1 => exact Kd.R_V (Kd.R_tight rfl (HO318.out))); rintro e w60 ⟨v320, rfl, ho0, hb⟩; refine ⟨_, rfl, ?_⟩; have HO321 := Aside0.mk (Kd.V_lower (Kd.V_mono (ok' := fun k_ => some k_ ≠ (.slice Ao56 t311.length co56 : Value).ownBlock) ho0 (fun k_ hk_ => Or.elim hk_ (fun hs_ => ((HO318.out).1 k_ hs_.symm).2) (fun hn_ => (Kd.fresh' (Kd.R_lt (kr_ HO313.out)) k_ hn_)))) (below_size (bl_))); replace HO313 := rb_ HO313 hb; replace HO318 := rb_ HO318 hb; replace HB := hb_ hb; clear hb ho0))
         go_ret
         exact ⟨er_, bl_⟩
        ·replace c53 := Bool.eq_false_iff.mpr c53
         subst c53
         have H1 : ((trishawtop_streets.f kj3).bind fun t324 => (some t324)) = some r := by rw [if_neg (show ¬ (false = true) by decide)] at H; exact H
         clear H
         have H := H1
         clear H1
         obtain ⟨t324, A61, H⟩ := bi_ H
         replace H : (some t324) = some r := H
         obtain rfl := Option.some.inj H
         go_wp2_with (first | ((with_reducible refine gate_callee (f := 5) rfl ?_); refine goesL_ (some 25) rfl rfl Tryd.func5 (by kernel_rfl) rfl #[.int .i64 a0, .slice A1 l1.length c1, .string a2] rfl (as_) ?_; (with_reducible refine (oneway_Strong.calls kj3 a0 _ _ l1 a2 false t309 _ ?side1 ?side2 A9.out).mono ?_); (case side1 => exact cb_ HR1.out); (case side2 => exact HC1.out); rintro e w62 ⟨rfl, hb⟩; refine ⟨_, rfl, ?_⟩; replace HB := hb_ hb; clear hb) | ((with_reducible refine gate_callee (f := 7) rfl ?_); refine goesL_ (some 39) rfl rfl Tryd.func7 (by kernel_rfl) rfl #[.slice A1 l1.length c1, .string a2] rfl (as_) ?_; (with_reducible refine (trishawtop_along.calls kj3 _ _ l1 a2 t311 _ ?side1 ?side2 A11.out).mono ?_); (case side1 => exact cb_ HR1.out); (case side2 => exact HC1.out); rintro e w63 ⟨v312, rfl, ho0, hb⟩; refine ⟨_, rfl, ?_⟩; have HO313 := rl_ ho0; replace HB := hb_ hb; clear hb ho0; obtain ⟨Ao64, co64, eo64⟩ := Kd.R_slice HO313.out; subst eo64) | ((with_reducible refine gate_callee (f := 6) rfl ?_); refine goesL_ (some 40) rfl rfl Tryd.func6 (by kernel_rfl) rfl #[.int .i64 a0, .slice Ao64 t311.length co64] rfl (as_) ?_; (with_reducible refine (fetch_Strong.calls kj3 a0 _ _ t311 t314 t315 _ ?side1 ?side2 A12.out).mono ?_); (case side1 => exact cr_ HO313.out); (case side2 => exact (Kd.R_reads' HO313.out).2.1); rintro e w65 ⟨rfl, hb⟩; refine ⟨_, rfl, ?_⟩; replace HO313 := rb_ HO313 hb; replace HB := hb_ hb; clear hb) | ((with_reducible refine gate_callee (f := 7) rfl ?_); refine goesL_ (some 47) rfl rfl Tryd.func7 (by kernel_rfl) rfl #[.slice A1 l1.length c1, .string a2] rfl (as_) ?_; (with_reducible refine (trishawtop_along.calls kj3 _ _ l1 a2 t316 _ ?side1 ?side2 A13.out).mono ?_); (case side1 => exact cb_ HR1.out); (case side2 => exact HC1.out); rintro e w66 ⟨v317, rfl, ho0, hb⟩; refine ⟨_, rfl, ?_⟩; have HO318 := rl_ (rn_ ho0 HO313); replace HO313 := re_ HO313 ho0 hb; replace HB := hb_ hb; clear hb ho0; obtain ⟨Ao67, co67, eo67⟩ := Kd.R_slice HO318.out; subst eo67) | ((with_reducible refine gate_callee (f := 8) rfl ?_); refine goesL_ (some 48) rfl rfl Tryd.func8 (by kernel_rfl) rfl #[.int .i64 a0, .slice Ao67 t316.length co67] rfl (as_) ?_; (with_reducible refine (fetch_Mend.calls kj3 a0 (fun k_ => some k_ = (.slice Ao67 t316.length co67 : Value).ownBlock) _ _ t316 t319 t322 _ ?side1 A14.out).mono ?_); (case side1 => exact Kd.R_V (Kd.R_tight rfl (HO318.out))); rintro e w68 ⟨v320, rfl, ho0, hb⟩; refine ⟨_, rfl, ?_⟩; have HO321 := Aside0.mk (Kd.V_lower (Kd.V_mono (ok' := fun k_ => some k_ ≠ (.slice Ao64 t311.length co64 : Value).ownBlock) ho0 (fun k_ hk_ => Or.elim hk_ (fun hs_ => ((HO318.out).1 k_ hs_.symm).2) (fun hn_ => (Kd.fresh' (Kd.R_lt (kr_ HO313.out)) k_ hn_)))) (below_size (bl_))); replace HO313 := rb_ HO313 hb; replace HO318 := rb_ HO318 hb; replace HB := hb_ hb; clear hb ho0) | (go_at_call 4; (with_reducible refine (trishawtop_streets.calls kj3  t324 _ A61.out).mono ?_); rintro e w69 ⟨rfl, hb⟩; replace HO313 := rb_ HO313 hb; replace HO318 := rb_ HO318 hb; replace HO321 := Aside0.mk (Kd.V_below (kv_ HO321.out) hb); replace HB := hb_ hb; clear hb))
         go_ret
         exact ⟨er_, bl_⟩
       ·rw [if_neg c52] at H
        have c52b0 : (t322 == t315) = false := beq_eq_false_iff_ne.mpr c52
        have c52b1 : (t322 != t315) = true := bne_iff_ne.mpr c52
        obtain rfl := Option.some.inj H
        go_wp2_with (first | ((with_reducible refine gate_callee (f := 5) rfl ?_); refine goesL_ (some 25) rfl rfl Tryd.func5 (by kernel_rfl) rfl #[.int .i64 a0, .slice A1 l1.length c1, .string a2] rfl (as_) ?_; (with_reducible refine (oneway_Strong.calls kj3 a0 _ _ l1 a2 t308 t309 _ ?side1 ?side2 A9.out).mono ?_); (case side1 => exact cb_ HR1.out); (case side2 => exact HC1.out); rintro e w70 ⟨rfl, hb⟩; refine ⟨_, rfl, ?_⟩; replace HB := hb_ hb; clear hb) | ((with_reducible refine gate_callee (f := 7) rfl ?_); refine goesL_ (some 39) rfl rfl Tryd.func7 (by kernel_rfl) rfl #[.slice A1 l1.length c1, .string a2] rfl (as_) ?_; (with_reducible refine (trishawtop_along.calls kj3 _ _ l1 a2 t311 _ ?side1 ?side2 A11.out).mono ?_); (case side1 => exact cb_ HR1.out); (case side2 => exact HC1.out); rintro e w71 ⟨v312, rfl, ho0, hb⟩; refine ⟨_, rfl, ?_⟩; have HO313 := rl_ ho0; replace HB := hb_ hb; clear hb ho0; obtain ⟨Ao72, co72, eo72⟩ := Kd.R_slice HO313.out; subst eo72) | ((with_reducible refine gate_callee (f := 6) rfl ?_); refine goesL_ (some 40) rfl rfl Tryd.func6 (by kernel_rfl) rfl #[.int .i64 a0, .slice Ao72 t311.length co72] rfl (as_) ?_; (with_reducible refine (fetch_Strong.calls kj3 a0 _ _ t311 t314 t315 _ ?side1 ?side2 A12.out).mono ?_); (case side1 => exact cr_ HO313.out); (case side2 => exact (Kd.R_reads' HO313.out).2.1); rintro e w73 ⟨rfl, hb⟩; refine ⟨_, rfl, ?_⟩; replace HO313 := rb_ HO313 hb; replace HB := hb_ hb; clear hb) | ((with_reducible refine gate_callee (f := 7) rfl ?_); refine goesL_ (some 47) rfl rfl Tryd.func7 (by kernel_rfl) rfl #[.slice A1 l1.length c1, .string a2] rfl (as_) ?_; (with_reducible refine (trishawtop_along.calls kj3 _ _ l1 a2 t316 _ ?side1 ?side2 A13.out).mono ?_); (case side1 => exact cb_ HR1.out); (case side2 => exact HC1.out); rintro e w74 ⟨v317, rfl, ho0, hb⟩; refine ⟨_, rfl, ?_⟩; have HO318 := rl_ (rn_ ho0 HO313); replace HO313 := re_ HO313 ho0 hb; replace HB := hb_ hb; clear hb ho0; obtain ⟨Ao75, co75, eo75⟩ := Kd.R_slice HO318.out; subst eo75) | ((with_reducible refine gate_callee (f := 8) rfl ?_); refine goesL_ (some 48) rfl rfl Tryd.func8 (by kernel_rfl) rfl #[.int .i64 a0, .slice Ao75 t316.length co75] rfl (as_) ?_; (with_reducible refine (fetch_Mend.calls kj3 a0 (fun k_ => some k_ = (.slice Ao75 t316.length co75 : Value).ownBlock) _ _ t316 t319 t322 _ ?side1 A14.out).mono ?_); (case side1 => exact Kd.R_V (Kd.R_tight rfl (HO318.out))); rintro e w76 ⟨v320, rfl, ho0, hb⟩; refine ⟨_, rfl, ?_⟩; have HO321 := Aside0.mk (Kd.V_lower (Kd.V_mono (ok' := fun k_ => some k_ ≠ (.slice Ao72 t311.length co72 : Value).ownBlock) ho0 (fun k_ hk_ => Or.elim hk_ (fun hs_ => ((HO318.out).1 k_ hs_.symm).2) (fun hn_ => (Kd.fresh' (Kd.R_lt (kr_ HO313.out)) k_ hn_)))) (below_size (bl_))); replace HO313 := rb_ HO313 hb; replace HO318 := rb_ HO318 hb; replace HB := hb_ hb; clear hb ho0))
        go_ret
        exact ⟨er_, bl_⟩
      ·rw [if_neg c51] at H
       have c51b0 : (t315 == 9) = false := beq_eq_false_iff_ne.mpr c51
       have c51b1 : (t315 != 9) = true := bne_iff_ne.mpr c51
       obtain rfl := Option.some.inj H
       go_wp2_with (first | ((with_reducible refine gate_callee (f := 5) rfl ?_); refine goesL_ (some 25) rfl rfl Tryd.func5 (by kernel_rfl) rfl #[.int .i64 a0, .slice A1 l1.length c1, .string a2] rfl (as_) ?_; (with_reducible refine (oneway_Strong.calls kj3 a0 _ _ l1 a2 t308 t309 _ ?side1 ?side2 A9.out).mono ?_); (case side1 => exact cb_ HR1.out); (case side2 => exact HC1.out); rintro e w77 ⟨rfl, hb⟩; refine ⟨_, rfl, ?_⟩; replace HB := hb_ hb; clear hb) | ((with_reducible refine gate_callee (f := 7) rfl ?_); refine goesL_ (some 39) rfl rfl Tryd.func7 (by kernel_rfl) rfl #[.slice A1 l1.length c1, .string a2] rfl (as_) ?_; (with_reducible refine (trishawtop_along.calls kj3 _ _ l1 a2 t311 _ ?side1 ?side2 A11.out).mono ?_); (case side1 => exact cb_ HR1.out); (case side2 => exact HC1.out); rintro e w78 ⟨v312, rfl, ho0, hb⟩; refine ⟨_, rfl, ?_⟩; have HO313 := rl_ ho0; replace HB := hb_ hb; clear hb ho0; obtain ⟨Ao79, co79, eo79⟩ := Kd.R_slice HO313.out; subst eo79) | ((with_reducible refine gate_callee (f := 6) rfl ?_); refine goesL_ (some 40) rfl rfl Tryd.func6 (by kernel_rfl) rfl #[.int .i64 a0, .slice Ao79 t311.length co79] rfl (as_) ?_; (with_reducible refine (fetch_Strong.calls kj3 a0 _ _ t311 t314 t315 _ ?side1 ?side2 A12.out).mono ?_); (case side1 => exact cr_ HO313.out); (case side2 => exact (Kd.R_reads' HO313.out).2.1); rintro e w80 ⟨rfl, hb⟩; refine ⟨_, rfl, ?_⟩; replace HO313 := rb_ HO313 hb; replace HB := hb_ hb; clear hb) | ((with_reducible refine gate_callee (f := 7) rfl ?_); refine goesL_ (some 47) rfl rfl Tryd.func7 (by kernel_rfl) rfl #[.slice A1 l1.length c1, .string a2] rfl (as_) ?_; (with_reducible refine (trishawtop_along.calls kj3 _ _ l1 a2 t316 _ ?side1 ?side2 A13.out).mono ?_); (case side1 => exact cb_ HR1.out); (case side2 => exact HC1.out); rintro e w81 ⟨v317, rfl, ho0, hb⟩; refine ⟨_, rfl, ?_⟩; have HO318 := rl_ (rn_ ho0 HO313); replace HO313 := re_ HO313 ho0 hb; replace HB := hb_ hb; clear hb ho0; obtain ⟨Ao82, co82, eo82⟩ := Kd.R_slice HO318.out; subst eo82) | ((with_reducible refine gate_callee (f := 8) rfl ?_); refine goesL_ (some 48) rfl rfl Tryd.func8 (by kernel_rfl) rfl #[.int .i64 a0, .slice Ao82 t316.length co82] rfl (as_) ?_; (with_reducible refine (fetch_Mend.calls kj3 a0 (fun k_ => some k_ = (.slice Ao82 t316.length co82 : Value).ownBlock) _ _ t316 t319 t322 _ ?side1 A14.out).mono ?_); (case side1 => exact Kd.R_V (Kd.R_tight rfl (HO318.out))); rintro e w83 ⟨v320, rfl, ho0, hb⟩; refine ⟨_, rfl, ?_⟩; have HO321 := Aside0.mk (Kd.V_lower (Kd.V_mono (ok' := fun k_ => some k_ ≠ (.slice Ao79 t311.length co79 : Value).ownBlock) ho0 (fun k_ hk_ => Or.elim hk_ (fun hs_ => ((HO318.out).1 k_ hs_.symm).2) (fun hn_ => (Kd.fresh' (Kd.R_lt (kr_ HO313.out)) k_ hn_)))) (below_size (bl_))); replace HO313 := rb_ HO313 hb; replace HO318 := rb_ HO318 hb; replace HB := hb_ hb; clear hb ho0))
       go_ret
       exact ⟨er_, bl_⟩
    ·rw [if_neg c10] at H
     have c10b0 : (t309 == 0) = false := beq_eq_false_iff_ne.mpr c10
     have c10b1 : (t309 != 0) = true := bne_iff_ne.mpr c10
     by_cases c84 : t308 = true
     ·subst c84
      have H1 : (some false) = some r := by rw [if_pos rfl] at H; exact H
      clear H
      have H := H1
      clear H1
      obtain rfl := Option.some.inj H
      go_wp2_with (first | ((with_reducible refine gate_callee (f := 5) rfl ?_); refine goesL_ (some 25) rfl rfl Tryd.func5 (by kernel_rfl) rfl #[.int .i64 a0, .slice A1 l1.length c1, .string a2] rfl (as_) ?_; (with_reducible refine (oneway_Strong.calls kj3 a0 _ _ l1 a2 true t309 _ ?side1 ?side2 A9.out).mono ?_); (case side1 => exact cb_ HR1.out); (case side2 => exact HC1.out); rintro e w85 ⟨rfl, hb⟩; refine ⟨_, rfl, ?_⟩; replace HB := hb_ hb; clear hb))
      go_ret
      exact ⟨er_, bl_⟩
     ·replace c84 := Bool.eq_false_iff.mpr c84
      subst c84
      have H1 : ((trishawtop_streets.f kj3).bind fun t310 => (some t310)) = some r := by rw [if_neg (show ¬ (false = true) by decide)] at H; exact H
      clear H
      have H := H1
      clear H1
      obtain ⟨t310, A86, H⟩ := bi_ H
      replace H : (some t310) = some r := H
      obtain rfl := Option.some.inj H
      go_wp2_with (first | ((with_reducible refine gate_callee (f := 5) rfl ?_); refine goesL_ (some 25) rfl rfl Tryd.func5 (by kernel_rfl) rfl #[.int .i64 a0, .slice A1 l1.length c1, .string a2] rfl (as_) ?_; (with_reducible refine (oneway_Strong.calls kj3 a0 _ _ l1 a2 false t309 _ ?side1 ?side2 A9.out).mono ?_); (case side1 => exact cb_ HR1.out); (case side2 => exact HC1.out); rintro e w87 ⟨rfl, hb⟩; refine ⟨_, rfl, ?_⟩; replace HB := hb_ hb; clear hb) | (go_at_call 4; (with_reducible refine (trishawtop_streets.calls kj3  t310 _ A86.out).mono ?_); rintro e w88 ⟨rfl, hb⟩; replace HB := hb_ hb; clear hb))
      go_ret
      exact ⟨er_, bl_⟩

end Go.Proofs.YtlcgoacmlbeliaaDoor.P
