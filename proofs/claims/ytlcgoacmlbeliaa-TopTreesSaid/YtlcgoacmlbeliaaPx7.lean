-- Written by wip/tools/myprint.py of this session's repo, over the kit's printer and hand texts.
import Derived.Test.YtlcgoacmlbeliaaPx0
import Derived.Test.YtlcgoacmlbeliaaPre
import Derived.Test.YtlcgoacmlbeliaaPx2
import Derived.Test.YtlcgoacmlbeliaaPx3
import Derived.Test.YtlcgoacmlbeliaaPx6
namespace Go.Proofs.Ytlcgoacmlbeliaa.P
open Go.RowKit Go.Proofs.YtlcgoacmlbeliaaW.PrintWords Go.Proofs.YtlcgoacmlbeliaaW.PrintLast Go.Proofs.YtlcgoacmlbeliaaW.PrintMore
attribute [local go_sem] max2_int min2_int max_two min_two max_three min_three max_four min_four   -- for this text's walks alone
set_option linter.unusedVariables false
set_option linter.unusedSimpArgs false

/-! ### trishawtop_streets: function 4 -/
def trishawtop_streets.f (k : Nat)  : Option (Bool) := (branch_Narrow.f k 3 (([(⟨0, 1, 0⟩ : S34), (⟨1, 2, 0⟩ : S34)] : List (S34)))).bind fun bt220 => ((oneway_Bridges.f k 3 (([(⟨0, 1⟩ : S37), (⟨1, 2⟩ : S37)] : List (S37)))).bind fun bt226 => ((fetch_Mend.f k 3 (([(⟨0, 1⟩ : S37), (⟨1, 2⟩ : S37)] : List (S37)))).bind fun bt233 => (if bt220.2.2 = 0 then (if bt220.1 = 1 then (if bt220.2.1 = 2 then (if bt226.2 = 0 then (if (bt226.1.length : Int) = 2 then (if bt233.2 = 0 then (some ((bt233.1.length : Int) == 2)) else (some false)) else (some false)) else (some false)) else (some false)) else (some false)) else (some false))))
theorem trishawtop_streets.mono : ∀ k, LeO (trishawtop_streets.f k ) (trishawtop_streets.f (k + 1) ) := by
  intro  k
  unfold trishawtop_streets.f
  with_reducible repeat' first | exact branch_Narrow.mono _ _ _ | exact fetch_Mend.mono _ _ _ | exact oneway_Bridges.mono _ _ _ | exact LeO.refl _ | exact LeO.none _ | refine LeO.ite ?_ ?_ | refine LeO.bind ?_ (fun _ => ?_)
set_option maxHeartbeats 8000000 in
set_option maxRecDepth 100000 in
theorem trishawtop_streets.calls (k : Nat)  (r : Bool) (w : World) (h : trishawtop_streets.f k  = some r) :
    Calls Try.prog 4 #[] w fun e w' => e = .returned (.bool r) ∧ Below w.heap.size w w' := by
 have hu34 := Try.underlying34
 have hu37 := Try.underlying37
 have HB := Aside0.mk (Below.refl w.heap.size w)
 have H : ((branch_Narrow.f k 3 (([(⟨0, 1, 0⟩ : S34), (⟨1, 2, 0⟩ : S34)] : List (S34)))).bind fun bt220 => ((oneway_Bridges.f k 3 (([(⟨0, 1⟩ : S37), (⟨1, 2⟩ : S37)] : List (S37)))).bind fun bt226 => ((fetch_Mend.f k 3 (([(⟨0, 1⟩ : S37), (⟨1, 2⟩ : S37)] : List (S37)))).bind fun bt233 => (if bt220.2.2 = 0 then (if bt220.1 = 1 then (if bt220.2.1 = 2 then (if bt226.2 = 0 then (if (bt226.1.length : Int) = 2 then (if bt233.2 = 0 then (some ((bt233.1.length : Int) == 2)) else (some false)) else (some false)) else (some false)) else (some false)) else (some false)) else (some false))))) = some r := h
 clear h
 obtain ⟨y217, hy217⟩ : ∃ y_ : List (S34), y_ = (([(⟨0, 1, 0⟩ : S34), (⟨1, 2, 0⟩ : S34)] : List (S34))) := ⟨_, rfl⟩
 replace H : ((branch_Narrow.f k 3 y217).bind fun bt220 => ((oneway_Bridges.f k 3 (([(⟨0, 1⟩ : S37), (⟨1, 2⟩ : S37)] : List (S37)))).bind fun bt226 => ((fetch_Mend.f k 3 (([(⟨0, 1⟩ : S37), (⟨1, 2⟩ : S37)] : List (S37)))).bind fun bt233 => (if bt220.2.2 = 0 then (if bt220.1 = 1 then (if bt220.2.1 = 2 then (if bt226.2 = 0 then (if (bt226.1.length : Int) = 2 then (if bt233.2 = 0 then (some ((bt233.1.length : Int) == 2)) else (some false)) else (some false)) else (some false)) else (some false)) else (some false)) else (some false))))) = some r := by first | (rw [hy217]; with_reducible exact H) | (have H2_ := (Option.bind_some _ _).symm.trans H; rw [hy217]; with_reducible exact H2_) | (have H2_ := (Option.bind_some _ _).symm.trans H; with_reducible exact H2_) | with_reducible exact H | (rw [hy217]; exact H) | exact H
 have Ny217 := Aside0.mk hy217
 clear hy217
 obtain ⟨⟨t220, t221, t222⟩, A1, H⟩ := bi_ H
 replace H : ((oneway_Bridges.f k 3 (([(⟨0, 1⟩ : S37), (⟨1, 2⟩ : S37)] : List (S37)))).bind fun bt226 => ((fetch_Mend.f k 3 (([(⟨0, 1⟩ : S37), (⟨1, 2⟩ : S37)] : List (S37)))).bind fun bt233 => (if t222 = 0 then (if t220 = 1 then (if t221 = 2 then (if bt226.2 = 0 then (if (bt226.1.length : Int) = 2 then (if bt233.2 = 0 then (some ((bt233.1.length : Int) == 2)) else (some false)) else (some false)) else (some false)) else (some false)) else (some false)) else (some false)))) = some r := H
 obtain ⟨y223, hy223⟩ : ∃ y_ : List (S37), y_ = (([(⟨0, 1⟩ : S37), (⟨1, 2⟩ : S37)] : List (S37))) := ⟨_, rfl⟩
 replace H : ((oneway_Bridges.f k 3 y223).bind fun bt226 => ((fetch_Mend.f k 3 (([(⟨0, 1⟩ : S37), (⟨1, 2⟩ : S37)] : List (S37)))).bind fun bt233 => (if t222 = 0 then (if t220 = 1 then (if t221 = 2 then (if bt226.2 = 0 then (if (bt226.1.length : Int) = 2 then (if bt233.2 = 0 then (some ((bt233.1.length : Int) == 2)) else (some false)) else (some false)) else (some false)) else (some false)) else (some false)) else (some false)))) = some r := by first | (rw [hy223]; with_reducible exact H) | (have H2_ := (Option.bind_some _ _).symm.trans H; rw [hy223]; with_reducible exact H2_) | (have H2_ := (Option.bind_some _ _).symm.trans H; with_reducible exact H2_) | with_reducible exact H | (rw [hy223]; exact H) | exact H
 have Ny223 := Aside0.mk hy223
 clear hy223
 obtain ⟨⟨t226, t227⟩, A2, H⟩ := bi_ H
 replace H : ((fetch_Mend.f k 3 (([(⟨0, 1⟩ : S37), (⟨1, 2⟩ : S37)] : List (S37)))).bind fun bt233 => (if t222 = 0 then (if t220 = 1 then (if t221 = 2 then (if t227 = 0 then (if (t226.length : Int) = 2 then (if bt233.2 = 0 then (some ((bt233.1.length : Int) == 2)) else (some false)) else (some false)) else (some false)) else (some false)) else (some false)) else (some false))) = some r := H
 obtain ⟨y230, hy230⟩ : ∃ y_ : List (S37), y_ = (([(⟨0, 1⟩ : S37), (⟨1, 2⟩ : S37)] : List (S37))) := ⟨_, rfl⟩
 replace H : ((fetch_Mend.f k 3 y230).bind fun bt233 => (if t222 = 0 then (if t220 = 1 then (if t221 = 2 then (if t227 = 0 then (if (t226.length : Int) = 2 then (if bt233.2 = 0 then (some ((bt233.1.length : Int) == 2)) else (some false)) else (some false)) else (some false)) else (some false)) else (some false)) else (some false))) = some r := by first | (rw [hy230]; with_reducible exact H) | (have H2_ := (Option.bind_some _ _).symm.trans H; rw [hy230]; with_reducible exact H2_) | (have H2_ := (Option.bind_some _ _).symm.trans H; with_reducible exact H2_) | with_reducible exact H | (rw [hy230]; exact H) | exact H
 have Ny230 := Aside0.mk hy230
 clear hy230
 obtain ⟨⟨t233, t236⟩, A3, H⟩ := bi_ H
 replace H : (if t222 = 0 then (if t220 = 1 then (if t221 = 2 then (if t227 = 0 then (if (t226.length : Int) = 2 then (if t236 = 0 then (some ((t233.length : Int) == 2)) else (some false)) else (some false)) else (some false)) else (some false)) else (some false)) else (some false)) = some r := H
 by_cases c4 : t222 = 0
 ·rw [if_pos c4] at H
  have c4b0 : (t222 == 0) = true := beq_iff_eq.mpr c4
  have c4b1 : (t222 != 0) = false := bne_eq_false_iff_eq.mpr c4
  clear c4
  by_cases c5 : t220 = 1
  ·rw [if_pos c5] at H
   have c5b0 : (t220 == 1) = true := beq_iff_eq.mpr c5
   have c5b1 : (t220 != 1) = false := bne_eq_false_iff_eq.mpr c5
   clear c5
   by_cases c6 : t221 = 2
   ·rw [if_pos c6] at H
    have c6b0 : (t221 == 2) = true := beq_iff_eq.mpr c6
    have c6b1 : (t221 != 2) = false := bne_eq_false_iff_eq.mpr c6
    clear c6
    by_cases c7 : t227 = 0
    ·rw [if_pos c7] at H
     have c7b0 : (t227 == 0) = true := beq_iff_eq.mpr c7
     have c7b1 : (t227 != 0) = false := bne_eq_false_iff_eq.mpr c7
     clear c7
     by_cases c8 : (t226.length : Int) = 2
     ·rw [if_pos c8] at H
      have c8b0 : ((t226.length : Int) == 2) = true := beq_iff_eq.mpr c8
      have c8b1 : ((t226.length : Int) != 2) = false := bne_eq_false_iff_eq.mpr c8
      clear c8
      by_cases c9 : t236 = 0
      ·rw [if_pos c9] at H
       have c9b0 : (t236 == 0) = true := beq_iff_eq.mpr c9
       have c9b1 : (t236 != 0) = false := bne_eq_false_iff_eq.mpr c9
       clear c9
       obtain rfl := Option.some.inj H
       go_enter Try.func4, Try.ntmps4
       go_wp2_with (first | ((with_reducible refine gate_dst (N := 11) rfl ?_); (try (refine gate_guard (by rfl) ?_; dsimp only)); refine Kd.R_lit k34 _ 34 ?hg (N := 11) ?hd (xs := ([(⟨0, 1, 0⟩ : S34), (⟨1, 2, 0⟩ : S34)] : List (S34))) (inner := [.int .i64 0, .int .i64 1, .int .i64 0, .int .i64 1, .int .i64 2, .int .i64 0]) (ok := fun _ => True) (okp := fun _ => True) ?hr ?hp (fun _ hk => hk) trivial (Below.refl _ _) (Nat.le_refl _) (by simp) ?_; (case hd => rfl); (case hg => rfl); (case hr => first | (go_simp; done) | (go_simp; rfl)); (case hp => exact (Reps.c3 (show Kd.M k34 _ _ _ (⟨0, 1, 0⟩ : S34) [.int .i64 0, .int .i64 1, .int .i64 0] from (k34_mkM _ _ _ (⟨0, 1, 0⟩ : S34) )) (Reps.c3 (show Kd.M k34 _ _ _ (⟨1, 2, 0⟩ : S34) [.int .i64 1, .int .i64 2, .int .i64 0] from (k34_mkM _ _ _ (⟨1, 2, 0⟩ : S34) )) (Reps.none _ _)))); intro v218 w10 ho11 hb hg_ hnew_; clear hg_ hnew_; (first | rw [← Ny217.out] at ho11 | (simp only [Int.reduceToNat] at ho11; rw [← Ny217.out] at ho11)); have HO219 := rl_ ho11; replace HB := hb_ hb; clear hb ho11; obtain ⟨Ao12, co12, eo12⟩ := Kd.R_slice HO219.out; subst eo12) | ((with_reducible refine gate_callee (f := 7) rfl ?_); refine goesL_ (some 12) rfl rfl Try.func7 (by kernel_rfl) rfl #[.int .i64 3, .slice Ao12 y217.length co12] rfl (as_) ?_; (with_reducible refine (branch_Narrow.calls k 3 _ _ y217 t220 t221 t222 _ ?side1 ?side2 A1.out).mono ?_); (case side1 => exact cr_ HO219.out); (case side2 => exact (Kd.R_reads' HO219.out).2.1); rintro e w13 ⟨rfl, hb⟩; refine ⟨_, rfl, ?_⟩; replace HO219 := rb_ HO219 hb; replace HB := hb_ hb; clear hb) | ((with_reducible refine gate_dst (N := 19) rfl ?_); (try (refine gate_guard (by rfl) ?_; dsimp only)); refine Kd.R_lit k37 _ 37 ?hg (N := 19) ?hd (xs := ([(⟨0, 1⟩ : S37), (⟨1, 2⟩ : S37)] : List (S37))) (inner := [.int .i64 0, .int .i64 1, .int .i64 1, .int .i64 2]) (ok := fun _ => True) (okp := fun _ => True) ?hr ?hp (fun _ hk => hk) trivial (Below.refl _ _) (Nat.le_refl _) (by simp) ?_; (case hd => rfl); (case hg => rfl); (case hr => first | (go_simp; done) | (go_simp; rfl)); (case hp => exact (Reps.c2 (show Kd.M k37 _ _ _ (⟨0, 1⟩ : S37) [.int .i64 0, .int .i64 1] from (k37_mkM _ _ _ (⟨0, 1⟩ : S37) )) (Reps.c2 (show Kd.M k37 _ _ _ (⟨1, 2⟩ : S37) [.int .i64 1, .int .i64 2] from (k37_mkM _ _ _ (⟨1, 2⟩ : S37) )) (Reps.none _ _)))); intro v224 w14 ho15 hb hg_ hnew_; clear hg_ hnew_; (first | rw [← Ny223.out] at ho15 | (simp only [Int.reduceToNat] at ho15; rw [← Ny223.out] at ho15)); replace HO219 := rb_ HO219 hb; have HO225 := rl_ ho15; replace HB := hb_ hb; clear hb ho15; obtain ⟨Ao16, co16, eo16⟩ := Kd.R_slice HO225.out; subst eo16) | ((with_reducible refine gate_callee (f := 5) rfl ?_); refine goesL_ (some 20) rfl rfl Try.func5 (by kernel_rfl) rfl #[.int .i64 3, .slice Ao16 y223.length co16] rfl (as_) ?_; (with_reducible refine (oneway_Bridges.calls k 3 _ _ y223 t226 t227 _ ?side1 ?side2 A2.out).mono ?_); (case side1 => exact cr_ HO225.out); (case side2 => exact (Kd.R_reads' HO225.out).2.1); rintro e w17 ⟨v228, rfl, ho0, hb⟩; refine ⟨_, rfl, ?_⟩; replace HO219 := rb_ HO219 hb; replace HO225 := rb_ HO225 hb; have HO229 := rl_ ho0; replace HB := hb_ hb; clear hb ho0) | ((with_reducible refine gate_dst (N := 26) rfl ?_); (try (refine gate_guard (by rfl) ?_; dsimp only)); refine Kd.R_lit k37 _ 37 ?hg (N := 26) ?hd (xs := ([(⟨0, 1⟩ : S37), (⟨1, 2⟩ : S37)] : List (S37))) (inner := [.int .i64 0, .int .i64 1, .int .i64 1, .int .i64 2]) (ok := fun _ => True) (okp := fun _ => True) ?hr ?hp (fun _ hk => hk) trivial (Below.refl _ _) (Nat.le_refl _) (by simp) ?_; (case hd => rfl); (case hg => rfl); (case hr => first | (go_simp; done) | (go_simp; rfl)); (case hp => exact (Reps.c2 (show Kd.M k37 _ _ _ (⟨0, 1⟩ : S37) [.int .i64 0, .int .i64 1] from (k37_mkM _ _ _ (⟨0, 1⟩ : S37) )) (Reps.c2 (show Kd.M k37 _ _ _ (⟨1, 2⟩ : S37) [.int .i64 1, .int .i64 2] from (k37_mkM _ _ _ (⟨1, 2⟩ : S37) )) (Reps.none _ _)))); intro v231 w18 ho19 hb hg_ hnew_; clear hg_ hnew_; (first | rw [← Ny230.out] at ho19 | (simp only [Int.reduceToNat] at ho19; rw [← Ny230.out] at ho19)); replace HO219 := rb_ HO219 hb; replace HO229 := rb_ HO229 hb; have HO232 := rl_ (rn_ ho19 HO225); replace HO225 := re_ HO225 ho19 hb; replace HB := hb_ hb; clear hb ho19; obtain ⟨Ao20, co20, eo20⟩ := Kd.R_slice HO232.out; subst eo20) | ((with_reducible refine gate_callee (f := 8) rfl ?_); refine goesL_ (some 27) rfl rfl Try.func8 (by kernel_rfl) rfl #[.int .i64 3, .slice Ao20 y230.length co20] rfl (as_) ?_; (with_reducible refine (fetch_Mend.calls k 3 (fun k_ => some k_ = (.slice Ao20 y230.length co20 : Value).ownBlock) _ _ y230 t233 t236 _ ?side1 A3.out).mono ?_); (case side1 => exact Kd.R_V (Kd.R_tight rfl (Kd.R_apart' (Kd.R_apart' (HO232.out) (Kd.R_typed HO219.out) (by decide)) (Kd.R_typed HO229.out) (by decide)))); rintro e w21 ⟨v234, rfl, ho0, hb⟩; refine ⟨_, rfl, ?_⟩; have HO235 := Aside0.mk (Kd.V_lower (Kd.V_mono (ok' := fun k_ => some k_ ≠ (.slice Ao12 y217.length co12 : Value).ownBlock ∧ some k_ ≠ (.slice Ao16 y223.length co16 : Value).ownBlock ∧ some k_ ≠ (v228 : Value).ownBlock) ho0 (fun k_ hk_ => ⟨Or.elim hk_ (fun hs_ => ((Kd.R_apart' (Kd.R_apart' (HO232.out) (Kd.R_typed HO219.out) (by decide)) (Kd.R_typed HO229.out) (by decide)).1 k_ hs_.symm).1.2) (fun hn_ => (Kd.fresh' (Kd.R_lt (kr_ HO219.out)) k_ hn_)), Or.elim hk_ (fun hs_ => ((Kd.R_apart' (Kd.R_apart' (HO232.out) (Kd.R_typed HO219.out) (by decide)) (Kd.R_typed HO229.out) (by decide)).1 k_ hs_.symm).1.1.2) (fun hn_ => (Kd.fresh' (Kd.R_lt (kr_ HO225.out)) k_ hn_)), Or.elim hk_ (fun hs_ => ((Kd.R_apart' (Kd.R_apart' (HO232.out) (Kd.R_typed HO219.out) (by decide)) (Kd.R_typed HO229.out) (by decide)).1 k_ hs_.symm).2) (fun hn_ => (Kd.fresh' (Kd.R_lt (kr_ HO229.out)) k_ hn_))⟩)) (below_size (bl_))); replace HO219 := rb_ HO219 hb; replace HO225 := rb_ HO225 hb; replace HO229 := rb_ HO229 hb; replace HO232 := rb_ HO232 hb; replace HB := hb_ hb; clear hb ho0; obtain ⟨Ao22, co22, eo22⟩ := Kd.R_slice HO229.out; subst eo22; obtain ⟨Ao23, co23, eo23⟩ := Kd.V_slice HO235.out; subst eo23))
       go_ret
       exact ⟨er_, bl_⟩
      ·rw [if_neg c9] at H
       have c9b0 : (t236 == 0) = false := beq_eq_false_iff_ne.mpr c9
       have c9b1 : (t236 != 0) = true := bne_iff_ne.mpr c9
       obtain rfl := Option.some.inj H
       go_enter Try.func4, Try.ntmps4
       go_wp2_with (first | ((with_reducible refine gate_dst (N := 11) rfl ?_); (try (refine gate_guard (by rfl) ?_; dsimp only)); refine Kd.R_lit k34 _ 34 ?hg (N := 11) ?hd (xs := ([(⟨0, 1, 0⟩ : S34), (⟨1, 2, 0⟩ : S34)] : List (S34))) (inner := [.int .i64 0, .int .i64 1, .int .i64 0, .int .i64 1, .int .i64 2, .int .i64 0]) (ok := fun _ => True) (okp := fun _ => True) ?hr ?hp (fun _ hk => hk) trivial (Below.refl _ _) (Nat.le_refl _) (by simp) ?_; (case hd => rfl); (case hg => rfl); (case hr => first | (go_simp; done) | (go_simp; rfl)); (case hp => exact (Reps.c3 (show Kd.M k34 _ _ _ (⟨0, 1, 0⟩ : S34) [.int .i64 0, .int .i64 1, .int .i64 0] from (k34_mkM _ _ _ (⟨0, 1, 0⟩ : S34) )) (Reps.c3 (show Kd.M k34 _ _ _ (⟨1, 2, 0⟩ : S34) [.int .i64 1, .int .i64 2, .int .i64 0] from (k34_mkM _ _ _ (⟨1, 2, 0⟩ : S34) )) (Reps.none _ _)))); intro v218 w24 ho25 hb hg_ hnew_; clear hg_ hnew_; (first | rw [← Ny217.out] at ho25 | (simp only [Int.reduceToNat] at ho25; rw [← Ny217.out] at ho25)); have HO219 := rl_ ho25; replace HB := hb_ hb; clear hb ho25; obtain ⟨Ao26, co26, eo26⟩ := Kd.R_slice HO219.out; subst eo26) | ((with_reducible refine gate_callee (f := 7) rfl ?_); refine goesL_ (some 12) rfl rfl Try.func7 (by kernel_rfl) rfl #[.int .i64 3, .slice Ao26 y217.length co26] rfl (as_) ?_; (with_reducible refine (branch_Narrow.calls k 3 _ _ y217 t220 t221 t222 _ ?side1 ?side2 A1.out).mono ?_); (case side1 => exact cr_ HO219.out); (case side2 => exact (Kd.R_reads' HO219.out).2.1); rintro e w27 ⟨rfl, hb⟩; refine ⟨_, rfl, ?_⟩; replace HO219 := rb_ HO219 hb; replace HB := hb_ hb; clear hb) | ((with_reducible refine gate_dst (N := 19) rfl ?_); (try (refine gate_guard (by rfl) ?_; dsimp only)); refine Kd.R_lit k37 _ 37 ?hg (N := 19) ?hd (xs := ([(⟨0, 1⟩ : S37), (⟨1, 2⟩ : S37)] : List (S37))) (inner := [.int .i64 0, .int .i64 1, .int .i64 1, .int .i64 2]) (ok := fun _ => True) (okp := fun _ => True) ?hr ?hp (fun _ hk => hk) trivial (Below.refl _ _) (Nat.le_refl _) (by simp) ?_; (case hd => rfl); (case hg => rfl); (case hr => first | (go_simp; done) | (go_simp; rfl)); (case hp => exact (Reps.c2 (show Kd.M k37 _ _ _ (⟨0, 1⟩ : S37) [.int .i64 0, .int .i64 1] from (k37_mkM _ _ _ (⟨0, 1⟩ : S37) )) (Reps.c2 (show Kd.M k37 _ _ _ (⟨1, 2⟩ : S37) [.int .i64 1, .int .i64 2] from (k37_mkM _ _ _ (⟨1, 2⟩ : S37) )) (Reps.none _ _)))); intro v224 w28 ho29 hb hg_ hnew_; clear hg_ hnew_; (first | rw [← Ny223.out] at ho29 | (simp only [Int.reduceToNat] at ho29; rw [← Ny223.out] at ho29)); replace HO219 := rb_ HO219 hb; have HO225 := rl_ ho29; replace HB := hb_ hb; clear hb ho29; obtain ⟨Ao30, co30, eo30⟩ := Kd.R_slice HO225.out; subst eo30) | ((with_reducible refine gate_callee (f := 5) rfl ?_); refine goesL_ (some 20) rfl rfl Try.func5 (by kernel_rfl) rfl #[.int .i64 3, .slice Ao30 y223.length co30] rfl (as_) ?_; (with_reducible refine (oneway_Bridges.calls k 3 _ _ y223 t226 t227 _ ?side1 ?side2 A2.out).mono ?_); (case side1 => exact cr_ HO225.out); (case side2 => exact (Kd.R_reads' HO225.out).2.1); rintro e w31 ⟨v228, rfl, ho0, hb⟩; refine ⟨_, rfl, ?_⟩; replace HO219 := rb_ HO219 hb; replace HO225 := rb_ HO225 hb; have HO229 := rl_ ho0; replace HB := hb_ hb; clear hb ho0) | ((with_reducible refine gate_dst (N := 26) rfl ?_); (try (refine gate_guard (by rfl) ?_; dsimp only)); refine Kd.R_lit k37 _ 37 ?hg (N := 26) ?hd (xs := ([(⟨0, 1⟩ : S37), (⟨1, 2⟩ : S37)] : List (S37))) (inner := [.int .i64 0, .int .i64 1, .int .i64 1, .int .i64 2]) (ok := fun _ => True) (okp := fun _ => True) ?hr ?hp (fun _ hk => hk) trivial (Below.refl _ _) (Nat.le_refl _) (by simp) ?_; (case hd => rfl); (case hg => rfl); (case hr => first | (go_simp; done) | (go_simp; rfl)); (case hp => exact (Reps.c2 (show Kd.M k37 _ _ _ (⟨0, 1⟩ : S37) [.int .i64 0, .int .i64 1] from (k37_mkM _ _ _ (⟨0, 1⟩ : S37) )) (Reps.c2 (show Kd.M k37 _ _ _ (⟨1, 2⟩ : S37) [.int .i64 1, .int .i64 2] from (k37_mkM _ _ _ (⟨1, 2⟩ : S37) )) (Reps.none _ _)))); intro v231 w32 ho33 hb hg_ hnew_; clear hg_ hnew_; (first | rw [← Ny230.out] at ho33 | (simp only [Int.reduceToNat] at ho33; rw [← Ny230.out] at ho33)); replace HO219 := rb_ HO219 hb; replace HO229 := rb_ HO229 hb; have HO232 := rl_ (rn_ ho33 HO225); replace HO225 := re_ HO225 ho33 hb; replace HB := hb_ hb; clear hb ho33; obtain ⟨Ao34, co34, eo34⟩ := Kd.R_slice HO232.out; subst eo34) | ((with_reducible refine gate_callee (f := 8) rfl ?_); refine goesL_ (some 27) rfl rfl Try.func8 (by kernel_rfl) rfl #[.int .i64 3, .slice Ao34 y230.length co34] rfl (as_) ?_; (with_reducible refine (fetch_Mend.calls k 3 (fun k_ => some k_ = (.slice Ao34 y230.length co34 : Value).ownBlock) _ _ y230 t233 t236 _ ?side1 A3.out).mono ?_); (case side1 => exact Kd.R_V (Kd.R_tight rfl (Kd.R_apart' (Kd.R_apart' (HO232.out) (Kd.R_typed HO219.out) (by decide)) (Kd.R_typed HO229.out) (by decide)))); rintro e w35 ⟨v234, rfl, ho0, hb⟩; refine ⟨_, rfl, ?_⟩; have HO235 := Aside0.mk (Kd.V_lower (Kd.V_mono (ok' := fun k_ => some k_ ≠ (.slice Ao26 y217.length co26 : Value).ownBlock ∧ some k_ ≠ (.slice Ao30 y223.length co30 : Value).ownBlock ∧ some k_ ≠ (v228 : Value).ownBlock) ho0 (fun k_ hk_ => ⟨Or.elim hk_ (fun hs_ => ((Kd.R_apart' (Kd.R_apart' (HO232.out) (Kd.R_typed HO219.out) (by decide)) (Kd.R_typed HO229.out) (by decide)).1 k_ hs_.symm).1.2) (fun hn_ => (Kd.fresh' (Kd.R_lt (kr_ HO219.out)) k_ hn_)), Or.elim hk_ (fun hs_ => ((Kd.R_apart' (Kd.R_apart' (HO232.out) (Kd.R_typed HO219.out) (by decide)) (Kd.R_typed HO229.out) (by decide)).1 k_ hs_.symm).1.1.2) (fun hn_ => (Kd.fresh' (Kd.R_lt (kr_ HO225.out)) k_ hn_)), Or.elim hk_ (fun hs_ => ((Kd.R_apart' (Kd.R_apart' (HO232.out) (Kd.R_typed HO219.out) (by decide)) (Kd.R_typed HO229.out) (by decide)).1 k_ hs_.symm).2) (fun hn_ => (Kd.fresh' (Kd.R_lt (kr_ HO229.out)) k_ hn_))⟩)) (below_size (bl_))); replace HO219 := rb_ HO219 hb; replace HO225 := rb_ HO225 hb; replace HO229 := rb_ HO229 hb; replace HO232 := rb_ HO232 hb; replace HB := hb_ hb; clear hb ho0; obtain ⟨Ao36, co36, eo36⟩ := Kd.R_slice HO229.out; subst eo36))
       go_ret
       exact ⟨er_, bl_⟩
     ·rw [if_neg c8] at H
      have c8b0 : ((t226.length : Int) == 2) = false := beq_eq_false_iff_ne.mpr c8
      have c8b1 : ((t226.length : Int) != 2) = true := bne_iff_ne.mpr c8
      obtain rfl := Option.some.inj H
      go_enter Try.func4, Try.ntmps4
      go_wp2_with (first | ((with_reducible refine gate_dst (N := 11) rfl ?_); (try (refine gate_guard (by rfl) ?_; dsimp only)); refine Kd.R_lit k34 _ 34 ?hg (N := 11) ?hd (xs := ([(⟨0, 1, 0⟩ : S34), (⟨1, 2, 0⟩ : S34)] : List (S34))) (inner := [.int .i64 0, .int .i64 1, .int .i64 0, .int .i64 1, .int .i64 2, .int .i64 0]) (ok := fun _ => True) (okp := fun _ => True) ?hr ?hp (fun _ hk => hk) trivial (Below.refl _ _) (Nat.le_refl _) (by simp) ?_; (case hd => rfl); (case hg => rfl); (case hr => first | (go_simp; done) | (go_simp; rfl)); (case hp => exact (Reps.c3 (show Kd.M k34 _ _ _ (⟨0, 1, 0⟩ : S34) [.int .i64 0, .int .i64 1, .int .i64 0] from (k34_mkM _ _ _ (⟨0, 1, 0⟩ : S34) )) (Reps.c3 (show Kd.M k34 _ _ _ (⟨1, 2, 0⟩ : S34) [.int .i64 1, .int .i64 2, .int .i64 0] from (k34_mkM _ _ _ (⟨1, 2, 0⟩ : S34) )) (Reps.none _ _)))); intro v218 w37 ho38 hb hg_ hnew_; clear hg_ hnew_; (first | rw [← Ny217.out] at ho38 | (simp only [Int.reduceToNat] at ho38; rw [← Ny217.out] at ho38)); have HO219 := rl_ ho38; replace HB := hb_ hb; clear hb ho38; obtain ⟨Ao39, co39, eo39⟩ := Kd.R_slice HO219.out; subst eo39) | ((with_reducible refine gate_callee (f := 7) rfl ?_); refine goesL_ (some 12) rfl rfl Try.func7 (by kernel_rfl) rfl #[.int .i64 3, .slice Ao39 y217.length co39] rfl (as_) ?_; (with_reducible refine (branch_Narrow.calls k 3 _ _ y217 t220 t221 t222 _ ?side1 ?side2 A1.out).mono ?_); (case side1 => exact cr_ HO219.out); (case side2 => exact (Kd.R_reads' HO219.out).2.1); rintro e w40 ⟨rfl, hb⟩; refine ⟨_, rfl, ?_⟩; replace HO219 := rb_ HO219 hb; replace HB := hb_ hb; clear hb) | ((with_reducible refine gate_dst (N := 19) rfl ?_); (try (refine gate_guard (by rfl) ?_; dsimp only)); refine Kd.R_lit k37 _ 37 ?hg (N := 19) ?hd (xs := ([(⟨0, 1⟩ : S37), (⟨1, 2⟩ : S37)] : List (S37))) (inner := [.int .i64 0, .int .i64 1, .int .i64 1, .int .i64 2]) (ok := fun _ => True) (okp := fun _ => True) ?hr ?hp (fun _ hk => hk) trivial (Below.refl _ _) (Nat.le_refl _) (by simp) ?_; (case hd => rfl); (case hg => rfl); (case hr => first | (go_simp; done) | (go_simp; rfl)); (case hp => exact (Reps.c2 (show Kd.M k37 _ _ _ (⟨0, 1⟩ : S37) [.int .i64 0, .int .i64 1] from (k37_mkM _ _ _ (⟨0, 1⟩ : S37) )) (Reps.c2 (show Kd.M k37 _ _ _ (⟨1, 2⟩ : S37) [.int .i64 1, .int .i64 2] from (k37_mkM _ _ _ (⟨1, 2⟩ : S37) )) (Reps.none _ _)))); intro v224 w41 ho42 hb hg_ hnew_; clear hg_ hnew_; (first | rw [← Ny223.out] at ho42 | (simp only [Int.reduceToNat] at ho42; rw [← Ny223.out] at ho42)); replace HO219 := rb_ HO219 hb; have HO225 := rl_ ho42; replace HB := hb_ hb; clear hb ho42; obtain ⟨Ao43, co43, eo43⟩ := Kd.R_slice HO225.out; subst eo43) | ((with_reducible refine gate_callee (f := 5) rfl ?_); refine goesL_ (some 20) rfl rfl Try.func5 (by kernel_rfl) rfl #[.int .i64 3, .slice Ao43 y223.length co43] rfl (as_) ?_; (with_reducible refine (oneway_Bridges.calls k 3 _ _ y223 t226 t227 _ ?side1 ?side2 A2.out).mono ?_); (case side1 => exact cr_ HO225.out); (case side2 => exact (Kd.R_reads' HO225.out).2.1); rintro e w44 ⟨v228, rfl, ho0, hb⟩; refine ⟨_, rfl, ?_⟩; replace HO219 := rb_ HO219 hb; replace HO225 := rb_ HO225 hb; have HO229 := rl_ ho0; replace HB := hb_ hb; clear hb ho0) | ((with_reducible refine gate_dst (N := 26) rfl ?_); (try (refine gate_guard (by rfl) ?_; dsimp only)); refine Kd.R_lit k37 _ 37 ?hg (N := 26) ?hd (xs := ([(⟨0, 1⟩ : S37), (⟨1, 2⟩ : S37)] : List (S37))) (inner := [.int .i64 0, .int .i64 1, .int .i64 1, .int .i64 2]) (ok := fun _ => True) (okp := fun _ => True) ?hr ?hp (fun _ hk => hk) trivial (Below.refl _ _) (Nat.le_refl _) (by simp) ?_; (case hd => rfl); (case hg => rfl); (case hr => first | (go_simp; done) | (go_simp; rfl)); (case hp => exact (Reps.c2 (show Kd.M k37 _ _ _ (⟨0, 1⟩ : S37) [.int .i64 0, .int .i64 1] from (k37_mkM _ _ _ (⟨0, 1⟩ : S37) )) (Reps.c2 (show Kd.M k37 _ _ _ (⟨1, 2⟩ : S37) [.int .i64 1, .int .i64 2] from (k37_mkM _ _ _ (⟨1, 2⟩ : S37) )) (Reps.none _ _)))); intro v231 w45 ho46 hb hg_ hnew_; clear hg_ hnew_; (first | rw [← Ny230.out] at ho46 | (simp only [Int.reduceToNat] at ho46; rw [← Ny230.out] at ho46)); replace HO219 := rb_ HO219 hb; replace HO229 := rb_ HO229 hb; have HO232 := rl_ (rn_ ho46 HO225); replace HO225 := re_ HO225 ho46 hb; replace HB := hb_ hb; clear hb ho46; obtain ⟨Ao47, co47, eo47⟩ := Kd.R_slice HO232.out; subst eo47) | ((with_reducible refine gate_callee (f := 8) rfl ?_); refine goesL_ (some 27) rfl rfl Try.func8 (by kernel_rfl) rfl #[.int .i64 3, .slice Ao47 y230.length co47] rfl (as_) ?_; (with_reducible refine (fetch_Mend.calls k 3 (fun k_ => some k_ = (.slice Ao47 y230.length co47 : Value).ownBlock) _ _ y230 t233 t236 _ ?side1 A3.out).mono ?_); (case side1 => exact Kd.R_V (Kd.R_tight rfl (Kd.R_apart' (Kd.R_apart' (HO232.out) (Kd.R_typed HO219.out) (by decide)) (Kd.R_typed HO229.out) (by decide)))); rintro e w48 ⟨v234, rfl, ho0, hb⟩; refine ⟨_, rfl, ?_⟩; have HO235 := Aside0.mk (Kd.V_lower (Kd.V_mono (ok' := fun k_ => some k_ ≠ (.slice Ao39 y217.length co39 : Value).ownBlock ∧ some k_ ≠ (.slice Ao43 y223.length co43 : Value).ownBlock ∧ some k_ ≠ (v228 : Value).ownBlock) ho0 (fun k_ hk_ => ⟨Or.elim hk_ (fun hs_ => ((Kd.R_apart' (Kd.R_apart' (HO232.out) (Kd.R_typed HO219.out) (by decide)) (Kd.R_typed HO229.out) (by decide)).1 k_ hs_.symm).1.2) (fun hn_ => (Kd.fresh' (Kd.R_lt (kr_ HO219.out)) k_ hn_)), Or.elim hk_ (fun hs_ => ((Kd.R_apart' (Kd.R_apart' (HO232.out) (Kd.R_typed HO219.out) (by decide)) (Kd.R_typed HO229.out) (by decide)).1 k_ hs_.symm).1.1.2) (fun hn_ => (Kd.fresh' (Kd.R_lt (kr_ HO225.out)) k_ hn_)), Or.elim hk_ (fun hs_ => ((Kd.R_apart' (Kd.R_apart' (HO232.out) (Kd.R_typed HO219.out) (by decide)) (Kd.R_typed HO229.out) (by decide)).1 k_ hs_.symm).2) (fun hn_ => (Kd.fresh' (Kd.R_lt (kr_ HO229.out)) k_ hn_))⟩)) (below_size (bl_))); replace HO219 := rb_ HO219 hb; replace HO225 := rb_ HO225 hb; replace HO229 := rb_ HO229 hb; replace HO232 := rb_ HO232 hb; replace HB := hb_ hb; clear hb ho0; obtain ⟨Ao49, co49, eo49⟩ := Kd.R_slice HO229.out; subst eo49))
      go_ret
      exact ⟨er_, bl_⟩
    ·rw [if_neg c7] at H
     have c7b0 : (t227 == 0) = false := beq_eq_false_iff_ne.mpr c7
     have c7b1 : (t227 != 0) = true := bne_iff_ne.mpr c7
     obtain rfl := Option.some.inj H
     go_enter Try.func4, Try.ntmps4
     go_wp2_with (first | ((with_reducible refine gate_dst (N := 11) rfl ?_); (try (refine gate_guard (by rfl) ?_; dsimp only)); refine Kd.R_lit k34 _ 34 ?hg (N := 11) ?hd (xs := ([(⟨0, 1, 0⟩ : S34), (⟨1, 2, 0⟩ : S34)] : List (S34))) (inner := [.int .i64 0, .int .i64 1, .int .i64 0, .int .i64 1, .int .i64 2, .int .i64 0]) (ok := fun _ => True) (okp := fun _ => True) ?hr ?hp (fun _ hk => hk) trivial (Below.refl _ _) (Nat.le_refl _) (by simp) ?_; (case hd => rfl); (case hg => rfl); (case hr => first | (go_simp; done) | (go_simp; rfl)); (case hp => exact (Reps.c3 (show Kd.M k34 _ _ _ (⟨0, 1, 0⟩ : S34) [.int .i64 0, .int .i64 1, .int .i64 0] from (k34_mkM _ _ _ (⟨0, 1, 0⟩ : S34) )) (Reps.c3 (show Kd.M k34 _ _ _ (⟨1, 2, 0⟩ : S34) [.int .i64 1, .int .i64 2, .int .i64 0] from (k34_mkM _ _ _ (⟨1, 2, 0⟩ : S34) )) (Reps.none _ _)))); intro v218 w50 ho51 hb hg_ hnew_; clear hg_ hnew_; (first | rw [← Ny217.out] at ho51 | (simp only [Int.reduceToNat] at ho51; rw [← Ny217.out] at ho51)); have HO219 := rl_ ho51; replace HB := hb_ hb; clear hb ho51; obtain ⟨Ao52, co52, eo52⟩ := Kd.R_slice HO219.out; subst eo52) | ((with_reducible refine gate_callee (f := 7) rfl ?_); refine goesL_ (some 12) rfl rfl Try.func7 (by kernel_rfl) rfl #[.int .i64 3, .slice Ao52 y217.length co52] rfl (as_) ?_; (with_reducible refine (branch_Narrow.calls k 3 _ _ y217 t220 t221 t222 _ ?side1 ?side2 A1.out).mono ?_); (case side1 => exact cr_ HO219.out); (case side2 => exact (Kd.R_reads' HO219.out).2.1); rintro e w53 ⟨rfl, hb⟩; refine ⟨_, rfl, ?_⟩; replace HO219 := rb_ HO219 hb; replace HB := hb_ hb; clear hb) | ((with_reducible refine gate_dst (N := 19) rfl ?_); (try (refine gate_guard (by rfl) ?_; dsimp only)); refine Kd.R_lit k37 _ 37 ?hg (N := 19) ?hd (xs := ([(⟨0, 1⟩ : S37), (⟨1, 2⟩ : S37)] : List (S37))) (inner := [.int .i64 0, .int .i64 1, .int .i64 1, .int .i64 2]) (ok := fun _ => True) (okp := fun _ => True) ?hr ?hp (fun _ hk => hk) trivial (Below.refl _ _) (Nat.le_refl _) (by simp) ?_; (case hd => rfl); (case hg => rfl); (case hr => first | (go_simp; done) | (go_simp; rfl)); (case hp => exact (Reps.c2 (show Kd.M k37 _ _ _ (⟨0, 1⟩ : S37) [.int .i64 0, .int .i64 1] from (k37_mkM _ _ _ (⟨0, 1⟩ : S37) )) (Reps.c2 (show Kd.M k37 _ _ _ (⟨1, 2⟩ : S37) [.int .i64 1, .int .i64 2] from (k37_mkM _ _ _ (⟨1, 2⟩ : S37) )) (Reps.none _ _)))); intro v224 w54 ho55 hb hg_ hnew_; clear hg_ hnew_; (first | rw [← Ny223.out] at ho55 | (simp only [Int.reduceToNat] at ho55; rw [← Ny223.out] at ho55)); replace HO219 := rb_ HO219 hb; have HO225 := rl_ ho55; replace HB := hb_ hb; clear hb ho55; obtain ⟨Ao56, co56, eo56⟩ := Kd.R_slice HO225.out; subst eo56) | ((with_reducible refine gate_callee (f := 5) rfl ?_); refine goesL_ (some 20) rfl rfl Try.func5 (by kernel_rfl) rfl #[.int .i64 3, .slice Ao56 y223.length co56] rfl (as_) ?_; (with_reducible refine (oneway_Bridges.calls k 3 _ _ y223 t226 t227 _ ?side1 ?side2 A2.out).mono ?_); (case side1 => exact cr_ HO225.out); (case side2 => exact (Kd.R_reads' HO225.out).2.1); rintro e w57 ⟨v228, rfl, ho0, hb⟩; refine ⟨_, rfl, ?_⟩; replace HO219 := rb_ HO219 hb; replace HO225 := rb_ HO225 hb; have HO229 := rl_ ho0; replace HB := hb_ hb; clear hb ho0) | ((with_reducible refine gate_dst (N := 26) rfl ?_); (try (refine gate_guard (by rfl) ?_; dsimp only)); refine Kd.R_lit k37 _ 37 ?hg (N := 26) ?hd (xs := ([(⟨0, 1⟩ : S37), (⟨1, 2⟩ : S37)] : List (S37))) (inner := [.int .i64 0, .int .i64 1, .int .i64 1, .int .i64 2]) (ok := fun _ => True) (okp := fun _ => True) ?hr ?hp (fun _ hk => hk) trivial (Below.refl _ _) (Nat.le_refl _) (by simp) ?_; (case hd => rfl); (case hg => rfl); (case hr => first | (go_simp; done) | (go_simp; rfl)); (case hp => exact (Reps.c2 (show Kd.M k37 _ _ _ (⟨0, 1⟩ : S37) [.int .i64 0, .int .i64 1] from (k37_mkM _ _ _ (⟨0, 1⟩ : S37) )) (Reps.c2 (show Kd.M k37 _ _ _ (⟨1, 2⟩ : S37) [.int .i64 1, .int .i64 2] from (k37_mkM _ _ _ (⟨1, 2⟩ : S37) )) (Reps.none _ _)))); intro v231 w58 ho59 hb hg_ hnew_; clear hg_ hnew_; (first | rw [← Ny230.out] at ho59 | (simp only [Int.reduceToNat] at ho59; rw [← Ny230.out] at ho59)); replace HO219 := rb_ HO219 hb; replace HO229 := rb_ HO229 hb; have HO232 := rl_ (rn_ ho59 HO225); replace HO225 := re_ HO225 ho59 hb; replace HB := hb_ hb; clear hb ho59; obtain ⟨Ao60, co60, eo60⟩ := Kd.R_slice HO232.out; subst eo60) | ((with_reducible refine gate_callee (f := 8) rfl ?_); refine goesL_ (some 27) rfl rfl Try.func8 (by kernel_rfl) rfl #[.int .i64 3, .slice Ao60 y230.length co60] rfl (as_) ?_; (with_reducible refine (fetch_Mend.calls k 3 (fun k_ => some k_ = (.slice Ao60 y230.length co60 : Value).ownBlock) _ _ y230 t233 t236 _ ?side1 A3.out).mono ?_); (case side1 => exact Kd.R_V (Kd.R_tight rfl (Kd.R_apart' (Kd.R_apart' (HO232.out) (Kd.R_typed HO219.out) (by decide)) (Kd.R_typed HO229.out) (by decide)))); rintro e w61 ⟨v234, rfl, ho0, hb⟩; refine ⟨_, rfl, ?_⟩; have HO235 := Aside0.mk (Kd.V_lower (Kd.V_mono (ok' := fun k_ => some k_ ≠ (.slice Ao52 y217.length co52 : Value).ownBlock ∧ some k_ ≠ (.slice Ao56 y223.length co56 : Value).ownBlock ∧ some k_ ≠ (v228 : Value).ownBlock) ho0 (fun k_ hk_ => ⟨Or.elim hk_ (fun hs_ => ((Kd.R_apart' (Kd.R_apart' (HO232.out) (Kd.R_typed HO219.out) (by decide)) (Kd.R_typed HO229.out) (by decide)).1 k_ hs_.symm).1.2) (fun hn_ => (Kd.fresh' (Kd.R_lt (kr_ HO219.out)) k_ hn_)), Or.elim hk_ (fun hs_ => ((Kd.R_apart' (Kd.R_apart' (HO232.out) (Kd.R_typed HO219.out) (by decide)) (Kd.R_typed HO229.out) (by decide)).1 k_ hs_.symm).1.1.2) (fun hn_ => (Kd.fresh' (Kd.R_lt (kr_ HO225.out)) k_ hn_)), Or.elim hk_ (fun hs_ => ((Kd.R_apart' (Kd.R_apart' (HO232.out) (Kd.R_typed HO219.out) (by decide)) (Kd.R_typed HO229.out) (by decide)).1 k_ hs_.symm).2) (fun hn_ => (Kd.fresh' (Kd.R_lt (kr_ HO229.out)) k_ hn_))⟩)) (below_size (bl_))); replace HO219 := rb_ HO219 hb; replace HO225 := rb_ HO225 hb; replace HO229 := rb_ HO229 hb; replace HO232 := rb_ HO232 hb; replace HB := hb_ hb; clear hb ho0))
     go_ret
     exact ⟨er_, bl_⟩
   ·rw [if_neg c6] at H
    have c6b0 : (t221 == 2) = false := beq_eq_false_iff_ne.mpr c6
    have c6b1 : (t221 != 2) = true := bne_iff_ne.mpr c6
    obtain rfl := Option.some.inj H
    go_enter Try.func4, Try.ntmps4
    go_wp2_with (first | ((with_reducible refine gate_dst (N := 11) rfl ?_); (try (refine gate_guard (by rfl) ?_; dsimp only)); refine Kd.R_lit k34 _ 34 ?hg (N := 11) ?hd (xs := ([(⟨0, 1, 0⟩ : S34), (⟨1, 2, 0⟩ : S34)] : List (S34))) (inner := [.int .i64 0, .int .i64 1, .int .i64 0, .int .i64 1, .int .i64 2, .int .i64 0]) (ok := fun _ => True) (okp := fun _ => True) ?hr ?hp (fun _ hk => hk) trivial (Below.refl _ _) (Nat.le_refl _) (by simp) ?_; (case hd => rfl); (case hg => rfl); (case hr => first | (go_simp; done) | (go_simp; rfl)); (case hp => exact (Reps.c3 (show Kd.M k34 _ _ _ (⟨0, 1, 0⟩ : S34) [.int .i64 0, .int .i64 1, .int .i64 0] from (k34_mkM _ _ _ (⟨0, 1, 0⟩ : S34) )) (Reps.c3 (show Kd.M k34 _ _ _ (⟨1, 2, 0⟩ : S34) [.int .i64 1, .int .i64 2, .int .i64 0] from (k34_mkM _ _ _ (⟨1, 2, 0⟩ : S34) )) (Reps.none _ _)))); intro v218 w62 ho63 hb hg_ hnew_; clear hg_ hnew_; (first | rw [← Ny217.out] at ho63 | (simp only [Int.reduceToNat] at ho63; rw [← Ny217.out] at ho63)); have HO219 := rl_ ho63; replace HB := hb_ hb; clear hb ho63; obtain ⟨Ao64, co64, eo64⟩ := Kd.R_slice HO219.out; subst eo64) | ((with_reducible refine gate_callee (f := 7) rfl ?_); refine goesL_ (some 12) rfl rfl Try.func7 (by kernel_rfl) rfl #[.int .i64 3, .slice Ao64 y217.length co64] rfl (as_) ?_; (with_reducible refine (branch_Narrow.calls k 3 _ _ y217 t220 t221 t222 _ ?side1 ?side2 A1.out).mono ?_); (case side1 => exact cr_ HO219.out); (case side2 => exact (Kd.R_reads' HO219.out).2.1); rintro e w65 ⟨rfl, hb⟩; refine ⟨_, rfl, ?_⟩; replace HO219 := rb_ HO219 hb; replace HB := hb_ hb; clear hb) | ((with_reducible refine gate_dst (N := 19) rfl ?_); (try (refine gate_guard (by rfl) ?_; dsimp only)); refine Kd.R_lit k37 _ 37 ?hg (N := 19) ?hd (xs := ([(⟨0, 1⟩ : S37), (⟨1, 2⟩ : S37)] : List (S37))) (inner := [.int .i64 0, .int .i64 1, .int .i64 1, .int .i64 2]) (ok := fun _ => True) (okp := fun _ => True) ?hr ?hp (fun _ hk => hk) trivial (Below.refl _ _) (Nat.le_refl _) (by simp) ?_; (case hd => rfl); (case hg => rfl); (case hr => first | (go_simp; done) | (go_simp; rfl)); (case hp => exact (Reps.c2 (show Kd.M k37 _ _ _ (⟨0, 1⟩ : S37) [.int .i64 0, .int .i64 1] from (k37_mkM _ _ _ (⟨0, 1⟩ : S37) )) (Reps.c2 (show Kd.M k37 _ _ _ (⟨1, 2⟩ : S37) [.int .i64 1, .int .i64 2] from (k37_mkM _ _ _ (⟨1, 2⟩ : S37) )) (Reps.none _ _)))); intro v224 w66 ho67 hb hg_ hnew_; clear hg_ hnew_; (first | rw [← Ny223.out] at ho67 | (simp only [Int.reduceToNat] at ho67; rw [← Ny223.out] at ho67)); replace HO219 := rb_ HO219 hb; have HO225 := rl_ ho67; replace HB := hb_ hb; clear hb ho67; obtain ⟨Ao68, co68, eo68⟩ := Kd.R_slice HO225.out; subst eo68) | ((with_reducible refine gate_callee (f := 5) rfl ?_); refine goesL_ (some 20) rfl rfl Try.func5 (by kernel_rfl) rfl #[.int .i64 3, .slice Ao68 y223.length co68] rfl (as_) ?_; (with_reducible refine (oneway_Bridges.calls k 3 _ _ y223 t226 t227 _ ?side1 ?side2 A2.out).mono ?_); (case side1 => exact cr_ HO225.out); (case side2 => exact (Kd.R_reads' HO225.out).2.1); rintro e w69 ⟨v228, rfl, ho0, hb⟩; refine ⟨_, rfl, ?_⟩; replace HO219 := rb_ HO219 hb; replace HO225 := rb_ HO225 hb; have HO229 := rl_ ho0; replace HB := hb_ hb; clear hb ho0) | ((with_reducible refine gate_dst (N := 26) rfl ?_); (try (refine gate_guard (by rfl) ?_; dsimp only)); refine Kd.R_lit k37 _ 37 ?hg (N := 26) ?hd (xs := ([(⟨0, 1⟩ : S37), (⟨1, 2⟩ : S37)] : List (S37))) (inner := [.int .i64 0, .int .i64 1, .int .i64 1, .int .i64 2]) (ok := fun _ => True) (okp := fun _ => True) ?hr ?hp (fun _ hk => hk) trivial (Below.refl _ _) (Nat.le_refl _) (by simp) ?_; (case hd => rfl); (case hg => rfl); (case hr => first | (go_simp; done) | (go_simp; rfl)); (case hp => exact (Reps.c2 (show Kd.M k37 _ _ _ (⟨0, 1⟩ : S37) [.int .i64 0, .int .i64 1] from (k37_mkM _ _ _ (⟨0, 1⟩ : S37) )) (Reps.c2 (show Kd.M k37 _ _ _ (⟨1, 2⟩ : S37) [.int .i64 1, .int .i64 2] from (k37_mkM _ _ _ (⟨1, 2⟩ : S37) )) (Reps.none _ _)))); intro v231 w70 ho71 hb hg_ hnew_; clear hg_ hnew_; (first | rw [← Ny230.out] at ho71 | (simp only [Int.reduceToNat] at ho71; rw [← Ny230.out] at ho71)); replace HO219 := rb_ HO219 hb; replace HO229 := rb_ HO229 hb; have HO232 := rl_ (rn_ ho71 HO225); replace HO225 := re_ HO225 ho71 hb; replace HB := hb_ hb; clear hb ho71; obtain ⟨Ao72, co72, eo72⟩ := Kd.R_slice HO232.out; subst eo72) | ((with_reducible refine gate_callee (f := 8) rfl ?_); refine goesL_ (some 27) rfl rfl Try.func8 (by kernel_rfl) rfl #[.int .i64 3, .slice Ao72 y230.length co72] rfl (as_) ?_; (with_reducible refine (fetch_Mend.calls k 3 (fun k_ => some k_ = (.slice Ao72 y230.length co72 : Value).ownBlock) _ _ y230 t233 t236 _ ?side1 A3.out).mono ?_); (case side1 => exact Kd.R_V (Kd.R_tight rfl (Kd.R_apart' (Kd.R_apart' (HO232.out) (Kd.R_typed HO219.out) (by decide)) (Kd.R_typed HO229.out) (by decide)))); rintro e w73 ⟨v234, rfl, ho0, hb⟩; refine ⟨_, rfl, ?_⟩; have HO235 := Aside0.mk (Kd.V_lower (Kd.V_mono (ok' := fun k_ => some k_ ≠ (.slice Ao64 y217.length co64 : Value).ownBlock ∧ some k_ ≠ (.slice Ao68 y223.length co68 : Value).ownBlock ∧ some k_ ≠ (v228 : Value).ownBlock) ho0 (fun k_ hk_ => ⟨Or.elim hk_ (fun hs_ => ((Kd.R_apart' (Kd.R_apart' (HO232.out) (Kd.R_typed HO219.out) (by decide)) (Kd.R_typed HO229.out) (by decide)).1 k_ hs_.symm).1.2) (fun hn_ => (Kd.fresh' (Kd.R_lt (kr_ HO219.out)) k_ hn_)), Or.elim hk_ (fun hs_ => ((Kd.R_apart' (Kd.R_apart' (HO232.out) (Kd.R_typed HO219.out) (by decide)) (Kd.R_typed HO229.out) (by decide)).1 k_ hs_.symm).1.1.2) (fun hn_ => (Kd.fresh' (Kd.R_lt (kr_ HO225.out)) k_ hn_)), Or.elim hk_ (fun hs_ => ((Kd.R_apart' (Kd.R_apart' (HO232.out) (Kd.R_typed HO219.out) (by decide)) (Kd.R_typed HO229.out) (by decide)).1 k_ hs_.symm).2) (fun hn_ => (Kd.fresh' (Kd.R_lt (kr_ HO229.out)) k_ hn_))⟩)) (below_size (bl_))); replace HO219 := rb_ HO219 hb; replace HO225 := rb_ HO225 hb; replace HO229 := rb_ HO229 hb; replace HO232 := rb_ HO232 hb; replace HB := hb_ hb; clear hb ho0))
    go_ret
    exact ⟨er_, bl_⟩
  ·rw [if_neg c5] at H
   have c5b0 : (t220 == 1) = false := beq_eq_false_iff_ne.mpr c5
   have c5b1 : (t220 != 1) = true := bne_iff_ne.mpr c5
   obtain rfl := Option.some.inj H
   go_enter Try.func4, Try.ntmps4
   go_wp2_with (first | ((with_reducible refine gate_dst (N := 11) rfl ?_); (try (refine gate_guard (by rfl) ?_; dsimp only)); refine Kd.R_lit k34 _ 34 ?hg (N := 11) ?hd (xs := ([(⟨0, 1, 0⟩ : S34), (⟨1, 2, 0⟩ : S34)] : List (S34))) (inner := [.int .i64 0, .int .i64 1, .int .i64 0, .int .i64 1, .int .i64 2, .int .i64 0]) (ok := fun _ => True) (okp := fun _ => True) ?hr ?hp (fun _ hk => hk) trivial (Below.refl _ _) (Nat.le_refl _) (by simp) ?_; (case hd => rfl); (case hg => rfl); (case hr => first | (go_simp; done) | (go_simp; rfl)); (case hp => exact (Reps.c3 (show Kd.M k34 _ _ _ (⟨0, 1, 0⟩ : S34) [.int .i64 0, .int .i64 1, .int .i64 0] from (k34_mkM _ _ _ (⟨0, 1, 0⟩ : S34) )) (Reps.c3 (show Kd.M k34 _ _ _ (⟨1, 2, 0⟩ : S34) [.int .i64 1, .int .i64 2, .int .i64 0] from (k34_mkM _ _ _ (⟨1, 2, 0⟩ : S34) )) (Reps.none _ _)))); intro v218 w74 ho75 hb hg_ hnew_; clear hg_ hnew_; (first | rw [← Ny217.out] at ho75 | (simp only [Int.reduceToNat] at ho75; rw [← Ny217.out] at ho75)); have HO219 := rl_ ho75; replace HB := hb_ hb; clear hb ho75; obtain ⟨Ao76, co76, eo76⟩ := Kd.R_slice HO219.out; subst eo76) | ((with_reducible refine gate_callee (f := 7) rfl ?_); refine goesL_ (some 12) rfl rfl Try.func7 (by kernel_rfl) rfl #[.int .i64 3, .slice Ao76 y217.length co76] rfl (as_) ?_; (with_reducible refine (branch_Narrow.calls k 3 _ _ y217 t220 t221 t222 _ ?side1 ?side2 A1.out).mono ?_); (case side1 => exact cr_ HO219.out); (case side2 => exact (Kd.R_reads' HO219.out).2.1); rintro e w77 ⟨rfl, hb⟩; refine ⟨_, rfl, ?_⟩; replace HO219 := rb_ HO219 hb; replace HB := hb_ hb; clear hb) | ((with_reducible refine gate_dst (N := 19) rfl ?_); (try (refine gate_guard (by rfl) ?_; dsimp only)); refine Kd.R_lit k37 _ 37 ?hg (N := 19) ?hd (xs := ([(⟨0, 1⟩ : S37), (⟨1, 2⟩ : S37)] : List (S37))) (inner := [.int .i64 0, .int .i64 1, .int .i64 1, .int .i64 2]) (ok := fun _ => True) (okp := fun _ => True) ?hr ?hp (fun _ hk => hk) trivial (Below.refl _ _) (Nat.le_refl _) (by simp) ?_; (case hd => rfl); (case hg => rfl); (case hr => first | (go_simp; done) | (go_simp; rfl)); (case hp => exact (Reps.c2 (show Kd.M k37 _ _ _ (⟨0, 1⟩ : S37) [.int .i64 0, .int .i64 1] from (k37_mkM _ _ _ (⟨0, 1⟩ : S37) )) (Reps.c2 (show Kd.M k37 _ _ _ (⟨1, 2⟩ : S37) [.int .i64 1, .int .i64 2] from (k37_mkM _ _ _ (⟨1, 2⟩ : S37) )) (Reps.none _ _)))); intro v224 w78 ho79 hb hg_ hnew_; clear hg_ hnew_; (first | rw [← Ny223.out] at ho79 | (simp only [Int.reduceToNat] at ho79; rw [← Ny223.out] at ho79)); replace HO219 := rb_ HO219 hb; have HO225 := rl_ ho79; replace HB := hb_ hb; clear hb ho79; obtain ⟨Ao80, co80, eo80⟩ := Kd.R_slice HO225.out; subst eo80) | ((with_reducible refine gate_callee (f := 5) rfl ?_); refine goesL_ (some 20) rfl rfl Try.func5 (by kernel_rfl) rfl #[.int .i64 3, .slice Ao80 y223.length co80] rfl (as_) ?_; (with_reducible refine (oneway_Bridges.calls k 3 _ _ y223 t226 t227 _ ?side1 ?side2 A2.out).mono ?_); (case side1 => exact cr_ HO225.out); (case side2 => exact (Kd.R_reads' HO225.out).2.1); rintro e w81 ⟨v228, rfl, ho0, hb⟩; refine ⟨_, rfl, ?_⟩; replace HO219 := rb_ HO219 hb; replace HO225 := rb_ HO225 hb; have HO229 := rl_ ho0; replace HB := hb_ hb; clear hb ho0) | ((with_reducible refine gate_dst (N := 26) rfl ?_); (try (refine gate_guard (by rfl) ?_; dsimp only)); refine Kd.R_lit k37 _ 37 ?hg (N := 26) ?hd (xs := ([(⟨0, 1⟩ : S37), (⟨1, 2⟩ : S37)] : List (S37))) (inner := [.int .i64 0, .int .i64 1, .int .i64 1, .int .i64 2]) (ok := fun _ => True) (okp := fun _ => True) ?hr ?hp (fun _ hk => hk) trivial (Below.refl _ _) (Nat.le_refl _) (by simp) ?_; (case hd => rfl); (case hg => rfl); (case hr => first | (go_simp; done) | (go_simp; rfl)); (case hp => exact (Reps.c2 (show Kd.M k37 _ _ _ (⟨0, 1⟩ : S37) [.int .i64 0, .int .i64 1] from (k37_mkM _ _ _ (⟨0, 1⟩ : S37) )) (Reps.c2 (show Kd.M k37 _ _ _ (⟨1, 2⟩ : S37) [.int .i64 1, .int .i64 2] from (k37_mkM _ _ _ (⟨1, 2⟩ : S37) )) (Reps.none _ _)))); intro v231 w82 ho83 hb hg_ hnew_; clear hg_ hnew_; (first | rw [← Ny230.out] at ho83 | (simp only [Int.reduceToNat] at ho83; rw [← Ny230.out] at ho83)); replace HO219 := rb_ HO219 hb; replace HO229 := rb_ HO229 hb; have HO232 := rl_ (rn_ ho83 HO225); replace HO225 := re_ HO225 ho83 hb; replace HB := hb_ hb; clear hb ho83; obtain ⟨Ao84, co84, eo84⟩ := Kd.R_slice HO232.out; subst eo84) | ((with_reducible refine gate_callee (f := 8) rfl ?_); refine goesL_ (some 27) rfl rfl Try.func8 (by kernel_rfl) rfl #[.int .i64 3, .slice Ao84 y230.length co84] rfl (as_) ?_; (with_reducible refine (fetch_Mend.calls k 3 (fun k_ => some k_ = (.slice Ao84 y230.length co84 : Value).ownBlock) _ _ y230 t233 t236 _ ?side1 A3.out).mono ?_); (case side1 => exact Kd.R_V (Kd.R_tight rfl (Kd.R_apart' (Kd.R_apart' (HO232.out) (Kd.R_typed HO219.out) (by decide)) (Kd.R_typed HO229.out) (by decide)))); rintro e w85 ⟨v234, rfl, ho0, hb⟩; refine ⟨_, rfl, ?_⟩; have HO235 := Aside0.mk (Kd.V_lower (Kd.V_mono (ok' := fun k_ => some k_ ≠ (.slice Ao76 y217.length co76 : Value).ownBlock ∧ some k_ ≠ (.slice Ao80 y223.length co80 : Value).ownBlock ∧ some k_ ≠ (v228 : Value).ownBlock) ho0 (fun k_ hk_ => ⟨Or.elim hk_ (fun hs_ => ((Kd.R_apart' (Kd.R_apart' (HO232.out) (Kd.R_typed HO219.out) (by decide)) (Kd.R_typed HO229.out) (by decide)).1 k_ hs_.symm).1.2) (fun hn_ => (Kd.fresh' (Kd.R_lt (kr_ HO219.out)) k_ hn_)), Or.elim hk_ (fun hs_ => ((Kd.R_apart' (Kd.R_apart' (HO232.out) (Kd.R_typed HO219.out) (by decide)) (Kd.R_typed HO229.out) (by decide)).1 k_ hs_.symm).1.1.2) (fun hn_ => (Kd.fresh' (Kd.R_lt (kr_ HO225.out)) k_ hn_)), Or.elim hk_ (fun hs_ => ((Kd.R_apart' (Kd.R_apart' (HO232.out) (Kd.R_typed HO219.out) (by decide)) (Kd.R_typed HO229.out) (by decide)).1 k_ hs_.symm).2) (fun hn_ => (Kd.fresh' (Kd.R_lt (kr_ HO229.out)) k_ hn_))⟩)) (below_size (bl_))); replace HO219 := rb_ HO219 hb; replace HO225 := rb_ HO225 hb; replace HO229 := rb_ HO229 hb; replace HO232 := rb_ HO232 hb; replace HB := hb_ hb; clear hb ho0))
   go_ret
   exact ⟨er_, bl_⟩
 ·rw [if_neg c4] at H
  have c4b0 : (t222 == 0) = false := beq_eq_false_iff_ne.mpr c4
  have c4b1 : (t222 != 0) = true := bne_iff_ne.mpr c4
  obtain rfl := Option.some.inj H
  go_enter Try.func4, Try.ntmps4
  go_wp2_with (first | ((with_reducible refine gate_dst (N := 11) rfl ?_); (try (refine gate_guard (by rfl) ?_; dsimp only)); refine Kd.R_lit k34 _ 34 ?hg (N := 11) ?hd (xs := ([(⟨0, 1, 0⟩ : S34), (⟨1, 2, 0⟩ : S34)] : List (S34))) (inner := [.int .i64 0, .int .i64 1, .int .i64 0, .int .i64 1, .int .i64 2, .int .i64 0]) (ok := fun _ => True) (okp := fun _ => True) ?hr ?hp (fun _ hk => hk) trivial (Below.refl _ _) (Nat.le_refl _) (by simp) ?_; (case hd => rfl); (case hg => rfl); (case hr => first | (go_simp; done) | (go_simp; rfl)); (case hp => exact (Reps.c3 (show Kd.M k34 _ _ _ (⟨0, 1, 0⟩ : S34) [.int .i64 0, .int .i64 1, .int .i64 0] from (k34_mkM _ _ _ (⟨0, 1, 0⟩ : S34) )) (Reps.c3 (show Kd.M k34 _ _ _ (⟨1, 2, 0⟩ : S34) [.int .i64 1, .int .i64 2, .int .i64 0] from (k34_mkM _ _ _ (⟨1, 2, 0⟩ : S34) )) (Reps.none _ _)))); intro v218 w86 ho87 hb hg_ hnew_; clear hg_ hnew_; (first | rw [← Ny217.out] at ho87 | (simp only [Int.reduceToNat] at ho87; rw [← Ny217.out] at ho87)); have HO219 := rl_ ho87; replace HB := hb_ hb; clear hb ho87; obtain ⟨Ao88, co88, eo88⟩ := Kd.R_slice HO219.out; subst eo88) | ((with_reducible refine gate_callee (f := 7) rfl ?_); refine goesL_ (some 12) rfl rfl Try.func7 (by kernel_rfl) rfl #[.int .i64 3, .slice Ao88 y217.length co88] rfl (as_) ?_; (with_reducible refine (branch_Narrow.calls k 3 _ _ y217 t220 t221 t222 _ ?side1 ?side2 A1.out).mono ?_); (case side1 => exact cr_ HO219.out); (case side2 => exact (Kd.R_reads' HO219.out).2.1); rintro e w89 ⟨rfl, hb⟩; refine ⟨_, rfl, ?_⟩; replace HO219 := rb_ HO219 hb; replace HB := hb_ hb; clear hb) | ((with_reducible refine gate_dst (N := 19) rfl ?_); (try (refine gate_guard (by rfl) ?_; dsimp only)); refine Kd.R_lit k37 _ 37 ?hg (N := 19) ?hd (xs := ([(⟨0, 1⟩ : S37), (⟨1, 2⟩ : S37)] : List (S37))) (inner := [.int .i64 0, .int .i64 1, .int .i64 1, .int .i64 2]) (ok := fun _ => True) (okp := fun _ => True) ?hr ?hp (fun _ hk => hk) trivial (Below.refl _ _) (Nat.le_refl _) (by simp) ?_; (case hd => rfl); (case hg => rfl); (case hr => first | (go_simp; done) | (go_simp; rfl)); (case hp => exact (Reps.c2 (show Kd.M k37 _ _ _ (⟨0, 1⟩ : S37) [.int .i64 0, .int .i64 1] from (k37_mkM _ _ _ (⟨0, 1⟩ : S37) )) (Reps.c2 (show Kd.M k37 _ _ _ (⟨1, 2⟩ : S37) [.int .i64 1, .int .i64 2] from (k37_mkM _ _ _ (⟨1, 2⟩ : S37) )) (Reps.none _ _)))); intro v224 w90 ho91 hb hg_ hnew_; clear hg_ hnew_; (first | rw [← Ny223.out] at ho91 | (simp only [Int.reduceToNat] at ho91; rw [← Ny223.out] at ho91)); replace HO219 := rb_ HO219 hb; have HO225 := rl_ ho91; replace HB := hb_ hb; clear hb ho91; obtain ⟨Ao92, co92, eo92⟩ := Kd.R_slice HO225.out; subst eo92) | ((with_reducible refine gate_callee (f := 5) rfl ?_); refine goesL_ (some 20) rfl rfl Try.func5 (by kernel_rfl) rfl #[.int .i64 3, .slice Ao92 y223.length co92] rfl (as_) ?_; (with_reducible refine (oneway_Bridges.calls k 3 _ _ y223 t226 t227 _ ?side1 ?side2 A2.out).mono ?_); (case side1 => exact cr_ HO225.out); (case side2 => exact (Kd.R_reads' HO225.out).2.1); rintro e w93 ⟨v228, rfl, ho0, hb⟩; refine ⟨_, rfl, ?_⟩; replace HO219 := rb_ HO219 hb; replace HO225 := rb_ HO225 hb; have HO229 := rl_ ho0; replace HB := hb_ hb; clear hb ho0) | ((with_reducible refine gate_dst (N := 26) rfl ?_); (try (refine gate_guard (by rfl) ?_; dsimp only)); refine Kd.R_lit k37 _ 37 ?hg (N := 26) ?hd (xs := ([(⟨0, 1⟩ : S37), (⟨1, 2⟩ : S37)] : List (S37))) (inner := [.int .i64 0, .int .i64 1, .int .i64 1, .int .i64 2]) (ok := fun _ => True) (okp := fun _ => True) ?hr ?hp (fun _ hk => hk) trivial (Below.refl _ _) (Nat.le_refl _) (by simp) ?_; (case hd => rfl); (case hg => rfl); (case hr => first | (go_simp; done) | (go_simp; rfl)); (case hp => exact (Reps.c2 (show Kd.M k37 _ _ _ (⟨0, 1⟩ : S37) [.int .i64 0, .int .i64 1] from (k37_mkM _ _ _ (⟨0, 1⟩ : S37) )) (Reps.c2 (show Kd.M k37 _ _ _ (⟨1, 2⟩ : S37) [.int .i64 1, .int .i64 2] from (k37_mkM _ _ _ (⟨1, 2⟩ : S37) )) (Reps.none _ _)))); intro v231 w94 ho95 hb hg_ hnew_; clear hg_ hnew_; (first | rw [← Ny230.out] at ho95 | (simp only [Int.reduceToNat] at ho95; rw [← Ny230.out] at ho95)); replace HO219 := rb_ HO219 hb; replace HO229 := rb_ HO229 hb; have HO232 := rl_ (rn_ ho95 HO225); replace HO225 := re_ HO225 ho95 hb; replace HB := hb_ hb; clear hb ho95; obtain ⟨Ao96, co96, eo96⟩ := Kd.R_slice HO232.out; subst eo96) | ((with_reducible refine gate_callee (f := 8) rfl ?_); refine goesL_ (some 27) rfl rfl Try.func8 (by kernel_rfl) rfl #[.int .i64 3, .slice Ao96 y230.length co96] rfl (as_) ?_; (with_reducible refine (fetch_Mend.calls k 3 (fun k_ => some k_ = (.slice Ao96 y230.length co96 : Value).ownBlock) _ _ y230 t233 t236 _ ?side1 A3.out).mono ?_); (case side1 => exact Kd.R_V (Kd.R_tight rfl (Kd.R_apart' (Kd.R_apart' (HO232.out) (Kd.R_typed HO219.out) (by decide)) (Kd.R_typed HO229.out) (by decide)))); rintro e w97 ⟨v234, rfl, ho0, hb⟩; refine ⟨_, rfl, ?_⟩; have HO235 := Aside0.mk (Kd.V_lower (Kd.V_mono (ok' := fun k_ => some k_ ≠ (.slice Ao88 y217.length co88 : Value).ownBlock ∧ some k_ ≠ (.slice Ao92 y223.length co92 : Value).ownBlock ∧ some k_ ≠ (v228 : Value).ownBlock) ho0 (fun k_ hk_ => ⟨Or.elim hk_ (fun hs_ => ((Kd.R_apart' (Kd.R_apart' (HO232.out) (Kd.R_typed HO219.out) (by decide)) (Kd.R_typed HO229.out) (by decide)).1 k_ hs_.symm).1.2) (fun hn_ => (Kd.fresh' (Kd.R_lt (kr_ HO219.out)) k_ hn_)), Or.elim hk_ (fun hs_ => ((Kd.R_apart' (Kd.R_apart' (HO232.out) (Kd.R_typed HO219.out) (by decide)) (Kd.R_typed HO229.out) (by decide)).1 k_ hs_.symm).1.1.2) (fun hn_ => (Kd.fresh' (Kd.R_lt (kr_ HO225.out)) k_ hn_)), Or.elim hk_ (fun hs_ => ((Kd.R_apart' (Kd.R_apart' (HO232.out) (Kd.R_typed HO219.out) (by decide)) (Kd.R_typed HO229.out) (by decide)).1 k_ hs_.symm).2) (fun hn_ => (Kd.fresh' (Kd.R_lt (kr_ HO229.out)) k_ hn_))⟩)) (below_size (bl_))); replace HO219 := rb_ HO219 hb; replace HO225 := rb_ HO225 hb; replace HO229 := rb_ HO229 hb; replace HO232 := rb_ HO232 hb; replace HB := hb_ hb; clear hb ho0))
  go_ret
  exact ⟨er_, bl_⟩

/-! ### slices_Clone_int_int: function 24 -/
def slices_Clone_int_int.f (l0 : List Int) : Option (List Int) := if l0.length < 17592186044416 then (some l0) else (none)
set_option maxHeartbeats 400000 in
set_option maxRecDepth 100000 in
theorem slices_Clone_int_int.calls (A0 : Option Addr) (c0 : Nat) (l0 : List Int) (r : List Int) (w : World) (hr0 : Kd.C (Kd.int .i64) w A0 l0.length l0) (hc0 : l0.length ≤ c0) (h : slices_Clone_int_int.f l0 = some r) :
    Calls Try.prog 24 #[.slice A0 l0.length c0] w fun e w' => ∃ v0_ : Value, e = .returned (v0_) ∧ Kd.R (Kd.int .i64) 3 w' w.heap.size (fun _ => True) v0_ r ∧ Below w.heap.size w w' := by
 unfold slices_Clone_int_int.f at h
 by_cases hl : l0.length < 17592186044416
 ·rw [if_pos hl] at h
  obtain rfl := Option.some.inj h
  clear h
  have hu1 := Try.underlying24
  have HR0 := Aside0.mk hr0
  have HC0 := Aside0.mk hc0
  have HL := Aside0.mk hl
  clear hr0 hc0 hl
  cases A0 with
  | none =>
   have he := fun w => Lib.run_eql_slice_nil (P := Try.prog) w 24 3 none l0.length c0 0 0 Try.underlying24
   go_enter Try.func24, Try.ntmps24
   go_wp2_with fail
   go_ret
   refine ⟨_, rfl, ?_, Below.refl _ _⟩
   have h0 : l0 = [] := by
    have := HR0.out.2.2
    cases l0 with
    | nil => rfl
    | cons x xs => exact absurd (this (by simp)) (by simp)
   rw [h0]
   exact Kd.R_nil _ _ _ _ _
  | some ad =>
   have he := fun w => Lib.run_eql_slice_nil (P := Try.prog) w 24 3 (some ad) l0.length c0 0 0 Try.underlying24
   have HB := Aside0.mk (Below.refl w.heap.size w)
   go_enter Try.func24, Try.ntmps24
   go_wp2_with (first | ((with_reducible refine gate_builtin (b := .append) (xs := #[.tmp 5, .tmp 6]) rfl ?_); at_builtin; refine Kd.R_append_row (Value.int .i64) (0 : Int) (h1 := fun _ => rfl) (w0 := w) w.heap.size rfl (.tmp 5) (.tmp 6) 24 3 (.int .i64 0) 8 rfl Try.underlying24 info3 rfl (by omega) (.slice (some ⟨w.heap.size, 0, none⟩) 0 0) ([] : List Int) l0 (some ad) l0.length c0 (fun _ => True) rfl rfl (fun _ _ => trivial) ?HO ?HR ?HW (by simp) (by have := HL.out; simp; omega) ?_; (case HO => exact Kd.R_of_own (own_lit w w.heap.size 3 .i64 [] (Nat.le_refl _) (by simp)) (fun _ _ => trivial)); (case HR => exact Kd.C_alloc HR0.out _); (case HW => exact below_alloc HB.out _); intro v1 w1 hR hb hg hat))
   go_ret
   exact ⟨_, rfl, hR, hb⟩
 ·rw [if_neg hl] at h
  exact absurd h (by simp)

/-! ### branch_determinant: function 17 -/
mutual
def branch_determinant.l0 : Nat → List (List Int) → Int → Int → List Int → Int → Int → Option (Int)
  | 0, _, _, _, _, _, _ => none
  | k + 1, x0, x3, x4, x15, x16, x17 => if x17 < x16 then (if 0 ≤ x17 then (if x17 < (x15.length : Int) then (if (rd x15 x17) = 0 then (branch_determinant.l0 k x0 x3 (wrap64 (-x4)) x15 x16 (wrap64 (x17 + 1))) else (if 1 ≤ (x0.length : Int) then ((some (x0.drop 1 : List (List Int))).bind fun y239 => (branch_determinant.l1 k x0 x3 x4 x17 (rd x15 x17) ([] : List (List Int)) x15 x16 x17 y239 (y239.length : Int) 0)) else (none))) else (none)) else (none)) else (some x3)
def branch_determinant.l1 : Nat → List (List Int) → Int → Int → Int → Int → List (List Int) → List Int → Int → Int → List (List Int) → Int → Int → Option (Int)
  | 0, _, _, _, _, _, _, _, _, _, _, _, _ => none
  | k + 1, x0, x3, x4, x5, x6, x7, x15, x16, x17, x25, x26, x27 => if x27 < x26 then (if 0 ≤ x27 then (if x27 < (x25.length : Int) then (if 0 ≤ x5 then (if x5 ≤ ((rd_L3 x25 x27).length : Int) then ((slices_Clone_int_int.f ((rd_L3 x25 x27).take (x5 : Int).toNat)).bind fun t245 => (if 0 ≤ (wrap64 (x5 + 1)) then (if (wrap64 (x5 + 1)) ≤ ((rd_L3 x25 x27).length : Int) then (if t245.length + ((rd_L3 x25 x27).drop ((wrap64 (x5 + 1)) : Int).toNat).length < 17592186044416 then (if x7.length < 5864062014805 then (branch_determinant.l1 k x0 x3 x4 x5 x6 (x7 ++ [(t245 ++ ((rd_L3 x25 x27).drop ((wrap64 (x5 + 1)) : Int).toNat))]) x15 x16 x17 x25 x26 (wrap64 (x27 + 1))) else (none)) else (none)) else (none)) else (none))) else (none)) else (none)) else (none)) else (none)) else ((branch_determinant.f k x7).bind fun t255 => (branch_determinant.l0 k x0 (wrap64 (x3 + (wrap64 ((wrap64 (x4 * x6)) * t255)))) (wrap64 (-x4)) x15 x16 (wrap64 (x17 + 1))))
def branch_determinant.f : Nat → List (List Int) → Option (Int)
  | 0, _ => none
  | k + 1, l0 => if (l0.length : Int) = 0 then (some 1) else (if 0 < (l0.length : Int) then (branch_determinant.l0 k l0 0 1 (rd_L3 l0 0) ((rd_L3 l0 0).length : Int) 0) else (none))
end
theorem branch_determinant.mono_l : ∀ k, (∀ y0, LeO (branch_determinant.f k y0) (branch_determinant.f (k + 1) y0)) ∧ (∀ y0 y1 y2 y3 y4 y5, LeO (branch_determinant.l0 k y0 y1 y2 y3 y4 y5) (branch_determinant.l0 (k + 1) y0 y1 y2 y3 y4 y5)) ∧ (∀ y0 y1 y2 y3 y4 y5 y6 y7 y8 y9 y10 y11, LeO (branch_determinant.l1 k y0 y1 y2 y3 y4 y5 y6 y7 y8 y9 y10 y11) (branch_determinant.l1 (k + 1) y0 y1 y2 y3 y4 y5 y6 y7 y8 y9 y10 y11))
  | 0 => ⟨fun _ r h => by simp [branch_determinant.f] at h, fun _ _ _ _ _ _ r h => by simp [branch_determinant.l0] at h, fun _ _ _ _ _ _ _ _ _ _ _ _ r h => by simp [branch_determinant.l1] at h⟩
  | k + 1 => by
    obtain ⟨ih0, ih1, ih2⟩ := branch_determinant.mono_l k
    refine ⟨?_, ?_, ?_⟩
    · intro y0
      unfold branch_determinant.f
      with_reducible repeat' first | exact ih0 _ | exact ih1 _ _ _ _ _ _ | exact ih2 _ _ _ _ _ _ _ _ _ _ _ _ | exact LeO.refl _ | exact LeO.none _ | refine LeO.ite ?_ ?_ | refine LeO.bind ?_ (fun _ => ?_)
    · intro y0 y1 y2 y3 y4 y5
      unfold branch_determinant.l0
      with_reducible repeat' first | exact ih0 _ | exact ih1 _ _ _ _ _ _ | exact ih2 _ _ _ _ _ _ _ _ _ _ _ _ | exact LeO.refl _ | exact LeO.none _ | refine LeO.ite ?_ ?_ | refine LeO.bind ?_ (fun _ => ?_)
    · intro y0 y1 y2 y3 y4 y5 y6 y7 y8 y9 y10 y11
      unfold branch_determinant.l1
      with_reducible repeat' first | exact ih0 _ | exact ih1 _ _ _ _ _ _ | exact ih2 _ _ _ _ _ _ _ _ _ _ _ _ | exact LeO.refl _ | exact LeO.none _ | refine LeO.ite ?_ ?_ | refine LeO.bind ?_ (fun _ => ?_)
theorem branch_determinant.mono : ∀ a0 k, LeO (branch_determinant.f k a0) (branch_determinant.f (k + 1) a0) := by
  intro a0 k
  obtain ⟨ih0, ih1, ih2⟩ := branch_determinant.mono_l k
  exact ih0 a0
def branch_determinant.T12 : Bool × List (List Nat × List Nat) := (true, [([], []), ([], []), ([], []), ([1, 2], [1, 2]), ([3], [3]), ([], []), ([], []), ([6], [6]), ([5, 7], [5, 7]), ([4, 8, 4], [4, 8]), ([9], [9]), ([0, 10, 9], [0, 10]), ([11, 11, 0, 1, 2, 3, 4, 5, 6, 7, 8, 9, 10, 11], [0, 11])])
def branch_determinant.B12 : List Nat := [0, 0, 0, 6, 14, 0, 0, 64, 224, 510, 1022, 2047, 4095]
theorem branch_determinant.tab12 : rtab .any (opsOf Try.f17 12) = branch_determinant.T12 := by kernel_rfl
theorem branch_determinant.bits12 : waitsOk branch_determinant.T12.2 branch_determinant.B12 = true := by kernel_rfl
set_option maxHeartbeats 8000000 in
set_option maxRecDepth 100000 in
theorem branch_determinant.calls (k : Nat) : ∀ (A0 : Option Addr) (c0 : Nat) (l0 : List (List Int)) (r : Int) (w : World) (hr0 : Kd.C (Kd.slice 3 (Kd.int .i64)) w A0 l0.length l0) (hc0 : l0.length ≤ c0) (h : branch_determinant.f k l0 = some r),
    Calls Try.prog 17 #[.slice A0 l0.length c0] w fun e w' => e = .returned (.int .i64 r) ∧ Below w.heap.size w w' := by
 induction k using Nat.strongRecOn with
 | _ k ih =>
 intro A0 c0 l0 r w hr0 hc0 h
 cases k with
 | zero => exact absurd h (by simp [branch_determinant.f])
 | succ k =>
 simp only [branch_determinant.f] at h
 have HR0 := Aside0.mk hr0
 have HC0 := Aside0.mk hc0
 clear hr0 hc0
 have HB := Aside0.mk (Below.refl w.heap.size w)
 have H : (if (l0.length : Int) = 0 then (some 1) else (if 0 < (l0.length : Int) then (branch_determinant.l0 k l0 0 1 (rd_L3 l0 0) ((rd_L3 l0 0).length : Int) 0) else (none))) = some r := h
 clear h
 by_cases c2 : (l0.length : Int) = 0
 ·rw [if_pos c2] at H
  have c2b0 : ((l0.length : Int) == 0) = true := beq_iff_eq.mpr c2
  have c2b1 : ((l0.length : Int) != 0) = false := bne_eq_false_iff_eq.mpr c2
  clear c2
  obtain rfl := Option.some.inj H
  go_enter Try.func17, Try.ntmps17
  go_wp2
  go_ret
  exact ⟨er_, bl_⟩
 ·rw [if_neg c2] at H
  have c2b0 : ((l0.length : Int) == 0) = false := beq_eq_false_iff_ne.mpr c2
  have c2b1 : ((l0.length : Int) != 0) = true := bne_iff_ne.mpr c2
  have c2b2 : ¬ (l0 = []) := fun h_ => c2 (by rw [h_]; rfl)
  have c3 : 0 < (l0.length : Int) := fl_ fun c3 => by rw [if_neg c3] at H; exact absurd H (by simp)
  rw [if_pos c3] at H
  have c3b0 : decide (0 < (l0.length : Int)) = true := decide_eq_true c3
  have c3b1 : decide (0 < l0.length) = true := decide_eq_true (by omega)
  clear c3
  have H' := Aside0.mk H
  clear H
  have p237 : 0 ≤ (0 : Int) := (by omega)
  have q237 : 0 < (l0.length : Int) := od_
  obtain ⟨ad237, A237_0, c237_0, e237, hx237_0, hl237_0, hi237_0⟩ := at_L3 HR0.out 0 p237 q237
  cases e237
  have qi237 : (0 < l0.length) = True := eq_true (by omega)
  (try rw [show ((0 : Int)).toNat = 0 from rfl] at hx237_0)
  (try rw [Addr.add_zero'] at hx237_0)
  have HR237_0 := Aside0.mk hi237_0
  have HC237_0 := Aside0.mk hl237_0
  clear hi237_0 hl237_0
  replace p237 := eq_true p237
  replace q237 := eq_true q237
  go_enter Try.func17, Try.ntmps17
  go_wp2
  go_loopg [3, 4, 17] k (fun kq v3 v4 v17 w' => ∃ (x3_1 : Int) (x4_1 : Int) (x17_1 : Int), v3 = .int .i64 x3_1 ∧ v4 = .int .i64 x4_1 ∧ v17 = .int .i64 x17_1 ∧ Aside0 (branch_determinant.l0 kq l0 x3_1 x4_1 (rd_L3 l0 0) ((rd_L3 l0 0).length : Int) x17_1 = some r) ∧ Aside0 (kq ≤ k) ∧ Aside0 (Below w.heap.size w w'))
  case atStart => exact ⟨(0), (1), (0), rs_, rs_, rs_, H', ⟨Nat.le_refl _⟩, ⟨bl_⟩⟩
  case round =>
   clear H'
   try clear c1
   try clear c2
   try clear c2b0
   try clear c2b1
   try clear c2b2
   try clear p2
   try clear q2
   try clear hx2
   try clear qi2
   try clear c3
   try clear c3b0
   try clear c3b1
   try clear hx237_0
   try clear p237
   try clear q237
   obtain ⟨x3_1, x4_1, x17_1, rfl, rfl, rfl, HA, HK1, HB⟩ := hrel
   cases gk with
   | zero => exact absurd HA.out (by simp [branch_determinant.l0])
   | succ k1 =>
    have H := HA.out
    clear HA
    simp only [branch_determinant.l0] at H
    by_cases c4 : x17_1 < ((rd_L3 l0 0).length : Int)
    ·rw [if_pos c4] at H
     have c4b0 : decide (x17_1 < ((rd_L3 l0 0).length : Int)) = true := decide_eq_true c4
     clear c4
     obtain ⟨c5b0, H⟩ := fp_ H
     obtain ⟨c6b0, H⟩ := fp_ H
     by_cases c7 : (rd (rd_L3 l0 0) x17_1) = 0
     ·rw [if_pos c7] at H
      have c7b0 : ((rd (rd_L3 l0 0) x17_1) == 0) = true := beq_iff_eq.mpr c7
      have c7b1 : ((rd (rd_L3 l0 0) x17_1) != 0) = false := bne_eq_false_iff_eq.mpr c7
      clear c7
      have H' := Aside0.mk H
      clear H
      obtain ⟨ad238, e238, hx238_0, p238, q238⟩ := ai_ HR237_0.out x17_1
      cases e238
      replace hx238_0 := hc_ HB hx238_0
      go_wp2
      go_roundg k1
      case measure => have := HK1.out; omega
      case rel => exact ⟨(x3_1), (wrap64 (-x4_1)), (wrap64 (x17_1 + 1)), rs_, rs_, rs_, H', ⟨by have := HK1.out; omega⟩, ⟨bl_⟩⟩
     ·rw [if_neg c7] at H
      have c7b0 : ((rd (rd_L3 l0 0) x17_1) == 0) = false := beq_eq_false_iff_ne.mpr c7
      have c7b1 : ((rd (rd_L3 l0 0) x17_1) != 0) = true := bne_iff_ne.mpr c7
      have c8 : 1 ≤ (l0.length : Int) := fl_ fun c8 => by rw [if_neg c8] at H; exact absurd H (by simp)
      rw [if_pos c8] at H
      have c8b0 := eq_true c8
      have c8b1 : decide (1 ≤ (l0.length : Int)) = true := decide_eq_true c8
      clear c8
      obtain ⟨y239, hy239⟩ : ∃ y_ : List (List Int), y_ = (l0.drop 1) := ⟨_, rfl⟩
      replace H : (branch_determinant.l1 k1 l0 x3_1 x4_1 x17_1 (rd (rd_L3 l0 0) x17_1) ([] : List (List Int)) (rd_L3 l0 0) ((rd_L3 l0 0).length : Int) x17_1 y239 (y239.length : Int) 0) = some r := by first | (rw [hy239]; with_reducible exact H) | (have H2_ := (Option.bind_some _ _).symm.trans H; rw [hy239]; with_reducible exact H2_) | (have H2_ := (Option.bind_some _ _).symm.trans H; with_reducible exact H2_) | with_reducible exact H | (rw [hy239]; exact H) | exact H
      have Ny239 := Aside0.mk hy239
      clear hy239
      have H' := Aside0.mk H
      clear H
      obtain ⟨ad238, e238, hx238_0, p238, q238⟩ := ai_ HR237_0.out x17_1
      cases e238
      replace hx238_0 := hc_ HB hx238_0
      have q9 : (1 : Int) ≤ ((l0.length : Int) : Int) := od_
      obtain ⟨i09, hi09, _, hsz9, _⟩ := info_parts info24
      have hroom9 : l0.length ≤ c0 := HC0.out
      have hC9 : Kd.C (Kd.slice 3 (Kd.int .i64)) _ (some ad237) l0.length l0 := HR0.out
      have hcut9 := cut_from (P := Try.prog) 57 24 .i64 Try.underlying57 hi09 1 hsz9 (some ad237) l0.length c0 1 (by omega) q9
      have hr9 := Kd.C_drop (m := (1 : Int).toNat) (c := c0) hC9 (by omega) hroom9
      obtain ⟨A9, hA9⟩ : ∃ A1, A1 = (if c0 = (1 : Int).toNat then (some ad237) else ((some ad237) : Option Addr).map (·.add ((1 : Int).toNat * 1))) := ⟨_, rfl⟩
      obtain ⟨c9, hc9⟩ : ∃ c1, c1 = c0 - (1 : Int).toNat := ⟨_, rfl⟩
      have hy9 : y239.length = l0.length - (1 : Int).toNat := (by rw [Ny239.out, List.length_drop] <;> omega)
      rw [show (l0).drop (1 : Int).toNat = y239 from Ny239.out.symm] at hr9
      replace hr9 : Kd.C (Kd.slice 3 (Kd.int .i64)) _ A9 y239.length y239 := (by rw [hA9]; exact hr9)
      rw [← hy9, ← hA9, ← hc9] at hcut9
      have HR242 := Aside0.mk hr9
      have HC242 := Aside0.mk (show y239.length ≤ c9 from by rw [hy9, hc9]; exact Nat.sub_le_sub_right hroom9 _)
      clear hr9 hC9 hroom9 hi09 hsz9 hc9
      have KY9 := Aside0.mk hy9
      have KA9 := Aside0.mk hA9
      clear hy9 hA9
      replace q9 := eq_true q9
      go_wp2
      go_loopg [7, 27] k1 (fun kq v7 v27 w' => ∃ (x7_2 : List (List Int)) (x27_2 : Int), v27 = .int .i64 x27_2 ∧ Aside0 (branch_determinant.l1 kq l0 x3_1 x4_1 x17_1 (rd (rd_L3 l0 0) x17_1) x7_2 (rd_L3 l0 0) ((rd_L3 l0 0).length : Int) x17_1 y239 (y239.length : Int) x27_2 = some r) ∧ Aside0 (kq ≤ k1) ∧ Aside0 (Kd.S (Kd.slice 3 (Kd.int .i64)) 24 w' w.heap.size (fun _ => True) v7 x7_2) ∧ Aside0 (Below w.heap.size w w'))
      case atStart => exact ⟨(([] : List (List Int))), (0), rs_, H', ⟨Nat.le_refl _⟩, ⟨by first | exact Kd.S_nil _ _ _ _ _ | exact Kd.N_nil _ _ _ _ _ | exact Kd.V_nil _ _ _ _ _ | exact Kd.Q_nil _ _ _ _ _ | exact Kd.R_nil _ _ _ _ _⟩, ⟨bl_⟩⟩
      case round =>
       clear H'
       try clear c1
       try clear c2
       try clear c2b0
       try clear c2b1
       try clear c2b2
       try clear p2
       try clear q2
       try clear hx2
       try clear qi2
       try clear c3
       try clear c3b0
       try clear c3b1
       try clear c4
       try clear c4b0
       try clear c5
       try clear c5b0
       try clear c6
       try clear c6b0
       try clear p6
       try clear c7
       try clear c7b0
       try clear c7b1
       try clear c8
       try clear c8b0
       try clear c8b1
       try clear c9
       try clear q9
       try clear hx237_0
       try clear hx238_0
       try clear p2
       try clear p237
       try clear p238
       try clear q2
       try clear q237
       try clear q238
       try clear q9
       obtain ⟨x7_2, x27_2, rfl, HA, HK2, HO_7, HB⟩ := hrel
       cases gk with
       | zero => exact absurd HA.out (by simp [branch_determinant.l1])
       | succ k2 =>
        have H := HA.out
        clear HA
        simp only [branch_determinant.l1] at H
        by_cases c10 : x27_2 < (y239.length : Int)
        ·rw [if_pos c10] at H
         have c10b0 : decide (x27_2 < (y239.length : Int)) = true := decide_eq_true c10
         clear c10
         obtain ⟨c11b0, H⟩ := fp_ H
         obtain ⟨c12b0, H⟩ := fp_ H
         have c13 : 0 ≤ x17_1 := fl_ fun c13 => by rw [if_neg c13] at H; exact absurd H (by simp)
         rw [if_pos c13] at H
         have c13b0 := eq_true c13
         have c13b1 : decide (0 ≤ x17_1) = true := decide_eq_true c13
         clear c13
         have c14 : x17_1 ≤ ((rd_L3 y239 x27_2).length : Int) := fl_ fun c14 => by rw [if_neg c14] at H; exact absurd H (by simp)
         rw [if_pos c14] at H
         have c14b0 := eq_true c14
         have c14b1 : decide (x17_1 ≤ ((rd_L3 y239 x27_2).length : Int)) = true := decide_eq_true c14
         clear c14
         obtain ⟨t245, A15, H⟩ := bi_ H
         replace H : (if 0 ≤ (wrap64 (x17_1 + 1)) then (if (wrap64 (x17_1 + 1)) ≤ ((rd_L3 y239 x27_2).length : Int) then (if t245.length + ((rd_L3 y239 x27_2).drop ((wrap64 (x17_1 + 1)) : Int).toNat).length < 17592186044416 then (if x7_2.length < 5864062014805 then (branch_determinant.l1 k2 l0 x3_1 x4_1 x17_1 (rd (rd_L3 l0 0) x17_1) (x7_2 ++ [(t245 ++ ((rd_L3 y239 x27_2).drop ((wrap64 (x17_1 + 1)) : Int).toNat))]) (rd_L3 l0 0) ((rd_L3 l0 0).length : Int) x17_1 y239 (y239.length : Int) (wrap64 (x27_2 + 1))) else (none)) else (none)) else (none)) else (none)) = some r := H
         obtain ⟨ji16, hji16⟩ : ∃ j_ : Int, (wrap64 (x17_1 + 1)) = j_ := ⟨_, rfl⟩
         replace H : (if 0 ≤ (ji16) then (if (ji16) ≤ ((rd_L3 y239 x27_2).length : Int) then (if t245.length + ((rd_L3 y239 x27_2).drop ((ji16) : Int).toNat).length < 17592186044416 then (if x7_2.length < 5864062014805 then (branch_determinant.l1 k2 l0 x3_1 x4_1 x17_1 (rd (rd_L3 l0 0) x17_1) (x7_2 ++ [(t245 ++ ((rd_L3 y239 x27_2).drop ((ji16) : Int).toNat))]) (rd_L3 l0 0) ((rd_L3 l0 0).length : Int) x17_1 y239 (y239.length : Int) (wrap64 (x27_2 + 1))) else (none)) else (none)) else (none)) else (none)) = some r := by first | (rw [hji16] at H; exact H) | (simp only [hji16] at H ⊢; exact H)
         (try rw [hji16] at A15)
         have hji16w : (IntKind.i64.wrap (x17_1 + 1)) = ji16 := (i64_w _).trans hji16
         have c17 : 0 ≤ (ji16) := fl_ fun c17 => by rw [if_neg c17] at H; exact absurd H (by simp)
         rw [if_pos c17] at H
         have c17b0 := eq_true c17
         have c17b1 : decide (0 ≤ (ji16)) = true := decide_eq_true c17
         clear c17
         have c18 : (ji16) ≤ ((rd_L3 y239 x27_2).length : Int) := fl_ fun c18 => by rw [if_neg c18] at H; exact absurd H (by simp)
         rw [if_pos c18] at H
         have c18b0 := eq_true c18
         have c18b1 : decide ((ji16) ≤ ((rd_L3 y239 x27_2).length : Int)) = true := decide_eq_true c18
         clear c18
         have c19 : t245.length + ((rd_L3 y239 x27_2).drop ((ji16) : Int).toNat).length < 17592186044416 := fl_ fun c19 => by rw [if_neg c19] at H; exact absurd H (by simp)
         rw [if_pos c19] at H
         have LMc19 := Aside0.mk c19
         clear c19
         obtain ⟨y249, hy249⟩ : ∃ y_ : List Int, y_ = (t245 ++ ((rd_L3 y239 x27_2).drop ((ji16) : Int).toNat)) := ⟨_, rfl⟩
         replace H : (if x7_2.length < 5864062014805 then (branch_determinant.l1 k2 l0 x3_1 x4_1 x17_1 (rd (rd_L3 l0 0) x17_1) (x7_2 ++ [y249]) (rd_L3 l0 0) ((rd_L3 l0 0).length : Int) x17_1 y239 (y239.length : Int) (wrap64 (x27_2 + 1))) else (none)) = some r := by first | (rw [hy249]; with_reducible exact H) | (have H2_ := (Option.bind_some _ _).symm.trans H; rw [hy249]; with_reducible exact H2_) | (have H2_ := (Option.bind_some _ _).symm.trans H; with_reducible exact H2_) | with_reducible exact H | (rw [hy249]; exact H) | exact H
         have Ny249 := Aside0.mk hy249
         clear hy249
         have c20 : x7_2.length < 5864062014805 := fl_ fun c20 => by rw [if_neg c20] at H; exact absurd H (by simp)
         rw [if_pos c20] at H
         have LMc20 := Aside0.mk c20
         clear c20
         obtain ⟨y252, hy252⟩ : ∃ y_ : List (List Int), y_ = (x7_2 ++ [y249]) := ⟨_, rfl⟩
         replace H : (branch_determinant.l1 k2 l0 x3_1 x4_1 x17_1 (rd (rd_L3 l0 0) x17_1) y252 (rd_L3 l0 0) ((rd_L3 l0 0).length : Int) x17_1 y239 (y239.length : Int) (wrap64 (x27_2 + 1))) = some r := by first | (rw [hy252]; with_reducible exact H) | (have H2_ := (Option.bind_some _ _).symm.trans H; rw [hy252]; with_reducible exact H2_) | (have H2_ := (Option.bind_some _ _).symm.trans H; with_reducible exact H2_) | with_reducible exact H | (rw [hy252]; exact H) | exact H
         have Ny252 := Aside0.mk hy252
         clear hy252
         have H' := Aside0.mk H
         clear H
         have p243 : 0 ≤ (x27_2 : Int) := od_
         have q243 : x27_2 < (y239.length : Int) := od_
         obtain ⟨ad243, A243_0, c243_0, e243, hx243_0, hl243_0, hi243_0⟩ := at_L3 HR242.out x27_2 p243 q243
         cases e243
         replace hx243_0 := hc_ HB hx243_0
         have HR243_0 := Aside0.mk hi243_0
         have HC243_0 := Aside0.mk hl243_0
         clear hi243_0 hl243_0
         replace p243 := eq_true p243
         replace q243 := eq_true q243
         try go_wp2
         replace HO_7 := Aside0.mk (Kd.S_drew HO_7.out)
         replace HB := Aside0.mk (below_drew1 HB.out)
         obtain ⟨i022, hi022, _, hsz22, _⟩ := info_parts info3
         obtain ⟨hcut22, hA22, hC22⟩ := print_take_of (P := Try.prog) (Value.int .i64) 0 24 3 .i64 Try.underlying24 hi022 hsz22 A243_0 c243_0 (rd_L3 y239 x27_2) x17_1 (od_) (od_) HC243_0.out
         have HR244 := Aside0.mk (Kd.C_of_reads (h1 := fun _ => rfl) (hA22 _ (Kd.reads_of_C HR243_0.out)))
         have HC244 := Aside0.mk hC22
         clear hA22 hC22 hi022 hsz22
         obtain ⟨i023, hi023, _, hsz23, _⟩ := info_parts info3
         obtain ⟨A23, hcut23, hA23, hC23⟩ := print_drop_of (P := Try.prog) (Value.int .i64) 0 24 3 .i64 Try.underlying24 hi023 hsz23 A243_0 c243_0 (rd_L3 y239 x27_2) (ji16) (od_) (od_) HC243_0.out
         have HR248 := Aside0.mk (Kd.C_of_reads (h1 := fun _ => rfl) (hA23 _ (Kd.reads_of_C HR243_0.out)))
         have HC248 := Aside0.mk hC23
         clear hA23 hC23 hi023 hsz23
         refine start_ (n := 13) (S := fun w' => True) (ds := []) #[false, false, false, false, false, false, false, false, false, false, false, false, false] (by kernel_rfl) rfl rfl trivial (fun hHeld => ?_); refine with_tabW branch_determinant.tab12 branch_determinant.bits12 (fun HT_ HW_ => ?_)
         generalize wr.drew = w21 at HO_7 HB HR244 HR248 hHeld ⊢
         refine pu_ 0 31 HT_.out (h := ?_)
         refine pu_ 1 32 HT_.out (h := ?_)
         refine pu_ 2 33 HT_.out (h := ?_)
         refine pu_ 3 34 HT_.out (h := ?_)
         refine pu_ 5 36 HT_.out (h := ?_)
         refine pu_ 6 37 HT_.out (h := ?_)
         refine pu_ 7 38 HT_.out (h := ?_)
         refine pu_ 8 39 HT_.out (h := ?_)
         refine one_ (i := 4) (N := some 35) #[true, true, true, true, true, true, true, true, true, false, false, false, false] rfl rfl (one_of HT_.out (by kernel_rfl)) (by decide) (fun K hK => ?_)
         refine goes_ Try.func24 (by kernel_rfl) rfl #[.slice A243_0 ((rd_L3 y239 x27_2).take (x17_1 : Int).toNat).length c243_0] (by rfl) rfl rfl (by (try simp only [List.map_toArray, List.map_cons, List.map_nil]); first | done | (rw [show ((rd_L3 y239 x27_2).take (x17_1 : Int).toNat).length = x17_1.toNat from (by rw [List.length_take]; have h_ : (x17_1 : Int) ≤ ((rd_L3 y239 x27_2).length : Int) := od_; omega)] <;> rfl) | rfl | (simp only [List.length_drop, List.length_take]; rfl)) ?_
         with_reducible refine (slices_Clone_int_int.calls _ _ ((rd_L3 y239 x27_2).take (x17_1 : Int).toNat) t245 _ ?side1 ?side2 A15.out).mono ?_
         (case side1 => exact cb_ HR244.out)
         (case side2 => exact HC244.out)
         rintro e w24 ⟨v246, rfl, ho0, hb⟩
         refine ⟨_, rfl, ?_⟩
         replace HO_7 := Aside0.mk (Kd.S_elder' (ks_ HO_7.out) (Kd.R_base ho0) hb)
         have HO247 := rl_ ho0
         replace HB := hb_ hb
         clear hb ho0
         refine hK.out _ _ trivial (fun hHeld => ?_)
         clear hK K
         refine np_ 35 (h := ?_)
         refine one_ (i := 9) (N := some 40) #[true, true, true, true, true, true, true, true, true, true, false, false, false] rfl rfl (one_of HT_.out (by kernel_rfl)) (by decide) (fun K hK => ?_)
         refine Kd.R_append_rows_step (Kd.int .i64) (w0 := w) w.heap.size (by rfl) (.tmp 35) (.tmp 39) 24 3 (.int .i64 0) 8 rfl Try.underlying24 info3 rfl (by decide) (by omega) v246 t245 ((rd_L3 y239 x27_2).drop ((ji16) : Int).toNat) _ _ _ (fun _ => True) (fun _ => False) rfl rfl ?aO ?aR (fun _ _ h => h) (fun _ h => h.elim) ?aF ?aB ?aS ?aL ?_
         (case aR => first | (rw [← show ((rd_L3 y239 x27_2).drop ((ji16) : Int).toNat).length = ((rd_L3 y239 x27_2).length - (ji16).toNat) from List.length_drop]; repeat (first | exact (Kd.C_below HR248.out HB.out) | (with_reducible refine Kd.C_alloc ?_ _) | (with_reducible refine Kd.C_drewN ?_ _) | (with_reducible refine Kd.C_drew ?_))) | (repeat (first | exact (Kd.C_below HR248.out HB.out) | (with_reducible refine Kd.C_alloc ?_ _) | (with_reducible refine Kd.C_drewN ?_ _) | (with_reducible refine Kd.C_drew ?_))))
         (case aB => exact (bl_))
         (case aF => exact (fun _ _ => trivial))
         (case aO => exact (kr_ HO247.out))
         (case aS => exact (below_size (bl_)))
         (case aL => have := LMc19.out; have hlx_ := (show ((rd_L3 y239 x27_2).drop ((ji16) : Int).toNat).length = ((rd_L3 y239 x27_2).length - (ji16).toNat) from List.length_drop); omega)
         intro v250 w25 ho hb hg hat
         rw [← Ny249.out] at ho
         replace HO_7 := Aside0.mk (Kd.S_after (ok := (fun _ => True)) (ks_ HO_7.out) hg hat)
         replace HB := Aside0.mk (hb)
         have HO251 := Aside0.mk (ho)
         clear HO247
         clear ho hb hg hat
         obtain ⟨Ao27, co27, eo27⟩ := Kd.R_slice HO251.out
         (first | subst eo27 | (injection eo27 with f1_ f2_ f3_; have f4_ := f1_.symm; have f5_ := f3_.symm; clear f1_ f2_ f3_; subst f4_; subst f5_))
         refine hK.out _ _ trivial (fun hHeld => ?_)
         clear hK K
         refine np_ 40 (h := ?_)
         refine one_ (i := 10) (N := some 41) #[true, true, true, true, true, true, true, true, true, true, true, false, false] rfl rfl (one_of HT_.out (by kernel_rfl)) (by decide) (fun K hK => ?_)
         refine value_ (w1 := ?_) (v := ?_) (by rfl) rfl ?_ ?_
         rotate_left 2
         ·go_simp
          constructor
          ·rfl
          ·rfl
         refine hK.out _ _ trivial (fun hHeld => ?_)
         clear hK K
         refine np_ 41 (h := ?_)
         refine one_ (i := 11) (N := some 42) #[true, true, true, true, true, true, true, true, true, true, true, true, false] rfl rfl (one_of HT_.out (by kernel_rfl)) (by decide) (fun K hK => ?_)
         refine Kd.S_append_step (Kd.slice 3 (Kd.int .i64)) (w0 := w) w.heap.size (by rfl) (.tmp 31) (.tmp 41) 57 24 (.slice none 0 0) 24 rfl Try.underlying57 info24 rfl (by decide) (by omega) u7 x7_2 y249 [.slice Ao27 y249.length co27] (fun _ => True) (fun k_ => some k_ = (.slice Ao27 y249.length co27 : Value).ownBlock) rfl rfl ?aP (fun k_ hk_ => ((Kd.R_mono (ok' := fun k_ => ((fun _ => True)) k_ ∧ some k_ ≠ (u7 : Value).ownBlock) (Kd.R_apart' (HO251.out) (Kd.S_typed HO_7.out) (by decide)) (fun k_ hk => ⟨trivial, hk.2⟩))).1 k_ hk_.symm) ?aF ?aO ?aB ?aS ?aL ?_
         (case aP => exact Kd.M_row (Kd.R_mono (Kd.R_tight rfl (Kd.R_mono (ok' := fun k_ => ((fun _ => True)) k_ ∧ some k_ ≠ (u7 : Value).ownBlock) (Kd.R_apart' (HO251.out) (Kd.S_typed HO_7.out) (by decide)) (fun k_ hk => ⟨trivial, hk.2⟩))) (fun _ h_ => h_)))
         (case aB => exact (bl_))
         (case aF => exact (fun _ _ => trivial))
         (case aO => exact (by refine ks_ ?_; exact Kd.S_mono HO_7.out (fun k_ hk => ⟨trivial, fun e_ => hk.2 e_⟩)))
         (case aS => exact (below_size (bl_)))
         (case aL => have := LMc20.out; omega)
         intro v253 w26 ho hb hg hat
         rw [← Ny252.out] at ho
         replace HB := Aside0.mk (hb)
         have HO254 := Aside0.mk (ho)
         clear HO_7 HO251
         clear ho hb hg hat
         refine hK.out _ _ trivial (fun hHeld => ?_)
         clear hK K
         refine np_ 42 (h := ?_)
         refine pu_ 12 7 HT_.out (h := ?_)
         refine done_ (done_of HT_.out (by kernel_rfl)) ?_
         try go_wp2
         go_roundg k2
         case measure => have := HK1.out; have := HK2.out; omega
         case rel => exact ⟨(y252), (wrap64 (x27_2 + 1)), rs_, H', ⟨by have := HK1.out; have := HK2.out; omega⟩, ⟨ks_ HO254.out⟩, ⟨bl_⟩⟩
        ·rw [if_neg c10] at H
         have c10b0 : decide (x27_2 < (y239.length : Int)) = false := decide_eq_false c10
         clear c10
         obtain ⟨t255, A28, H⟩ := bi_ H
         replace H : (branch_determinant.l0 k2 l0 (wrap64 (x3_1 + (wrap64 ((wrap64 (x4_1 * (rd (rd_L3 l0 0) x17_1))) * t255)))) (wrap64 (-x4_1)) (rd_L3 l0 0) ((rd_L3 l0 0).length : Int) (wrap64 (x17_1 + 1))) = some r := H
         have H' := Aside0.mk H
         clear H
         obtain ⟨Ao29, co29, eo29⟩ := Kd.S_slice HO_7.out
         subst eo29
         go_wp2_with (first | ((with_reducible refine gate_callee (f := 17) rfl ?_); refine goesL_ (some 49) rfl rfl Try.func17 (by kernel_rfl) rfl #[.slice Ao29 x7_2.length co29] rfl (as_) ?_; (with_reducible refine (ih k2 (by have := HK1.out; have := HK2.out; omega) _ _ x7_2 t255 _ ?side1 ?side2 A28.out).mono ?_); (case side1 => repeat (first | exact (Kd.S_reads' HO_7.out).2.2 | (with_reducible refine Kd.C_alloc ?_ _) | (with_reducible refine Kd.C_drewN ?_ _) | (with_reducible refine Kd.C_drew ?_))); (case side2 => exact (Kd.S_reads' HO_7.out).2.1); rintro e w30 ⟨rfl, hb⟩; refine ⟨_, rfl, ?_⟩; replace HO_7 := Aside0.mk (Kd.S_below (ks_ HO_7.out) hb); replace HB := hb_ hb; clear hb))
         go_roundg k2
         case measure => have := HK1.out; have := HK2.out; omega
         case rel => exact ⟨(wrap64 (x3_1 + (wrap64 ((wrap64 (x4_1 * (rd (rd_L3 l0 0) x17_1))) * t255)))), (wrap64 (-x4_1)), (wrap64 (x17_1 + 1)), rs_, rs_, rs_, H', ⟨by have := HK1.out; have := HK2.out; omega⟩, ⟨bl_⟩⟩
    ·rw [if_neg c4] at H
     have c4b0 : decide (x17_1 < ((rd_L3 l0 0).length : Int)) = false := decide_eq_false c4
     clear c4
     obtain rfl := Option.some.inj H
     go_wp2
     go_ret
     exact ⟨er_, bl_⟩

end Go.Proofs.Ytlcgoacmlbeliaa.P
