-- Written by wip/tools/myprint.py of this session's repo, over the kit's printer and hand texts.
import Derived.Test.YtgobffgogmnmpaaDoorPx0
import Derived.Test.YtgobffgogmnmpaaDoorPre
namespace Go.Proofs.YtgobffgogmnmpaaDoor.P
open Go.RowKit Go.Proofs.YtgobffgogmnmpaaDoorW.PrintWords Go.Proofs.YtgobffgogmnmpaaDoorW.PrintLast Go.Proofs.YtgobffgogmnmpaaDoorW.PrintMore
attribute [local go_sem] max2_int min2_int max_two min_two max_three min_three max_four min_four   -- for this text's walks alone
set_option linter.unusedVariables false
set_option linter.unusedSimpArgs false

/-! ### trishawref01_goes: function 49 -/
mutual
def trishawref01_goes.l0 : Nat → List (List (S51)) → Int → List Int → Int → Option (Bool)
  | 0, _, _, _, _ => none
  | k + 1, x0, x3, x9, x10 => if x10 < x3 then (trishawref01_goes.l1 k x0 x3 x9 x10 (-1) 0) else (some true)
def trishawref01_goes.l1 : Nat → List (List (S51)) → Int → List Int → Int → Int → Int → Option (Bool)
  | 0, _, _, _, _, _, _ => none
  | k + 1, x0, x3, x9, x10, x11, x12 => if x12 < (x0.length : Int) then (if 0 ≤ x12 then (if x12 < (x9.length : Int) then (if (rd x9 x12) = ((rd_L2 x0 x12).length : Int) then (trishawref01_goes.l1 k x0 x3 x9 x10 x11 (wrap64 (x12 + 1))) else (if 0 ≤ (rd x9 x12) then (if (rd x9 x12) < ((rd_L2 x0 x12).length : Int) then (if ((rd_T51 (rd_L2 x0 x12) (rd x9 x12)).f1) < x10 then (some false) else (if ((rd_T51 (rd_L2 x0 x12) (rd x9 x12)).f0) ≤ x10 then (if x11 < 0 then (trishawref01_goes.l1 k x0 x3 x9 x10 x12 (wrap64 (x12 + 1))) else (if 0 ≤ x11 then (if x11 < (x0.length : Int) then (if x11 < (x9.length : Int) then (if 0 ≤ (rd x9 x11) then (if (rd x9 x11) < ((rd_L2 x0 x11).length : Int) then (if ((rd_T51 (rd_L2 x0 x12) (rd x9 x12)).f1) < ((rd_T51 (rd_L2 x0 x11) (rd x9 x11)).f1) then (trishawref01_goes.l1 k x0 x3 x9 x10 x12 (wrap64 (x12 + 1))) else (trishawref01_goes.l1 k x0 x3 x9 x10 x11 (wrap64 (x12 + 1)))) else (none)) else (none)) else (none)) else (none)) else (none))) else (trishawref01_goes.l1 k x0 x3 x9 x10 x11 (wrap64 (x12 + 1))))) else (none)) else (none))) else (none)) else (none)) else (if x11 < 0 then (some false) else (if 0 ≤ x11 then (if x11 < (x9.length : Int) then (trishawref01_goes.l0 k x0 x3 (x9.set (x11 : Int).toNat (wrap64 ((rd x9 x11) + 1))) (wrap64 (x10 + 1))) else (none)) else (none)))
end
def trishawref01_goes.f (k : Nat) (l0 : List (List (S51))) (l1 : List Int) (a2 : Int) (a3 : Int) : Option (Bool) := (some (([] : List Int) : List Int)).bind fun y313 => (if y313.length + l1.length < 17592186044416 then (trishawref01_goes.l0 k l0 a3 (y313 ++ l1) a2) else (none))
def trishawref01_goes.T9 : Bool × List (List Nat × List Nat) := (true, [([], []), ([], []), ([0, 1], [0, 1]), ([2], [2]), ([], []), ([], []), ([4, 5], [4, 5]), ([6], [6]), ([7], [7]), ([3, 8], [3, 8])])
def trishawref01_goes.B9 : List Nat := [0, 0, 3, 7, 0, 0, 48, 112, 240, 511]
theorem trishawref01_goes.tab9 : rtab .any (opsOf Tryd.f49 9) = trishawref01_goes.T9 := by kernel_rfl
theorem trishawref01_goes.bits9 : waitsOk trishawref01_goes.T9.2 trishawref01_goes.B9 = true := by kernel_rfl
def trishawref01_goes.T10 : Bool × List (List Nat × List Nat) := (true, [([], []), ([], []), ([0, 1], [0, 1]), ([2], [2]), ([], []), ([], []), ([4, 5], [4, 5]), ([6], [6]), ([3, 7], [3, 7]), ([8], [8]), ([], []), ([10, 9, 0, 1, 2, 3, 4, 5, 6, 7, 8, 9, 10], [9, 10])])
def trishawref01_goes.B10 : List Nat := [0, 0, 3, 7, 0, 0, 48, 112, 255, 511, 0, 2047]
theorem trishawref01_goes.tab10 : rtab .any (opsOf Tryd.f49 10) = trishawref01_goes.T10 := by kernel_rfl
theorem trishawref01_goes.bits10 : waitsOk trishawref01_goes.T10.2 trishawref01_goes.B10 = true := by kernel_rfl
def trishawref01_goes.T13 : Bool × List (List Nat × List Nat) := (true, [([], []), ([0], [0]), ([], []), ([1, 2], [1, 2]), ([3], [3]), ([4], [4]), ([5, 4], [4, 5]), ([6, 4, 4], [4, 6]), ([7], [7]), ([8, 7], [7, 8]), ([7], [7]), ([7], [7]), ([10, 11, 7], [7, 10, 11]), ([12, 7], [7, 12]), ([7], [7]), ([7], [7]), ([14, 15, 7], [7, 14, 15]), ([16, 7], [7, 16]), ([13, 17, 7], [7, 13, 17]), ([18, 7], [7, 18]), ([19, 7], [7, 19]), ([9, 20, 7], [7, 9, 20]), ([7, 21, 4], [4, 7, 21]), ([4, 22], [4, 22])])
def trishawref01_goes.B13 : List Nat := [0, 1, 0, 7, 15, 31, 63, 127, 255, 511, 255, 255, 3327, 7423, 255, 255, 49407, 114943, 261375, 523519, 1047807, 2097151, 4194303, 8388607]
theorem trishawref01_goes.tab13 : rtab .any (opsOf Tryd.f49 13) = trishawref01_goes.T13 := by kernel_rfl
theorem trishawref01_goes.bits13 : waitsOk trishawref01_goes.T13.2 trishawref01_goes.B13 = true := by kernel_rfl
set_option maxHeartbeats 8000000 in
set_option maxRecDepth 100000 in
theorem trishawref01_goes.calls (k : Nat) (A0 : Option Addr) (c0 : Nat) (l0 : List (List (S51))) (A1 : Option Addr) (c1 : Nat) (l1 : List Int) (a2 : Int) (a3 : Int) (r : Bool) (w : World) (hr0 : Kd.C (Kd.slice 51 k51) w A0 l0.length l0) (hc0 : l0.length ≤ c0) (hr1 : Kd.C (Kd.int .i64) w A1 l1.length l1) (hc1 : l1.length ≤ c1) (h : trishawref01_goes.f k l0 l1 a2 a3 = some r) :
    Calls Tryd.prog 49 #[.slice A0 l0.length c0, .slice A1 l1.length c1, .int .i64 a2, .int .i64 a3] w fun e w' => e = .returned (.bool r) ∧ Below w.heap.size w w' := by
 have hu51 := Tryd.underlying51
 have HR0 := Aside0.mk hr0
 have HC0 := Aside0.mk hc0
 clear hr0 hc0
 have HR1 := Aside0.mk hr1
 have HC1 := Aside0.mk hc1
 clear hr1 hc1
 have HB := Aside0.mk (Below.refl w.heap.size w)
 have H : ((some (([] : List Int) : List Int)).bind fun y313 => (if y313.length + l1.length < 17592186044416 then (trishawref01_goes.l0 k l0 a3 (y313 ++ l1) a2) else (none))) = some r := h
 clear h
 obtain ⟨y313, hy313⟩ : ∃ y_ : List Int, y_ = (([] : List Int)) := ⟨_, rfl⟩
 replace H : (if y313.length + l1.length < 17592186044416 then (trishawref01_goes.l0 k l0 a3 (y313 ++ l1) a2) else (none)) = some r := by first | (rw [hy313]; with_reducible exact H) | (have H2_ := (Option.bind_some _ _).symm.trans H; rw [hy313]; with_reducible exact H2_) | (have H2_ := (Option.bind_some _ _).symm.trans H; with_reducible exact H2_) | with_reducible exact H | (rw [hy313]; exact H) | exact H
 have Ny313 := Aside0.mk hy313
 clear hy313
 have c5 : y313.length + l1.length < 17592186044416 := fl_ fun c5 => by rw [if_neg c5] at H; exact absurd H (by simp)
 rw [if_pos c5] at H
 have LMc5 := Aside0.mk c5
 clear c5
 obtain ⟨y316, hy316⟩ : ∃ y_ : List Int, y_ = (y313 ++ l1) := ⟨_, rfl⟩
 replace H : (trishawref01_goes.l0 k l0 a3 y316 a2) = some r := by first | (rw [hy316]; with_reducible exact H) | (have H2_ := (Option.bind_some _ _).symm.trans H; rw [hy316]; with_reducible exact H2_) | (have H2_ := (Option.bind_some _ _).symm.trans H; with_reducible exact H2_) | with_reducible exact H | (rw [hy316]; exact H) | exact H
 have Ny316 := Aside0.mk hy316
 clear hy316
 have H' := Aside0.mk H
 clear H
 go_enter Tryd.func49, Tryd.ntmps49
 go_wp2_with (first | ((with_reducible refine gate_dst (N := 14) rfl ?_); refine Kd.R_lit (Kd.int .i64) _ 3 ?hg (N := 14) ?hd (xs := ([] : List Int)) (inner := []) (ok := fun _ => True) (okp := fun _ => True) ?hr ?hp (fun _ hk => hk) trivial (Below.refl _ _) (Nat.le_refl _) (by simp) ?_; (case hd => rfl); (case hg => rfl); (case hr => first | (go_simp; done) | (go_simp; rfl)); (case hp => exact (Reps.none _ _)); intro v314 w6 ho7 hb hg_ hnew_; clear hg_ hnew_; (first | rw [← Ny313.out] at ho7 | (simp only [Int.reduceToNat] at ho7; rw [← Ny313.out] at ho7)); have HO315 := rl_ ho7; replace HB := hb_ hb; clear hb ho7) | ((with_reducible refine gate_builtin (b := .append) (xs := #[.tmp 14, .tmp 15]) rfl ?_); at_builtin; refine Kd.R_append_rows (Kd.int .i64) (w0 := w) w.heap.size rfl (.tmp 14) (.tmp 15) 22 3 (.int .i64 0) 8 rfl Tryd.underlying22 info3 rfl (by decide) (by omega) v314 y313 l1 _ _ _ (fun _ => True) (fun _ => False) rfl rfl ?aO ?aR (fun _ _ h => h) (fun _ h => h.elim) ?aF ?aB ?aS ?aL ?_; (case aR => repeat (first | exact (Kd.C_below HR1.out HB.out) | (with_reducible refine Kd.C_alloc ?_ _) | (with_reducible refine Kd.C_drewN ?_ _) | (with_reducible refine Kd.C_drew ?_))); (case aB => exact (bl_)); (case aF => exact (fun _ _ => trivial)); (case aO => exact (kr_ HO315.out)); (case aS => exact (below_size (bl_))); (case aL => have := LMc5.out; omega); intro v317 w8 ho hb hg hat; rw [← Ny316.out] at ho; replace HB := Aside0.mk (hb); have HO318 := Aside0.mk (ho); clear HO315; clear ho hb hg hat))
 go_loopg [10] k (fun kq v10 w' => ∃ (x9_1 : List Int) (x10_1 : Int), v10 = .int .i64 x10_1 ∧ Aside0 (trishawref01_goes.l0 kq l0 a3 x9_1 x10_1 = some r) ∧ Aside0 (kq ≤ k) ∧ Aside0 (Kd.R (Kd.int .i64) 3 w' w.heap.size (fun _ => True) v317 x9_1) ∧ Aside0 (Below w.heap.size w w'))
 case atStart => exact ⟨(y316), (a2), rs_, H', ⟨Nat.le_refl _⟩, ⟨kr_ HO318.out⟩, ⟨bl_⟩⟩
 case round =>
  clear H'
  try clear c1
  try clear p2
  try clear c4
  try clear c5
  obtain ⟨x9_1, x10_1, rfl, HA, HK1, HO_9, HB⟩ := hrel
  cases gk with
  | zero => exact absurd HA.out (by simp [trishawref01_goes.l0])
  | succ k1 =>
   have H := HA.out
   clear HA
   simp only [trishawref01_goes.l0] at H
   by_cases c9 : x10_1 < a3
   ·rw [if_pos c9] at H
    have c9b0 : decide (x10_1 < a3) = true := decide_eq_true c9
    clear c9
    have H' := Aside0.mk H
    clear H
    go_wp2
    go_loopg [11, 12] k1 (fun kq v11 v12 w' => ∃ (x11_2 : Int) (x12_2 : Int), v11 = .int .i64 x11_2 ∧ v12 = .int .i64 x12_2 ∧ Aside0 (trishawref01_goes.l1 kq l0 a3 x9_1 x10_1 x11_2 x12_2 = some r) ∧ Aside0 (kq ≤ k1) ∧ Aside0 (Kd.R (Kd.int .i64) 3 w' w.heap.size (fun _ => True) v317 x9_1) ∧ Aside0 (Below w.heap.size w w'))
    case atStart => exact ⟨((-1)), (0), rs_, rs_, H', ⟨Nat.le_refl _⟩, ⟨kr_ HO_9.out⟩, ⟨bl_⟩⟩
    case round =>
     clear H'
     try clear c1
     try clear p2
     try clear c4
     try clear c5
     try clear c9
     try clear c9b0
     try clear p2
     obtain ⟨x11_2, x12_2, rfl, rfl, HA, HK2, HO_9, HB⟩ := hrel
     cases gk with
     | zero => exact absurd HA.out (by simp [trishawref01_goes.l1])
     | succ k2 =>
      have H := HA.out
      clear HA
      simp only [trishawref01_goes.l1] at H
      by_cases c10 : x12_2 < (l0.length : Int)
      ·rw [if_pos c10] at H
       have c10b0 : decide (x12_2 < (l0.length : Int)) = true := decide_eq_true c10
       clear c10
       obtain ⟨c11b0, H⟩ := fp_ H
       obtain ⟨c12b0, H⟩ := fp_ H
       by_cases c13 : (rd x9_1 x12_2) = ((rd_L2 l0 x12_2).length : Int)
       ·rw [if_pos c13] at H
        have c13b0 : ((rd x9_1 x12_2) == ((rd_L2 l0 x12_2).length : Int)) = true := beq_iff_eq.mpr c13
        have c13b1 : ((rd x9_1 x12_2) != ((rd_L2 l0 x12_2).length : Int)) = false := bne_eq_false_iff_eq.mpr c13
        clear c13
        have H' := Aside0.mk H
        clear H
        try go_wp2
        replace HO_9 := Aside0.mk (Kd.R_drew HO_9.out)
        replace HB := Aside0.mk (below_drew1 HB.out)
        obtain ⟨Ao15, co15, eo15⟩ := Kd.R_slice HO_9.out
        (first | subst eo15 | (injection eo15 with f1_ f2_ f3_; have f4_ := f1_.symm; have f5_ := f3_.symm; clear f1_ f2_ f3_; subst f4_; subst f5_))
        obtain ⟨ad321, e321, hx321_0, p321, q321⟩ := ai_ (Kd.R_reads' HO_9.out).2.2 x12_2
        cases e321
        have p322 : 0 ≤ (x12_2 : Int) := od_
        have q322 : x12_2 < (l0.length : Int) := od_
        obtain ⟨ad322, A322_0, c322_0, e322, hx322_0, hl322_0, hi322_0⟩ := at_L2 HR0.out x12_2 p322 q322
        have hw322_0 := hx322_0
        cases e322
        replace hx322_0 := hc_ HB hx322_0
        have HR322_0 := Aside0.mk hi322_0
        have HC322_0 := Aside0.mk hl322_0
        clear hi322_0 hl322_0
        replace p322 := eq_true p322
        replace q322 := eq_true q322
        refine start_ (n := 10) (S := fun w' => w'.cell? (ad321.add (x12_2).toNat) = some (.int .i64 (rd x9_1 x12_2)) ∧ w'.cell? (ad322.add (x12_2).toNat) = some (.slice A322_0 (rd_L2 l0 x12_2).length c322_0)) (ds := []) #[false, false, false, false, false, false, false, false, false, false] (by kernel_rfl) rfl rfl ⟨hx321_0, (hc_ HB hw322_0)⟩ (fun hHeld => ?_); refine with_tabW trishawref01_goes.tab9 trishawref01_goes.bits9 (fun HT_ HW_ => ?_)
        generalize wr.drew = w14 at HO_9 HB HR322_0 hx321_0 hx322_0 hHeld ⊢
        refine pu_ 0 29 HT_.out (h := ?_)
        refine pu_ 1 30 HT_.out (h := ?_)
        refine pu_ 2 31 HT_.out (h := ?_)
        refine pu_ 4 33 HT_.out (h := ?_)
        refine pu_ 5 34 HT_.out (h := ?_)
        refine pu_ 6 35 HT_.out (h := ?_)
        refine ta_ 3 32 HT_.out HW_.out hHeld (h := ?_)
        refine ta_ 7 36 HT_.out HW_.out hHeld (h := ?_)
        refine pu_ 8 37 HT_.out (h := ?_)
        refine pu_ 9 38 HT_.out (h := ?_)
        refine done_ (done_of HT_.out (by kernel_rfl)) ?_
        try go_wp2
        go_roundg k2
        case measure => have := HK1.out; have := HK2.out; omega
        case rel => exact ⟨(x11_2), (wrap64 (x12_2 + 1)), rs_, rs_, H', ⟨by have := HK1.out; have := HK2.out; omega⟩, ⟨kr_ HO_9.out⟩, ⟨bl_⟩⟩
       ·rw [if_neg c13] at H
        have c13b0 : ((rd x9_1 x12_2) == ((rd_L2 l0 x12_2).length : Int)) = false := beq_eq_false_iff_ne.mpr c13
        have c13b1 : ((rd x9_1 x12_2) != ((rd_L2 l0 x12_2).length : Int)) = true := bne_iff_ne.mpr c13
        obtain ⟨c16b0, H⟩ := fp_ H
        obtain ⟨c17b0, H⟩ := fp_ H
        by_cases c18 : ((rd_T51 (rd_L2 l0 x12_2) (rd x9_1 x12_2)).f1) < x10_1
        ·rw [if_pos c18] at H
         have c18b0 : decide (((rd_T51 (rd_L2 l0 x12_2) (rd x9_1 x12_2)).f1) < x10_1) = true := decide_eq_true c18
         clear c18
         obtain rfl := Option.some.inj H
         try go_wp2
         replace HO_9 := Aside0.mk (Kd.R_drew HO_9.out)
         replace HB := Aside0.mk (below_drew1 HB.out)
         obtain ⟨Ao20, co20, eo20⟩ := Kd.R_slice HO_9.out
         (first | subst eo20 | (injection eo20 with f1_ f2_ f3_; have f4_ := f1_.symm; have f5_ := f3_.symm; clear f1_ f2_ f3_; subst f4_; subst f5_))
         obtain ⟨ad321, e321, hx321_0, p321, q321⟩ := ai_ (Kd.R_reads' HO_9.out).2.2 x12_2
         cases e321
         have p322 : 0 ≤ (x12_2 : Int) := od_
         have q322 : x12_2 < (l0.length : Int) := od_
         obtain ⟨ad322, A322_0, c322_0, e322, hx322_0, hl322_0, hi322_0⟩ := at_L2 HR0.out x12_2 p322 q322
         have hw322_0 := hx322_0
         cases e322
         replace hx322_0 := hc_ HB hx322_0
         have HR322_0 := Aside0.mk hi322_0
         have HC322_0 := Aside0.mk hl322_0
         clear hi322_0 hl322_0
         replace p322 := eq_true p322
         replace q322 := eq_true q322
         refine start_ (n := 10) (S := fun w' => w'.cell? (ad321.add (x12_2).toNat) = some (.int .i64 (rd x9_1 x12_2)) ∧ w'.cell? (ad322.add (x12_2).toNat) = some (.slice A322_0 (rd_L2 l0 x12_2).length c322_0)) (ds := []) #[false, false, false, false, false, false, false, false, false, false] (by kernel_rfl) rfl rfl ⟨hx321_0, (hc_ HB hw322_0)⟩ (fun hHeld => ?_); refine with_tabW trishawref01_goes.tab9 trishawref01_goes.bits9 (fun HT_ HW_ => ?_)
         generalize wr.drew = w19 at HO_9 HB HR322_0 hx321_0 hx322_0 hHeld ⊢
         refine pu_ 0 29 HT_.out (h := ?_)
         refine pu_ 1 30 HT_.out (h := ?_)
         refine pu_ 2 31 HT_.out (h := ?_)
         refine pu_ 4 33 HT_.out (h := ?_)
         refine pu_ 5 34 HT_.out (h := ?_)
         refine pu_ 6 35 HT_.out (h := ?_)
         refine ta_ 3 32 HT_.out HW_.out hHeld (h := ?_)
         refine ta_ 7 36 HT_.out HW_.out hHeld (h := ?_)
         refine pu_ 8 37 HT_.out (h := ?_)
         refine pu_ 9 38 HT_.out (h := ?_)
         refine done_ (done_of HT_.out (by kernel_rfl)) ?_
         try go_wp2
         replace HO_9 := Aside0.mk (Kd.R_drew HO_9.out)
         replace HB := Aside0.mk (below_drew1 HB.out)
         have p323 : 0 ≤ (x12_2 : Int) := od_
         have q323 : x12_2 < (l0.length : Int) := od_
         obtain ⟨ad323, A323_0, c323_0, e323, hx323_0, hl323_0, hi323_0⟩ := at_L2 HR0.out x12_2 p323 q323
         have hw323_0 := hx323_0
         obtain rfl : ad322 = ad323 := (by injection e323)
         replace hx323_0 := hc_ HB hx323_0
         have HR323_0 := Aside0.mk hi323_0
         have HC323_0 := Aside0.mk hl323_0
         clear hi323_0 hl323_0
         replace p323 := eq_true p323
         replace q323 := eq_true q323
         obtain ⟨ad324, e324, hx324_0, p324, q324⟩ := ai_ (Kd.R_reads' HO_9.out).2.2 x12_2
         obtain rfl : ad321 = ad324 := (by injection e324)
         have p325 : 0 ≤ ((rd x9_1 x12_2) : Int) := od_
         have q325 : (rd x9_1 x12_2) < ((rd_L2 l0 x12_2).length : Int) := od_
         obtain ⟨ad325, e325, hx325_0, hx325_1⟩ := at_T51 HR323_0.out (rd x9_1 x12_2) p325 q325
         have hw325_1 := hx325_1
         have hw325_0 := hx325_0
         cases e325
         replace hx325_0 := hc_ HB hx325_0
         replace hx325_1 := hc_ HB hx325_1
         replace p325 := eq_true p325
         replace q325 := eq_true q325
         refine start_ (n := 12) (S := fun w' => w'.cell? (ad322.add (x12_2).toNat) = some (.slice (some ad325) (rd_L2 l0 x12_2).length c323_0) ∧ w'.cell? (ad321.add (x12_2).toNat) = some (.int .i64 (rd x9_1 x12_2)) ∧ w'.cell? (ad325.add (((rd x9_1 x12_2)).toNat * 2)) = some (.int .i64 ((rd_T51 (rd_L2 l0 x12_2) (rd x9_1 x12_2)).f0)) ∧ w'.cell? ⟨(ad325.add (((rd x9_1 x12_2)).toNat * 2)).block, (ad325.add (((rd x9_1 x12_2)).toNat * 2)).off + 1, none⟩ = some (.int .i64 ((rd_T51 (rd_L2 l0 x12_2) (rd x9_1 x12_2)).f1))) (ds := []) #[false, false, false, false, false, false, false, false, false, false, false, false] (by kernel_rfl) rfl rfl ⟨(hc_ HB hw323_0), hx324_0, (hc_ HB hw325_0), (hc_ HB hw325_1)⟩ (fun hHeld => ?_); refine with_tabW trishawref01_goes.tab10 trishawref01_goes.bits10 (fun HT_ HW_ => ?_)
         generalize w19.drew = w21 at HO_9 HB HR323_0 hx323_0 hx324_0 hx325_0 hx325_1 hHeld ⊢
         refine pu_ 0 39 HT_.out (h := ?_)
         refine pu_ 1 40 HT_.out (h := ?_)
         refine pu_ 2 41 HT_.out (h := ?_)
         refine pu_ 4 43 HT_.out (h := ?_)
         refine pu_ 5 44 HT_.out (h := ?_)
         refine pu_ 6 45 HT_.out (h := ?_)
         refine ta_ 3 42 HT_.out HW_.out hHeld (h := ?_)
         refine ta_ 7 46 HT_.out HW_.out hHeld (h := ?_)
         refine pu_ 8 47 HT_.out (h := ?_)
         refine ta_ 9 48 HT_.out HW_.out hHeld (h := ?_)
         refine one_ (i := 10) (N := some 13) #[true, true, true, true, true, true, true, true, true, true, true, false] rfl rfl (one_of HT_.out (by kernel_rfl)) (by decide) (fun K hK => ?_)
         refine box_step ?hg (N := 13) ?hd (cs := #[.int .i64 0, .int .i64 0]) (t := 51) ?hr ?_; (case hd => rfl); (case hg => rfl); (case hr => first | (go_simp; done) | (go_simp; rfl))
         intro gb326 hg w22 hbox hb
         have HS1_ := (hb.cell (World.block_lt_of_cell? _ _ (hHeld.2.1))).trans (hHeld.2.1)
         replace HO_9 := rb_ HO_9 hb
         have BK326 := Aside0.mk (hbox)
         have GW326 := gw_ hg
         have GE326 := gw_ hg
         replace HB := hb_ hb
         clear hb hbox hg
         refine hK.out _ _ ⟨(hc_ HB hw323_0), HS1_, (hc_ HB hw325_0), (hc_ HB hw325_1)⟩ (fun hHeld => ?_)
         clear hK K
         refine np_ 13 (h := ?_)
         refine one_ (i := 11) (N := none) #[true, true, true, true, true, true, true, true, true, true, true, true] rfl rfl (one_of HT_.out (by kernel_rfl)) (by decide) (fun K hK => ?_)
         have hs23 : w22.cell? ⟨gb326, 0, none⟩ = some (.int .i64 0) := (blk_cell BK326.out 0).trans rfl
         have hfs23 := bz_ BK326 0
         have hs24 : w22.cell? ⟨gb326, 1, none⟩ = some (.int .i64 0) := (blk_cell BK326.out 1).trans rfl
         have hfs24 := bz_ BK326 1
         refine skip_ (w1 := ?_) (by rfl) rfl ?_ ?_
         rotate_left
         ·go_simp
          rfl
         refine hK.out _ _ ⟨((cell_far (p := ⟨gb326, _, none⟩) (nf_ hw323_0 GW326.out) _).trans (((cell_far (p := ⟨gb326, _, none⟩) (nf_ hw323_0 GW326.out) _).trans (hHeld.1)))), ((cell_far (p := ⟨gb326, _, none⟩) (by first | exact Kd.own_blk (Kd.R_ne HO_9.out BK326.out (by decide)) | (rw [add_block]; exact Kd.own_blk (Kd.R_ne HO_9.out BK326.out (by decide))) | (show (Addr.add _ _).block ≠ _; rw [add_block]; exact Kd.own_blk (Kd.R_ne HO_9.out BK326.out (by decide))) | (dsimp only; exact Kd.own_blk (Kd.R_ne HO_9.out BK326.out (by decide)))) _).trans (((cell_far (p := ⟨gb326, _, none⟩) (by first | exact Kd.own_blk (Kd.R_ne HO_9.out BK326.out (by decide)) | (rw [add_block]; exact Kd.own_blk (Kd.R_ne HO_9.out BK326.out (by decide))) | (show (Addr.add _ _).block ≠ _; rw [add_block]; exact Kd.own_blk (Kd.R_ne HO_9.out BK326.out (by decide))) | (dsimp only; exact Kd.own_blk (Kd.R_ne HO_9.out BK326.out (by decide)))) _).trans (hHeld.2.1)))), ((cell_far (p := ⟨gb326, _, none⟩) (nf_ hw325_0 GW326.out) _).trans (((cell_far (p := ⟨gb326, _, none⟩) (nf_ hw325_0 GW326.out) _).trans (hHeld.2.2.1)))), ((cell_far (p := ⟨gb326, _, none⟩) (nf_ hw325_1 GW326.out) _).trans (((cell_far (p := ⟨gb326, _, none⟩) (nf_ hw325_1 GW326.out) _).trans (hHeld.2.2.2))))⟩ (fun hHeld => ?_)
         clear hK K
         refine done_ (done_of HT_.out (by kernel_rfl)) ?_
         have hcz25_0 := bc_ BK326 0 (.int .i64 0)
         have hcz25_1 := bc_ BK326 1 (.int .i64 0)
         have hfz25_0 := bz_ BK326 0
         have hfz25_1 := bz_ BK326 1
         try go_wp2
         go_ret
         exact ⟨er_, bl_⟩
        ·rw [if_neg c18] at H
         have c18b0 : decide (((rd_T51 (rd_L2 l0 x12_2) (rd x9_1 x12_2)).f1) < x10_1) = false := decide_eq_false c18
         clear c18
         by_cases c26 : ((rd_T51 (rd_L2 l0 x12_2) (rd x9_1 x12_2)).f0) ≤ x10_1
         ·rw [if_pos c26] at H
          have c26b0 : decide (((rd_T51 (rd_L2 l0 x12_2) (rd x9_1 x12_2)).f0) ≤ x10_1) = true := decide_eq_true c26
          clear c26
          by_cases c27 : x11_2 < 0
          ·rw [if_pos c27] at H
           have c27b0 : decide (x11_2 < 0) = true := decide_eq_true c27
           clear c27
           have H' := Aside0.mk H
           clear H
           try go_wp2
           replace HO_9 := Aside0.mk (Kd.R_drew HO_9.out)
           replace HB := Aside0.mk (below_drew1 HB.out)
           obtain ⟨Ao29, co29, eo29⟩ := Kd.R_slice HO_9.out
           (first | subst eo29 | (injection eo29 with f1_ f2_ f3_; have f4_ := f1_.symm; have f5_ := f3_.symm; clear f1_ f2_ f3_; subst f4_; subst f5_))
           obtain ⟨ad321, e321, hx321_0, p321, q321⟩ := ai_ (Kd.R_reads' HO_9.out).2.2 x12_2
           cases e321
           have p322 : 0 ≤ (x12_2 : Int) := od_
           have q322 : x12_2 < (l0.length : Int) := od_
           obtain ⟨ad322, A322_0, c322_0, e322, hx322_0, hl322_0, hi322_0⟩ := at_L2 HR0.out x12_2 p322 q322
           have hw322_0 := hx322_0
           cases e322
           replace hx322_0 := hc_ HB hx322_0
           have HR322_0 := Aside0.mk hi322_0
           have HC322_0 := Aside0.mk hl322_0
           clear hi322_0 hl322_0
           replace p322 := eq_true p322
           replace q322 := eq_true q322
           refine start_ (n := 10) (S := fun w' => w'.cell? (ad321.add (x12_2).toNat) = some (.int .i64 (rd x9_1 x12_2)) ∧ w'.cell? (ad322.add (x12_2).toNat) = some (.slice A322_0 (rd_L2 l0 x12_2).length c322_0)) (ds := []) #[false, false, false, false, false, false, false, false, false, false] (by kernel_rfl) rfl rfl ⟨hx321_0, (hc_ HB hw322_0)⟩ (fun hHeld => ?_); refine with_tabW trishawref01_goes.tab9 trishawref01_goes.bits9 (fun HT_ HW_ => ?_)
           generalize wr.drew = w28 at HO_9 HB HR322_0 hx321_0 hx322_0 hHeld ⊢
           refine pu_ 0 29 HT_.out (h := ?_)
           refine pu_ 1 30 HT_.out (h := ?_)
           refine pu_ 2 31 HT_.out (h := ?_)
           refine pu_ 4 33 HT_.out (h := ?_)
           refine pu_ 5 34 HT_.out (h := ?_)
           refine pu_ 6 35 HT_.out (h := ?_)
           refine ta_ 3 32 HT_.out HW_.out hHeld (h := ?_)
           refine ta_ 7 36 HT_.out HW_.out hHeld (h := ?_)
           refine pu_ 8 37 HT_.out (h := ?_)
           refine pu_ 9 38 HT_.out (h := ?_)
           refine done_ (done_of HT_.out (by kernel_rfl)) ?_
           try go_wp2
           replace HO_9 := Aside0.mk (Kd.R_drew HO_9.out)
           replace HB := Aside0.mk (below_drew1 HB.out)
           have p323 : 0 ≤ (x12_2 : Int) := od_
           have q323 : x12_2 < (l0.length : Int) := od_
           obtain ⟨ad323, A323_0, c323_0, e323, hx323_0, hl323_0, hi323_0⟩ := at_L2 HR0.out x12_2 p323 q323
           have hw323_0 := hx323_0
           obtain rfl : ad322 = ad323 := (by injection e323)
           replace hx323_0 := hc_ HB hx323_0
           have HR323_0 := Aside0.mk hi323_0
           have HC323_0 := Aside0.mk hl323_0
           clear hi323_0 hl323_0
           replace p323 := eq_true p323
           replace q323 := eq_true q323
           obtain ⟨ad324, e324, hx324_0, p324, q324⟩ := ai_ (Kd.R_reads' HO_9.out).2.2 x12_2
           obtain rfl : ad321 = ad324 := (by injection e324)
           have p325 : 0 ≤ ((rd x9_1 x12_2) : Int) := od_
           have q325 : (rd x9_1 x12_2) < ((rd_L2 l0 x12_2).length : Int) := od_
           obtain ⟨ad325, e325, hx325_0, hx325_1⟩ := at_T51 HR323_0.out (rd x9_1 x12_2) p325 q325
           have hw325_1 := hx325_1
           have hw325_0 := hx325_0
           cases e325
           replace hx325_0 := hc_ HB hx325_0
           replace hx325_1 := hc_ HB hx325_1
           replace p325 := eq_true p325
           replace q325 := eq_true q325
           refine start_ (n := 12) (S := fun w' => w'.cell? (ad322.add (x12_2).toNat) = some (.slice (some ad325) (rd_L2 l0 x12_2).length c323_0) ∧ w'.cell? (ad321.add (x12_2).toNat) = some (.int .i64 (rd x9_1 x12_2)) ∧ w'.cell? (ad325.add (((rd x9_1 x12_2)).toNat * 2)) = some (.int .i64 ((rd_T51 (rd_L2 l0 x12_2) (rd x9_1 x12_2)).f0)) ∧ w'.cell? ⟨(ad325.add (((rd x9_1 x12_2)).toNat * 2)).block, (ad325.add (((rd x9_1 x12_2)).toNat * 2)).off + 1, none⟩ = some (.int .i64 ((rd_T51 (rd_L2 l0 x12_2) (rd x9_1 x12_2)).f1))) (ds := []) #[false, false, false, false, false, false, false, false, false, false, false, false] (by kernel_rfl) rfl rfl ⟨(hc_ HB hw323_0), hx324_0, (hc_ HB hw325_0), (hc_ HB hw325_1)⟩ (fun hHeld => ?_); refine with_tabW trishawref01_goes.tab10 trishawref01_goes.bits10 (fun HT_ HW_ => ?_)
           generalize w28.drew = w30 at HO_9 HB HR323_0 hx323_0 hx324_0 hx325_0 hx325_1 hHeld ⊢
           refine pu_ 0 39 HT_.out (h := ?_)
           refine pu_ 1 40 HT_.out (h := ?_)
           refine pu_ 2 41 HT_.out (h := ?_)
           refine pu_ 4 43 HT_.out (h := ?_)
           refine pu_ 5 44 HT_.out (h := ?_)
           refine pu_ 6 45 HT_.out (h := ?_)
           refine ta_ 3 42 HT_.out HW_.out hHeld (h := ?_)
           refine ta_ 7 46 HT_.out HW_.out hHeld (h := ?_)
           refine pu_ 8 47 HT_.out (h := ?_)
           refine ta_ 9 48 HT_.out HW_.out hHeld (h := ?_)
           refine one_ (i := 10) (N := some 13) #[true, true, true, true, true, true, true, true, true, true, true, false] rfl rfl (one_of HT_.out (by kernel_rfl)) (by decide) (fun K hK => ?_)
           refine box_step ?hg (N := 13) ?hd (cs := #[.int .i64 0, .int .i64 0]) (t := 51) ?hr ?_; (case hd => rfl); (case hg => rfl); (case hr => first | (go_simp; done) | (go_simp; rfl))
           intro gb326 hg w31 hbox hb
           have HS1_ := (hb.cell (World.block_lt_of_cell? _ _ (hHeld.2.1))).trans (hHeld.2.1)
           replace HO_9 := rb_ HO_9 hb
           have BK326 := Aside0.mk (hbox)
           have GW326 := gw_ hg
           have GE326 := gw_ hg
           replace HB := hb_ hb
           clear hb hbox hg
           refine hK.out _ _ ⟨(hc_ HB hw323_0), HS1_, (hc_ HB hw325_0), (hc_ HB hw325_1)⟩ (fun hHeld => ?_)
           clear hK K
           refine np_ 13 (h := ?_)
           refine one_ (i := 11) (N := none) #[true, true, true, true, true, true, true, true, true, true, true, true] rfl rfl (one_of HT_.out (by kernel_rfl)) (by decide) (fun K hK => ?_)
           have hs32 : w31.cell? ⟨gb326, 0, none⟩ = some (.int .i64 0) := (blk_cell BK326.out 0).trans rfl
           have hfs32 := bz_ BK326 0
           have hs33 : w31.cell? ⟨gb326, 1, none⟩ = some (.int .i64 0) := (blk_cell BK326.out 1).trans rfl
           have hfs33 := bz_ BK326 1
           refine skip_ (w1 := ?_) (by rfl) rfl ?_ ?_
           rotate_left
           ·go_simp
            rfl
           refine hK.out _ _ ⟨((cell_far (p := ⟨gb326, _, none⟩) (nf_ hw323_0 GW326.out) _).trans (((cell_far (p := ⟨gb326, _, none⟩) (nf_ hw323_0 GW326.out) _).trans (hHeld.1)))), ((cell_far (p := ⟨gb326, _, none⟩) (by first | exact Kd.own_blk (Kd.R_ne HO_9.out BK326.out (by decide)) | (rw [add_block]; exact Kd.own_blk (Kd.R_ne HO_9.out BK326.out (by decide))) | (show (Addr.add _ _).block ≠ _; rw [add_block]; exact Kd.own_blk (Kd.R_ne HO_9.out BK326.out (by decide))) | (dsimp only; exact Kd.own_blk (Kd.R_ne HO_9.out BK326.out (by decide)))) _).trans (((cell_far (p := ⟨gb326, _, none⟩) (by first | exact Kd.own_blk (Kd.R_ne HO_9.out BK326.out (by decide)) | (rw [add_block]; exact Kd.own_blk (Kd.R_ne HO_9.out BK326.out (by decide))) | (show (Addr.add _ _).block ≠ _; rw [add_block]; exact Kd.own_blk (Kd.R_ne HO_9.out BK326.out (by decide))) | (dsimp only; exact Kd.own_blk (Kd.R_ne HO_9.out BK326.out (by decide)))) _).trans (hHeld.2.1)))), ((cell_far (p := ⟨gb326, _, none⟩) (nf_ hw325_0 GW326.out) _).trans (((cell_far (p := ⟨gb326, _, none⟩) (nf_ hw325_0 GW326.out) _).trans (hHeld.2.2.1)))), ((cell_far (p := ⟨gb326, _, none⟩) (nf_ hw325_1 GW326.out) _).trans (((cell_far (p := ⟨gb326, _, none⟩) (nf_ hw325_1 GW326.out) _).trans (hHeld.2.2.2))))⟩ (fun hHeld => ?_)
           clear hK K
           refine done_ (done_of HT_.out (by kernel_rfl)) ?_
           have hcz34_0 := bc_ BK326 0 (.int .i64 0)
           have hcz34_1 := bc_ BK326 1 (.int .i64 0)
           have hfz34_0 := bz_ BK326 0
           have hfz34_1 := bz_ BK326 1
           try go_wp2
           have n0_ : Aside0 (Kd.R (Kd.int .i64) 3 ((w31.setCell ⟨gb326, 0, none⟩ (.int .i64 ((rd_T51 (rd_L2 l0 x12_2) (rd x9_1 x12_2)).f0))).setCell ⟨gb326, 1, none⟩ (.int .i64 ((rd_T51 (rd_L2 l0 x12_2) (rd x9_1 x12_2)).f1))) w.heap.size (fun _ => True) (.slice (some ad321) x9_1.length co29) x9_1) := ⟨by refine kr_ ?_; exact Kd.R_mono (Kd.R_far (p := ⟨gb326, 1, none⟩) (Kd.R_far (p := ⟨gb326, 0, none⟩) (Kd.R_types HO_9.out BK326.out (by decide)) (fun _ hk => hk.2) (.int .i64 ((rd_T51 (rd_L2 l0 x12_2) (rd x9_1 x12_2)).f0))) (fun _ hk => hk.2) (.int .i64 ((rd_T51 (rd_L2 l0 x12_2) (rd x9_1 x12_2)).f1))) (fun _ hk => trivial)⟩
           have n1_ : Aside0 (((w31.setCell ⟨gb326, 0, none⟩ (.int .i64 ((rd_T51 (rd_L2 l0 x12_2) (rd x9_1 x12_2)).f0))).setCell ⟨gb326, 1, none⟩ (.int .i64 ((rd_T51 (rd_L2 l0 x12_2) (rd x9_1 x12_2)).f1))).heap[gb326]? = some (.cells #[.int .i64 ((rd_T51 (rd_L2 l0 x12_2) (rd x9_1 x12_2)).f0), .int .i64 ((rd_T51 (rd_L2 l0 x12_2) (rd x9_1 x12_2)).f1)] 51 (0, 0))) := ⟨by refine bk_ ?_; refine blk_put (cs := #[.int .i64 ((rd_T51 (rd_L2 l0 x12_2) (rd x9_1 x12_2)).f0), .int .i64 0]) ?_ 1 _ rfl; refine bk_ ?_; refine blk_put (cs := #[.int .i64 0, .int .i64 0]) ?_ 0 _ rfl; refine bk_ ?_; exact BK326.out⟩
           have n2_ : Aside0 (Below w.heap.size w ((w31.setCell ⟨gb326, 0, none⟩ (.int .i64 ((rd_T51 (rd_L2 l0 x12_2) (rd x9_1 x12_2)).f0))).setCell ⟨gb326, 1, none⟩ (.int .i64 ((rd_T51 (rd_L2 l0 x12_2) (rd x9_1 x12_2)).f1)))) := ⟨bl_⟩
           (try clear HO_9)
           (try clear BK326)
           (try clear HB)
           generalize ((w31.setCell ⟨gb326, 0, none⟩ (.int .i64 ((rd_T51 (rd_L2 l0 x12_2) (rd x9_1 x12_2)).f0))).setCell ⟨gb326, 1, none⟩ (.int .i64 ((rd_T51 (rd_L2 l0 x12_2) (rd x9_1 x12_2)).f1))) = w35 at n0_ n1_ n2_ ⊢
           have HO_9 := n0_
           have BK326 := n1_
           have HB := n2_
           clear n0_ n1_ n2_
           replace HO_9 := Aside0.mk (Kd.R_drew HO_9.out)
           replace BK326 := Aside0.mk (blk_drew BK326.out)
           replace HB := Aside0.mk (below_drew1 HB.out)
           refine start_ (n := 24) (S := fun w' => w'.cell? ⟨gb326, 0, none⟩ = some (.int .i64 ((rd_T51 (rd_L2 l0 x12_2) (rd x9_1 x12_2)).f0)) ∧ w'.cell? ⟨gb326, 1, none⟩ = some (.int .i64 ((rd_T51 (rd_L2 l0 x12_2) (rd x9_1 x12_2)).f1))) (ds := []) #[false, false, false, false, false, false, false, false, false, false, false, false, false, false, false, false, false, false, false, false, false, false, false, false] (by kernel_rfl) rfl rfl ⟨(blk_cell BK326.out 0).trans rfl, (blk_cell BK326.out 1).trans rfl⟩ (fun hHeld => ?_); refine with_tabW trishawref01_goes.tab13 trishawref01_goes.bits13 (fun HT_ HW_ => ?_)
           generalize w35.drew = w36 at HO_9 BK326 HB hHeld ⊢
           refine pu_ 0 53 HT_.out (h := ?_)
           refine pu_ 2 55 HT_.out (h := ?_)
           refine ta_ 1 54 HT_.out HW_.out hHeld (h := ?_)
           refine pu_ 3 56 HT_.out (h := ?_)
           refine pu_ 4 57 HT_.out (h := ?_)
           refine pu_ 5 58 HT_.out (h := ?_)
           refine pu_ 6 59 HT_.out (h := ?_)
           refine pu_ 7 60 HT_.out (h := ?_)
           refine pn_ 8 61 HT_.out (h := ?_)
           refine pn_ 9 62 HT_.out (h := ?_)
           refine pn_ 10 63 HT_.out (h := ?_)
           refine pn_ 11 64 HT_.out (h := ?_)
           refine pn_ 12 65 HT_.out (h := ?_)
           refine pn_ 13 66 HT_.out (h := ?_)
           refine pn_ 14 67 HT_.out (h := ?_)
           refine pn_ 15 68 HT_.out (h := ?_)
           refine pn_ 16 69 HT_.out (h := ?_)
           refine pn_ 17 70 HT_.out (h := ?_)
           refine pn_ 18 71 HT_.out (h := ?_)
           refine pn_ 19 72 HT_.out (h := ?_)
           refine pn_ 20 73 HT_.out (h := ?_)
           refine pn_ 21 74 HT_.out (h := ?_)
           refine pu_ 22 75 HT_.out (h := ?_)
           refine pu_ 23 76 HT_.out (h := ?_)
           refine done_ (done_of HT_.out (by kernel_rfl)) ?_
           try go_wp2
           go_roundg k2
           case measure => have := HK1.out; have := HK2.out; omega
           case rel => exact ⟨(x12_2), (wrap64 (x12_2 + 1)), rs_, rs_, H', ⟨by have := HK1.out; have := HK2.out; omega⟩, ⟨kr_ HO_9.out⟩, ⟨bl_⟩⟩
          ·rw [if_neg c27] at H
           have c27b0 : decide (x11_2 < 0) = false := decide_eq_false c27
           clear c27
           obtain ⟨c37b0, H⟩ := fp_ H
           obtain ⟨c38b0, H⟩ := fp_ H
           obtain ⟨c39b0, H⟩ := fp_ H
           obtain ⟨c40b0, H⟩ := fp_ H
           obtain ⟨c41b0, H⟩ := fp_ H
           by_cases c42 : ((rd_T51 (rd_L2 l0 x12_2) (rd x9_1 x12_2)).f1) < ((rd_T51 (rd_L2 l0 x11_2) (rd x9_1 x11_2)).f1)
           ·rw [if_pos c42] at H
            have c42b0 : decide (((rd_T51 (rd_L2 l0 x12_2) (rd x9_1 x12_2)).f1) < ((rd_T51 (rd_L2 l0 x11_2) (rd x9_1 x11_2)).f1)) = true := decide_eq_true c42
            clear c42
            have H' := Aside0.mk H
            clear H
            try go_wp2
            replace HO_9 := Aside0.mk (Kd.R_drew HO_9.out)
            replace HB := Aside0.mk (below_drew1 HB.out)
            obtain ⟨Ao44, co44, eo44⟩ := Kd.R_slice HO_9.out
            (first | subst eo44 | (injection eo44 with f1_ f2_ f3_; have f4_ := f1_.symm; have f5_ := f3_.symm; clear f1_ f2_ f3_; subst f4_; subst f5_))
            obtain ⟨ad321, e321, hx321_0, p321, q321⟩ := ai_ (Kd.R_reads' HO_9.out).2.2 x12_2
            cases e321
            have p322 : 0 ≤ (x12_2 : Int) := od_
            have q322 : x12_2 < (l0.length : Int) := od_
            obtain ⟨ad322, A322_0, c322_0, e322, hx322_0, hl322_0, hi322_0⟩ := at_L2 HR0.out x12_2 p322 q322
            have hw322_0 := hx322_0
            cases e322
            replace hx322_0 := hc_ HB hx322_0
            have HR322_0 := Aside0.mk hi322_0
            have HC322_0 := Aside0.mk hl322_0
            clear hi322_0 hl322_0
            replace p322 := eq_true p322
            replace q322 := eq_true q322
            refine start_ (n := 10) (S := fun w' => w'.cell? (ad321.add (x12_2).toNat) = some (.int .i64 (rd x9_1 x12_2)) ∧ w'.cell? (ad322.add (x12_2).toNat) = some (.slice A322_0 (rd_L2 l0 x12_2).length c322_0)) (ds := []) #[false, false, false, false, false, false, false, false, false, false] (by kernel_rfl) rfl rfl ⟨hx321_0, (hc_ HB hw322_0)⟩ (fun hHeld => ?_); refine with_tabW trishawref01_goes.tab9 trishawref01_goes.bits9 (fun HT_ HW_ => ?_)
            generalize wr.drew = w43 at HO_9 HB HR322_0 hx321_0 hx322_0 hHeld ⊢
            refine pu_ 0 29 HT_.out (h := ?_)
            refine pu_ 1 30 HT_.out (h := ?_)
            refine pu_ 2 31 HT_.out (h := ?_)
            refine pu_ 4 33 HT_.out (h := ?_)
            refine pu_ 5 34 HT_.out (h := ?_)
            refine pu_ 6 35 HT_.out (h := ?_)
            refine ta_ 3 32 HT_.out HW_.out hHeld (h := ?_)
            refine ta_ 7 36 HT_.out HW_.out hHeld (h := ?_)
            refine pu_ 8 37 HT_.out (h := ?_)
            refine pu_ 9 38 HT_.out (h := ?_)
            refine done_ (done_of HT_.out (by kernel_rfl)) ?_
            try go_wp2
            replace HO_9 := Aside0.mk (Kd.R_drew HO_9.out)
            replace HB := Aside0.mk (below_drew1 HB.out)
            have p323 : 0 ≤ (x12_2 : Int) := od_
            have q323 : x12_2 < (l0.length : Int) := od_
            obtain ⟨ad323, A323_0, c323_0, e323, hx323_0, hl323_0, hi323_0⟩ := at_L2 HR0.out x12_2 p323 q323
            have hw323_0 := hx323_0
            obtain rfl : ad322 = ad323 := (by injection e323)
            replace hx323_0 := hc_ HB hx323_0
            have HR323_0 := Aside0.mk hi323_0
            have HC323_0 := Aside0.mk hl323_0
            clear hi323_0 hl323_0
            replace p323 := eq_true p323
            replace q323 := eq_true q323
            obtain ⟨ad324, e324, hx324_0, p324, q324⟩ := ai_ (Kd.R_reads' HO_9.out).2.2 x12_2
            obtain rfl : ad321 = ad324 := (by injection e324)
            have p325 : 0 ≤ ((rd x9_1 x12_2) : Int) := od_
            have q325 : (rd x9_1 x12_2) < ((rd_L2 l0 x12_2).length : Int) := od_
            obtain ⟨ad325, e325, hx325_0, hx325_1⟩ := at_T51 HR323_0.out (rd x9_1 x12_2) p325 q325
            have hw325_1 := hx325_1
            have hw325_0 := hx325_0
            cases e325
            replace hx325_0 := hc_ HB hx325_0
            replace hx325_1 := hc_ HB hx325_1
            replace p325 := eq_true p325
            replace q325 := eq_true q325
            refine start_ (n := 12) (S := fun w' => w'.cell? (ad322.add (x12_2).toNat) = some (.slice (some ad325) (rd_L2 l0 x12_2).length c323_0) ∧ w'.cell? (ad321.add (x12_2).toNat) = some (.int .i64 (rd x9_1 x12_2)) ∧ w'.cell? (ad325.add (((rd x9_1 x12_2)).toNat * 2)) = some (.int .i64 ((rd_T51 (rd_L2 l0 x12_2) (rd x9_1 x12_2)).f0)) ∧ w'.cell? ⟨(ad325.add (((rd x9_1 x12_2)).toNat * 2)).block, (ad325.add (((rd x9_1 x12_2)).toNat * 2)).off + 1, none⟩ = some (.int .i64 ((rd_T51 (rd_L2 l0 x12_2) (rd x9_1 x12_2)).f1))) (ds := []) #[false, false, false, false, false, false, false, false, false, false, false, false] (by kernel_rfl) rfl rfl ⟨(hc_ HB hw323_0), hx324_0, (hc_ HB hw325_0), (hc_ HB hw325_1)⟩ (fun hHeld => ?_); refine with_tabW trishawref01_goes.tab10 trishawref01_goes.bits10 (fun HT_ HW_ => ?_)
            generalize w43.drew = w45 at HO_9 HB HR323_0 hx323_0 hx324_0 hx325_0 hx325_1 hHeld ⊢
            refine pu_ 0 39 HT_.out (h := ?_)
            refine pu_ 1 40 HT_.out (h := ?_)
            refine pu_ 2 41 HT_.out (h := ?_)
            refine pu_ 4 43 HT_.out (h := ?_)
            refine pu_ 5 44 HT_.out (h := ?_)
            refine pu_ 6 45 HT_.out (h := ?_)
            refine ta_ 3 42 HT_.out HW_.out hHeld (h := ?_)
            refine ta_ 7 46 HT_.out HW_.out hHeld (h := ?_)
            refine pu_ 8 47 HT_.out (h := ?_)
            refine ta_ 9 48 HT_.out HW_.out hHeld (h := ?_)
            refine one_ (i := 10) (N := some 13) #[true, true, true, true, true, true, true, true, true, true, true, false] rfl rfl (one_of HT_.out (by kernel_rfl)) (by decide) (fun K hK => ?_)
            refine box_step ?hg (N := 13) ?hd (cs := #[.int .i64 0, .int .i64 0]) (t := 51) ?hr ?_; (case hd => rfl); (case hg => rfl); (case hr => first | (go_simp; done) | (go_simp; rfl))
            intro gb326 hg w46 hbox hb
            have HS1_ := (hb.cell (World.block_lt_of_cell? _ _ (hHeld.2.1))).trans (hHeld.2.1)
            replace HO_9 := rb_ HO_9 hb
            have BK326 := Aside0.mk (hbox)
            have GW326 := gw_ hg
            have GE326 := gw_ hg
            replace HB := hb_ hb
            clear hb hbox hg
            refine hK.out _ _ ⟨(hc_ HB hw323_0), HS1_, (hc_ HB hw325_0), (hc_ HB hw325_1)⟩ (fun hHeld => ?_)
            clear hK K
            refine np_ 13 (h := ?_)
            refine one_ (i := 11) (N := none) #[true, true, true, true, true, true, true, true, true, true, true, true] rfl rfl (one_of HT_.out (by kernel_rfl)) (by decide) (fun K hK => ?_)
            have hs47 : w46.cell? ⟨gb326, 0, none⟩ = some (.int .i64 0) := (blk_cell BK326.out 0).trans rfl
            have hfs47 := bz_ BK326 0
            have hs48 : w46.cell? ⟨gb326, 1, none⟩ = some (.int .i64 0) := (blk_cell BK326.out 1).trans rfl
            have hfs48 := bz_ BK326 1
            refine skip_ (w1 := ?_) (by rfl) rfl ?_ ?_
            rotate_left
            ·go_simp
             rfl
            refine hK.out _ _ ⟨((cell_far (p := ⟨gb326, _, none⟩) (nf_ hw323_0 GW326.out) _).trans (((cell_far (p := ⟨gb326, _, none⟩) (nf_ hw323_0 GW326.out) _).trans (hHeld.1)))), ((cell_far (p := ⟨gb326, _, none⟩) (by first | exact Kd.own_blk (Kd.R_ne HO_9.out BK326.out (by decide)) | (rw [add_block]; exact Kd.own_blk (Kd.R_ne HO_9.out BK326.out (by decide))) | (show (Addr.add _ _).block ≠ _; rw [add_block]; exact Kd.own_blk (Kd.R_ne HO_9.out BK326.out (by decide))) | (dsimp only; exact Kd.own_blk (Kd.R_ne HO_9.out BK326.out (by decide)))) _).trans (((cell_far (p := ⟨gb326, _, none⟩) (by first | exact Kd.own_blk (Kd.R_ne HO_9.out BK326.out (by decide)) | (rw [add_block]; exact Kd.own_blk (Kd.R_ne HO_9.out BK326.out (by decide))) | (show (Addr.add _ _).block ≠ _; rw [add_block]; exact Kd.own_blk (Kd.R_ne HO_9.out BK326.out (by decide))) | (dsimp only; exact Kd.own_blk (Kd.R_ne HO_9.out BK326.out (by decide)))) _).trans (hHeld.2.1)))), ((cell_far (p := ⟨gb326, _, none⟩) (nf_ hw325_0 GW326.out) _).trans (((cell_far (p := ⟨gb326, _, none⟩) (nf_ hw325_0 GW326.out) _).trans (hHeld.2.2.1)))), ((cell_far (p := ⟨gb326, _, none⟩) (nf_ hw325_1 GW326.out) _).trans (((cell_far (p := ⟨gb326, _, none⟩) (nf_ hw325_1 GW326.out) _).trans (hHeld.2.2.2))))⟩ (fun hHeld => ?_)
            clear hK K
            refine done_ (done_of HT_.out (by kernel_rfl)) ?_
            have hcz49_0 := bc_ BK326 0 (.int .i64 0)
            have hcz49_1 := bc_ BK326 1 (.int .i64 0)
            have hfz49_0 := bz_ BK326 0
            have hfz49_1 := bz_ BK326 1
            try go_wp2
            have n0_ : Aside0 (Kd.R (Kd.int .i64) 3 ((w46.setCell ⟨gb326, 0, none⟩ (.int .i64 ((rd_T51 (rd_L2 l0 x12_2) (rd x9_1 x12_2)).f0))).setCell ⟨gb326, 1, none⟩ (.int .i64 ((rd_T51 (rd_L2 l0 x12_2) (rd x9_1 x12_2)).f1))) w.heap.size (fun _ => True) (.slice (some ad321) x9_1.length co44) x9_1) := ⟨by refine kr_ ?_; exact Kd.R_mono (Kd.R_far (p := ⟨gb326, 1, none⟩) (Kd.R_far (p := ⟨gb326, 0, none⟩) (Kd.R_types HO_9.out BK326.out (by decide)) (fun _ hk => hk.2) (.int .i64 ((rd_T51 (rd_L2 l0 x12_2) (rd x9_1 x12_2)).f0))) (fun _ hk => hk.2) (.int .i64 ((rd_T51 (rd_L2 l0 x12_2) (rd x9_1 x12_2)).f1))) (fun _ hk => trivial)⟩
            have n1_ : Aside0 (((w46.setCell ⟨gb326, 0, none⟩ (.int .i64 ((rd_T51 (rd_L2 l0 x12_2) (rd x9_1 x12_2)).f0))).setCell ⟨gb326, 1, none⟩ (.int .i64 ((rd_T51 (rd_L2 l0 x12_2) (rd x9_1 x12_2)).f1))).heap[gb326]? = some (.cells #[.int .i64 ((rd_T51 (rd_L2 l0 x12_2) (rd x9_1 x12_2)).f0), .int .i64 ((rd_T51 (rd_L2 l0 x12_2) (rd x9_1 x12_2)).f1)] 51 (0, 0))) := ⟨by refine bk_ ?_; refine blk_put (cs := #[.int .i64 ((rd_T51 (rd_L2 l0 x12_2) (rd x9_1 x12_2)).f0), .int .i64 0]) ?_ 1 _ rfl; refine bk_ ?_; refine blk_put (cs := #[.int .i64 0, .int .i64 0]) ?_ 0 _ rfl; refine bk_ ?_; exact BK326.out⟩
            have n2_ : Aside0 (Below w.heap.size w ((w46.setCell ⟨gb326, 0, none⟩ (.int .i64 ((rd_T51 (rd_L2 l0 x12_2) (rd x9_1 x12_2)).f0))).setCell ⟨gb326, 1, none⟩ (.int .i64 ((rd_T51 (rd_L2 l0 x12_2) (rd x9_1 x12_2)).f1)))) := ⟨bl_⟩
            (try clear HO_9)
            (try clear BK326)
            (try clear HB)
            generalize ((w46.setCell ⟨gb326, 0, none⟩ (.int .i64 ((rd_T51 (rd_L2 l0 x12_2) (rd x9_1 x12_2)).f0))).setCell ⟨gb326, 1, none⟩ (.int .i64 ((rd_T51 (rd_L2 l0 x12_2) (rd x9_1 x12_2)).f1))) = w50 at n0_ n1_ n2_ ⊢
            have HO_9 := n0_
            have BK326 := n1_
            have HB := n2_
            clear n0_ n1_ n2_
            replace HO_9 := Aside0.mk (Kd.R_drew HO_9.out)
            replace BK326 := Aside0.mk (blk_drew BK326.out)
            replace HB := Aside0.mk (below_drew1 HB.out)
            have p327 : 0 ≤ (x11_2 : Int) := od_
            have q327 : x11_2 < (l0.length : Int) := od_
            obtain ⟨ad327, A327_0, c327_0, e327, hx327_0, hl327_0, hi327_0⟩ := at_L2 HR0.out x11_2 p327 q327
            have hw327_0 := hx327_0
            obtain rfl : ad322 = ad327 := (by injection e327)
            replace hx327_0 := hc_ HB hx327_0
            have HR327_0 := Aside0.mk hi327_0
            have HC327_0 := Aside0.mk hl327_0
            clear hi327_0 hl327_0
            replace p327 := eq_true p327
            replace q327 := eq_true q327
            obtain ⟨ad328, e328, hx328_0, p328, q328⟩ := ai_ (Kd.R_reads' HO_9.out).2.2 x11_2
            obtain rfl : ad321 = ad328 := (by injection e328)
            have p329 : 0 ≤ ((rd x9_1 x11_2) : Int) := od_
            have q329 : (rd x9_1 x11_2) < ((rd_L2 l0 x11_2).length : Int) := od_
            obtain ⟨ad329, e329, hx329_0, hx329_1⟩ := at_T51 HR327_0.out (rd x9_1 x11_2) p329 q329
            have hw329_1 := hx329_1
            have hw329_0 := hx329_0
            cases e329
            replace hx329_0 := hc_ HB hx329_0
            replace hx329_1 := hc_ HB hx329_1
            replace p329 := eq_true p329
            replace q329 := eq_true q329
            refine start_ (n := 24) (S := fun w' => w'.cell? ⟨gb326, 0, none⟩ = some (.int .i64 ((rd_T51 (rd_L2 l0 x12_2) (rd x9_1 x12_2)).f0)) ∧ w'.cell? ⟨gb326, 1, none⟩ = some (.int .i64 ((rd_T51 (rd_L2 l0 x12_2) (rd x9_1 x12_2)).f1)) ∧ w'.cell? (ad322.add (x11_2).toNat) = some (.slice (some ad329) (rd_L2 l0 x11_2).length c327_0) ∧ w'.cell? (ad321.add (x11_2).toNat) = some (.int .i64 (rd x9_1 x11_2)) ∧ w'.cell? (ad329.add (((rd x9_1 x11_2)).toNat * 2)) = some (.int .i64 ((rd_T51 (rd_L2 l0 x11_2) (rd x9_1 x11_2)).f0)) ∧ w'.cell? ⟨(ad329.add (((rd x9_1 x11_2)).toNat * 2)).block, (ad329.add (((rd x9_1 x11_2)).toNat * 2)).off + 1, none⟩ = some (.int .i64 ((rd_T51 (rd_L2 l0 x11_2) (rd x9_1 x11_2)).f1))) (ds := []) #[false, false, false, false, false, false, false, false, false, false, false, false, false, false, false, false, false, false, false, false, false, false, false, false] (by kernel_rfl) rfl rfl ⟨(blk_cell BK326.out 0).trans rfl, (blk_cell BK326.out 1).trans rfl, (hc_ HB hw327_0), hx328_0, (hc_ HB hw329_0), (hc_ HB hw329_1)⟩ (fun hHeld => ?_); refine with_tabW trishawref01_goes.tab13 trishawref01_goes.bits13 (fun HT_ HW_ => ?_)
            generalize w50.drew = w51 at HO_9 BK326 HB HR327_0 hx327_0 hx328_0 hx329_0 hx329_1 hHeld ⊢
            refine pu_ 0 53 HT_.out (h := ?_)
            refine pu_ 2 55 HT_.out (h := ?_)
            refine ta_ 1 54 HT_.out HW_.out hHeld (h := ?_)
            refine pu_ 3 56 HT_.out (h := ?_)
            refine pu_ 4 57 HT_.out (h := ?_)
            refine pu_ 5 58 HT_.out (h := ?_)
            refine pu_ 6 59 HT_.out (h := ?_)
            refine pu_ 7 60 HT_.out (h := ?_)
            refine pu_ 8 61 HT_.out (h := ?_)
            refine pu_ 10 63 HT_.out (h := ?_)
            refine pu_ 11 64 HT_.out (h := ?_)
            refine pu_ 12 65 HT_.out (h := ?_)
            refine pu_ 14 67 HT_.out (h := ?_)
            refine pu_ 15 68 HT_.out (h := ?_)
            refine pu_ 16 69 HT_.out (h := ?_)
            refine ta_ 9 62 HT_.out HW_.out hHeld (h := ?_)
            refine ta_ 13 66 HT_.out HW_.out hHeld (h := ?_)
            refine ta_ 17 70 HT_.out HW_.out hHeld (h := ?_)
            refine pu_ 18 71 HT_.out (h := ?_)
            refine pu_ 19 72 HT_.out (h := ?_)
            refine ta_ 20 73 HT_.out HW_.out hHeld (h := ?_)
            refine pu_ 21 74 HT_.out (h := ?_)
            refine pu_ 22 75 HT_.out (h := ?_)
            refine pu_ 23 76 HT_.out (h := ?_)
            refine done_ (done_of HT_.out (by kernel_rfl)) ?_
            try go_wp2
            go_roundg k2
            case measure => have := HK1.out; have := HK2.out; omega
            case rel => exact ⟨(x12_2), (wrap64 (x12_2 + 1)), rs_, rs_, H', ⟨by have := HK1.out; have := HK2.out; omega⟩, ⟨kr_ HO_9.out⟩, ⟨bl_⟩⟩
           ·rw [if_neg c42] at H
            have c42b0 : decide (((rd_T51 (rd_L2 l0 x12_2) (rd x9_1 x12_2)).f1) < ((rd_T51 (rd_L2 l0 x11_2) (rd x9_1 x11_2)).f1)) = false := decide_eq_false c42
            clear c42
            have H' := Aside0.mk H
            clear H
            try go_wp2
            replace HO_9 := Aside0.mk (Kd.R_drew HO_9.out)
            replace HB := Aside0.mk (below_drew1 HB.out)
            obtain ⟨Ao53, co53, eo53⟩ := Kd.R_slice HO_9.out
            (first | subst eo53 | (injection eo53 with f1_ f2_ f3_; have f4_ := f1_.symm; have f5_ := f3_.symm; clear f1_ f2_ f3_; subst f4_; subst f5_))
            obtain ⟨ad321, e321, hx321_0, p321, q321⟩ := ai_ (Kd.R_reads' HO_9.out).2.2 x12_2
            cases e321
            have p322 : 0 ≤ (x12_2 : Int) := od_
            have q322 : x12_2 < (l0.length : Int) := od_
            obtain ⟨ad322, A322_0, c322_0, e322, hx322_0, hl322_0, hi322_0⟩ := at_L2 HR0.out x12_2 p322 q322
            have hw322_0 := hx322_0
            cases e322
            replace hx322_0 := hc_ HB hx322_0
            have HR322_0 := Aside0.mk hi322_0
            have HC322_0 := Aside0.mk hl322_0
            clear hi322_0 hl322_0
            replace p322 := eq_true p322
            replace q322 := eq_true q322
            refine start_ (n := 10) (S := fun w' => w'.cell? (ad321.add (x12_2).toNat) = some (.int .i64 (rd x9_1 x12_2)) ∧ w'.cell? (ad322.add (x12_2).toNat) = some (.slice A322_0 (rd_L2 l0 x12_2).length c322_0)) (ds := []) #[false, false, false, false, false, false, false, false, false, false] (by kernel_rfl) rfl rfl ⟨hx321_0, (hc_ HB hw322_0)⟩ (fun hHeld => ?_); refine with_tabW trishawref01_goes.tab9 trishawref01_goes.bits9 (fun HT_ HW_ => ?_)
            generalize wr.drew = w52 at HO_9 HB HR322_0 hx321_0 hx322_0 hHeld ⊢
            refine pu_ 0 29 HT_.out (h := ?_)
            refine pu_ 1 30 HT_.out (h := ?_)
            refine pu_ 2 31 HT_.out (h := ?_)
            refine pu_ 4 33 HT_.out (h := ?_)
            refine pu_ 5 34 HT_.out (h := ?_)
            refine pu_ 6 35 HT_.out (h := ?_)
            refine ta_ 3 32 HT_.out HW_.out hHeld (h := ?_)
            refine ta_ 7 36 HT_.out HW_.out hHeld (h := ?_)
            refine pu_ 8 37 HT_.out (h := ?_)
            refine pu_ 9 38 HT_.out (h := ?_)
            refine done_ (done_of HT_.out (by kernel_rfl)) ?_
            try go_wp2
            replace HO_9 := Aside0.mk (Kd.R_drew HO_9.out)
            replace HB := Aside0.mk (below_drew1 HB.out)
            have p323 : 0 ≤ (x12_2 : Int) := od_
            have q323 : x12_2 < (l0.length : Int) := od_
            obtain ⟨ad323, A323_0, c323_0, e323, hx323_0, hl323_0, hi323_0⟩ := at_L2 HR0.out x12_2 p323 q323
            have hw323_0 := hx323_0
            obtain rfl : ad322 = ad323 := (by injection e323)
            replace hx323_0 := hc_ HB hx323_0
            have HR323_0 := Aside0.mk hi323_0
            have HC323_0 := Aside0.mk hl323_0
            clear hi323_0 hl323_0
            replace p323 := eq_true p323
            replace q323 := eq_true q323
            obtain ⟨ad324, e324, hx324_0, p324, q324⟩ := ai_ (Kd.R_reads' HO_9.out).2.2 x12_2
            obtain rfl : ad321 = ad324 := (by injection e324)
            have p325 : 0 ≤ ((rd x9_1 x12_2) : Int) := od_
            have q325 : (rd x9_1 x12_2) < ((rd_L2 l0 x12_2).length : Int) := od_
            obtain ⟨ad325, e325, hx325_0, hx325_1⟩ := at_T51 HR323_0.out (rd x9_1 x12_2) p325 q325
            have hw325_1 := hx325_1
            have hw325_0 := hx325_0
            cases e325
            replace hx325_0 := hc_ HB hx325_0
            replace hx325_1 := hc_ HB hx325_1
            replace p325 := eq_true p325
            replace q325 := eq_true q325
            refine start_ (n := 12) (S := fun w' => w'.cell? (ad322.add (x12_2).toNat) = some (.slice (some ad325) (rd_L2 l0 x12_2).length c323_0) ∧ w'.cell? (ad321.add (x12_2).toNat) = some (.int .i64 (rd x9_1 x12_2)) ∧ w'.cell? (ad325.add (((rd x9_1 x12_2)).toNat * 2)) = some (.int .i64 ((rd_T51 (rd_L2 l0 x12_2) (rd x9_1 x12_2)).f0)) ∧ w'.cell? ⟨(ad325.add (((rd x9_1 x12_2)).toNat * 2)).block, (ad325.add (((rd x9_1 x12_2)).toNat * 2)).off + 1, none⟩ = some (.int .i64 ((rd_T51 (rd_L2 l0 x12_2) (rd x9_1 x12_2)).f1))) (ds := []) #[false, false, false, false, false, false, false, false, false, false, false, false] (by kernel_rfl) rfl rfl ⟨(hc_ HB hw323_0), hx324_0, (hc_ HB hw325_0), (hc_ HB hw325_1)⟩ (fun hHeld => ?_); refine with_tabW trishawref01_goes.tab10 trishawref01_goes.bits10 (fun HT_ HW_ => ?_)
            generalize w52.drew = w54 at HO_9 HB HR323_0 hx323_0 hx324_0 hx325_0 hx325_1 hHeld ⊢
            refine pu_ 0 39 HT_.out (h := ?_)
            refine pu_ 1 40 HT_.out (h := ?_)
            refine pu_ 2 41 HT_.out (h := ?_)
            refine pu_ 4 43 HT_.out (h := ?_)
            refine pu_ 5 44 HT_.out (h := ?_)
            refine pu_ 6 45 HT_.out (h := ?_)
            refine ta_ 3 42 HT_.out HW_.out hHeld (h := ?_)
            refine ta_ 7 46 HT_.out HW_.out hHeld (h := ?_)
            refine pu_ 8 47 HT_.out (h := ?_)
            refine ta_ 9 48 HT_.out HW_.out hHeld (h := ?_)
            refine one_ (i := 10) (N := some 13) #[true, true, true, true, true, true, true, true, true, true, true, false] rfl rfl (one_of HT_.out (by kernel_rfl)) (by decide) (fun K hK => ?_)
            refine box_step ?hg (N := 13) ?hd (cs := #[.int .i64 0, .int .i64 0]) (t := 51) ?hr ?_; (case hd => rfl); (case hg => rfl); (case hr => first | (go_simp; done) | (go_simp; rfl))
            intro gb326 hg w55 hbox hb
            have HS1_ := (hb.cell (World.block_lt_of_cell? _ _ (hHeld.2.1))).trans (hHeld.2.1)
            replace HO_9 := rb_ HO_9 hb
            have BK326 := Aside0.mk (hbox)
            have GW326 := gw_ hg
            have GE326 := gw_ hg
            replace HB := hb_ hb
            clear hb hbox hg
            refine hK.out _ _ ⟨(hc_ HB hw323_0), HS1_, (hc_ HB hw325_0), (hc_ HB hw325_1)⟩ (fun hHeld => ?_)
            clear hK K
            refine np_ 13 (h := ?_)
            refine one_ (i := 11) (N := none) #[true, true, true, true, true, true, true, true, true, true, true, true] rfl rfl (one_of HT_.out (by kernel_rfl)) (by decide) (fun K hK => ?_)
            have hs56 : w55.cell? ⟨gb326, 0, none⟩ = some (.int .i64 0) := (blk_cell BK326.out 0).trans rfl
            have hfs56 := bz_ BK326 0
            have hs57 : w55.cell? ⟨gb326, 1, none⟩ = some (.int .i64 0) := (blk_cell BK326.out 1).trans rfl
            have hfs57 := bz_ BK326 1
            refine skip_ (w1 := ?_) (by rfl) rfl ?_ ?_
            rotate_left
            ·go_simp
             rfl
            refine hK.out _ _ ⟨((cell_far (p := ⟨gb326, _, none⟩) (nf_ hw323_0 GW326.out) _).trans (((cell_far (p := ⟨gb326, _, none⟩) (nf_ hw323_0 GW326.out) _).trans (hHeld.1)))), ((cell_far (p := ⟨gb326, _, none⟩) (by first | exact Kd.own_blk (Kd.R_ne HO_9.out BK326.out (by decide)) | (rw [add_block]; exact Kd.own_blk (Kd.R_ne HO_9.out BK326.out (by decide))) | (show (Addr.add _ _).block ≠ _; rw [add_block]; exact Kd.own_blk (Kd.R_ne HO_9.out BK326.out (by decide))) | (dsimp only; exact Kd.own_blk (Kd.R_ne HO_9.out BK326.out (by decide)))) _).trans (((cell_far (p := ⟨gb326, _, none⟩) (by first | exact Kd.own_blk (Kd.R_ne HO_9.out BK326.out (by decide)) | (rw [add_block]; exact Kd.own_blk (Kd.R_ne HO_9.out BK326.out (by decide))) | (show (Addr.add _ _).block ≠ _; rw [add_block]; exact Kd.own_blk (Kd.R_ne HO_9.out BK326.out (by decide))) | (dsimp only; exact Kd.own_blk (Kd.R_ne HO_9.out BK326.out (by decide)))) _).trans (hHeld.2.1)))), ((cell_far (p := ⟨gb326, _, none⟩) (nf_ hw325_0 GW326.out) _).trans (((cell_far (p := ⟨gb326, _, none⟩) (nf_ hw325_0 GW326.out) _).trans (hHeld.2.2.1)))), ((cell_far (p := ⟨gb326, _, none⟩) (nf_ hw325_1 GW326.out) _).trans (((cell_far (p := ⟨gb326, _, none⟩) (nf_ hw325_1 GW326.out) _).trans (hHeld.2.2.2))))⟩ (fun hHeld => ?_)
            clear hK K
            refine done_ (done_of HT_.out (by kernel_rfl)) ?_
            have hcz58_0 := bc_ BK326 0 (.int .i64 0)
            have hcz58_1 := bc_ BK326 1 (.int .i64 0)
            have hfz58_0 := bz_ BK326 0
            have hfz58_1 := bz_ BK326 1
            try go_wp2
            have n0_ : Aside0 (Kd.R (Kd.int .i64) 3 ((w55.setCell ⟨gb326, 0, none⟩ (.int .i64 ((rd_T51 (rd_L2 l0 x12_2) (rd x9_1 x12_2)).f0))).setCell ⟨gb326, 1, none⟩ (.int .i64 ((rd_T51 (rd_L2 l0 x12_2) (rd x9_1 x12_2)).f1))) w.heap.size (fun _ => True) (.slice (some ad321) x9_1.length co53) x9_1) := ⟨by refine kr_ ?_; exact Kd.R_mono (Kd.R_far (p := ⟨gb326, 1, none⟩) (Kd.R_far (p := ⟨gb326, 0, none⟩) (Kd.R_types HO_9.out BK326.out (by decide)) (fun _ hk => hk.2) (.int .i64 ((rd_T51 (rd_L2 l0 x12_2) (rd x9_1 x12_2)).f0))) (fun _ hk => hk.2) (.int .i64 ((rd_T51 (rd_L2 l0 x12_2) (rd x9_1 x12_2)).f1))) (fun _ hk => trivial)⟩
            have n1_ : Aside0 (((w55.setCell ⟨gb326, 0, none⟩ (.int .i64 ((rd_T51 (rd_L2 l0 x12_2) (rd x9_1 x12_2)).f0))).setCell ⟨gb326, 1, none⟩ (.int .i64 ((rd_T51 (rd_L2 l0 x12_2) (rd x9_1 x12_2)).f1))).heap[gb326]? = some (.cells #[.int .i64 ((rd_T51 (rd_L2 l0 x12_2) (rd x9_1 x12_2)).f0), .int .i64 ((rd_T51 (rd_L2 l0 x12_2) (rd x9_1 x12_2)).f1)] 51 (0, 0))) := ⟨by refine bk_ ?_; refine blk_put (cs := #[.int .i64 ((rd_T51 (rd_L2 l0 x12_2) (rd x9_1 x12_2)).f0), .int .i64 0]) ?_ 1 _ rfl; refine bk_ ?_; refine blk_put (cs := #[.int .i64 0, .int .i64 0]) ?_ 0 _ rfl; refine bk_ ?_; exact BK326.out⟩
            have n2_ : Aside0 (Below w.heap.size w ((w55.setCell ⟨gb326, 0, none⟩ (.int .i64 ((rd_T51 (rd_L2 l0 x12_2) (rd x9_1 x12_2)).f0))).setCell ⟨gb326, 1, none⟩ (.int .i64 ((rd_T51 (rd_L2 l0 x12_2) (rd x9_1 x12_2)).f1)))) := ⟨bl_⟩
            (try clear HO_9)
            (try clear BK326)
            (try clear HB)
            generalize ((w55.setCell ⟨gb326, 0, none⟩ (.int .i64 ((rd_T51 (rd_L2 l0 x12_2) (rd x9_1 x12_2)).f0))).setCell ⟨gb326, 1, none⟩ (.int .i64 ((rd_T51 (rd_L2 l0 x12_2) (rd x9_1 x12_2)).f1))) = w59 at n0_ n1_ n2_ ⊢
            have HO_9 := n0_
            have BK326 := n1_
            have HB := n2_
            clear n0_ n1_ n2_
            replace HO_9 := Aside0.mk (Kd.R_drew HO_9.out)
            replace BK326 := Aside0.mk (blk_drew BK326.out)
            replace HB := Aside0.mk (below_drew1 HB.out)
            have p327 : 0 ≤ (x11_2 : Int) := od_
            have q327 : x11_2 < (l0.length : Int) := od_
            obtain ⟨ad327, A327_0, c327_0, e327, hx327_0, hl327_0, hi327_0⟩ := at_L2 HR0.out x11_2 p327 q327
            have hw327_0 := hx327_0
            obtain rfl : ad322 = ad327 := (by injection e327)
            replace hx327_0 := hc_ HB hx327_0
            have HR327_0 := Aside0.mk hi327_0
            have HC327_0 := Aside0.mk hl327_0
            clear hi327_0 hl327_0
            replace p327 := eq_true p327
            replace q327 := eq_true q327
            obtain ⟨ad328, e328, hx328_0, p328, q328⟩ := ai_ (Kd.R_reads' HO_9.out).2.2 x11_2
            obtain rfl : ad321 = ad328 := (by injection e328)
            have p329 : 0 ≤ ((rd x9_1 x11_2) : Int) := od_
            have q329 : (rd x9_1 x11_2) < ((rd_L2 l0 x11_2).length : Int) := od_
            obtain ⟨ad329, e329, hx329_0, hx329_1⟩ := at_T51 HR327_0.out (rd x9_1 x11_2) p329 q329
            have hw329_1 := hx329_1
            have hw329_0 := hx329_0
            cases e329
            replace hx329_0 := hc_ HB hx329_0
            replace hx329_1 := hc_ HB hx329_1
            replace p329 := eq_true p329
            replace q329 := eq_true q329
            refine start_ (n := 24) (S := fun w' => w'.cell? ⟨gb326, 0, none⟩ = some (.int .i64 ((rd_T51 (rd_L2 l0 x12_2) (rd x9_1 x12_2)).f0)) ∧ w'.cell? ⟨gb326, 1, none⟩ = some (.int .i64 ((rd_T51 (rd_L2 l0 x12_2) (rd x9_1 x12_2)).f1)) ∧ w'.cell? (ad322.add (x11_2).toNat) = some (.slice (some ad329) (rd_L2 l0 x11_2).length c327_0) ∧ w'.cell? (ad321.add (x11_2).toNat) = some (.int .i64 (rd x9_1 x11_2)) ∧ w'.cell? (ad329.add (((rd x9_1 x11_2)).toNat * 2)) = some (.int .i64 ((rd_T51 (rd_L2 l0 x11_2) (rd x9_1 x11_2)).f0)) ∧ w'.cell? ⟨(ad329.add (((rd x9_1 x11_2)).toNat * 2)).block, (ad329.add (((rd x9_1 x11_2)).toNat * 2)).off + 1, none⟩ = some (.int .i64 ((rd_T51 (rd_L2 l0 x11_2) (rd x9_1 x11_2)).f1))) (ds := []) #[false, false, false, false, false, false, false, false, false, false, false, false, false, false, false, false, false, false, false, false, false, false, false, false] (by kernel_rfl) rfl rfl ⟨(blk_cell BK326.out 0).trans rfl, (blk_cell BK326.out 1).trans rfl, (hc_ HB hw327_0), hx328_0, (hc_ HB hw329_0), (hc_ HB hw329_1)⟩ (fun hHeld => ?_); refine with_tabW trishawref01_goes.tab13 trishawref01_goes.bits13 (fun HT_ HW_ => ?_)
            generalize w59.drew = w60 at HO_9 BK326 HB HR327_0 hx327_0 hx328_0 hx329_0 hx329_1 hHeld ⊢
            refine pu_ 0 53 HT_.out (h := ?_)
            refine pu_ 2 55 HT_.out (h := ?_)
            refine ta_ 1 54 HT_.out HW_.out hHeld (h := ?_)
            refine pu_ 3 56 HT_.out (h := ?_)
            refine pu_ 4 57 HT_.out (h := ?_)
            refine pu_ 5 58 HT_.out (h := ?_)
            refine pu_ 6 59 HT_.out (h := ?_)
            refine pu_ 7 60 HT_.out (h := ?_)
            refine pu_ 8 61 HT_.out (h := ?_)
            refine pu_ 10 63 HT_.out (h := ?_)
            refine pu_ 11 64 HT_.out (h := ?_)
            refine pu_ 12 65 HT_.out (h := ?_)
            refine pu_ 14 67 HT_.out (h := ?_)
            refine pu_ 15 68 HT_.out (h := ?_)
            refine pu_ 16 69 HT_.out (h := ?_)
            refine ta_ 9 62 HT_.out HW_.out hHeld (h := ?_)
            refine ta_ 13 66 HT_.out HW_.out hHeld (h := ?_)
            refine ta_ 17 70 HT_.out HW_.out hHeld (h := ?_)
            refine pu_ 18 71 HT_.out (h := ?_)
            refine pu_ 19 72 HT_.out (h := ?_)
            refine ta_ 20 73 HT_.out HW_.out hHeld (h := ?_)
            refine pu_ 21 74 HT_.out (h := ?_)
            refine pu_ 22 75 HT_.out (h := ?_)
            refine pu_ 23 76 HT_.out (h := ?_)
            refine done_ (done_of HT_.out (by kernel_rfl)) ?_
            try go_wp2
            go_roundg k2
            case measure => have := HK1.out; have := HK2.out; omega
            case rel => exact ⟨(x11_2), (wrap64 (x12_2 + 1)), rs_, rs_, H', ⟨by have := HK1.out; have := HK2.out; omega⟩, ⟨kr_ HO_9.out⟩, ⟨bl_⟩⟩
         ·rw [if_neg c26] at H
          have c26b0 : decide (((rd_T51 (rd_L2 l0 x12_2) (rd x9_1 x12_2)).f0) ≤ x10_1) = false := decide_eq_false c26
          clear c26
          have H' := Aside0.mk H
          clear H
          try go_wp2
          replace HO_9 := Aside0.mk (Kd.R_drew HO_9.out)
          replace HB := Aside0.mk (below_drew1 HB.out)
          obtain ⟨Ao62, co62, eo62⟩ := Kd.R_slice HO_9.out
          (first | subst eo62 | (injection eo62 with f1_ f2_ f3_; have f4_ := f1_.symm; have f5_ := f3_.symm; clear f1_ f2_ f3_; subst f4_; subst f5_))
          obtain ⟨ad321, e321, hx321_0, p321, q321⟩ := ai_ (Kd.R_reads' HO_9.out).2.2 x12_2
          cases e321
          have p322 : 0 ≤ (x12_2 : Int) := od_
          have q322 : x12_2 < (l0.length : Int) := od_
          obtain ⟨ad322, A322_0, c322_0, e322, hx322_0, hl322_0, hi322_0⟩ := at_L2 HR0.out x12_2 p322 q322
          have hw322_0 := hx322_0
          cases e322
          replace hx322_0 := hc_ HB hx322_0
          have HR322_0 := Aside0.mk hi322_0
          have HC322_0 := Aside0.mk hl322_0
          clear hi322_0 hl322_0
          replace p322 := eq_true p322
          replace q322 := eq_true q322
          refine start_ (n := 10) (S := fun w' => w'.cell? (ad321.add (x12_2).toNat) = some (.int .i64 (rd x9_1 x12_2)) ∧ w'.cell? (ad322.add (x12_2).toNat) = some (.slice A322_0 (rd_L2 l0 x12_2).length c322_0)) (ds := []) #[false, false, false, false, false, false, false, false, false, false] (by kernel_rfl) rfl rfl ⟨hx321_0, (hc_ HB hw322_0)⟩ (fun hHeld => ?_); refine with_tabW trishawref01_goes.tab9 trishawref01_goes.bits9 (fun HT_ HW_ => ?_)
          generalize wr.drew = w61 at HO_9 HB HR322_0 hx321_0 hx322_0 hHeld ⊢
          refine pu_ 0 29 HT_.out (h := ?_)
          refine pu_ 1 30 HT_.out (h := ?_)
          refine pu_ 2 31 HT_.out (h := ?_)
          refine pu_ 4 33 HT_.out (h := ?_)
          refine pu_ 5 34 HT_.out (h := ?_)
          refine pu_ 6 35 HT_.out (h := ?_)
          refine ta_ 3 32 HT_.out HW_.out hHeld (h := ?_)
          refine ta_ 7 36 HT_.out HW_.out hHeld (h := ?_)
          refine pu_ 8 37 HT_.out (h := ?_)
          refine pu_ 9 38 HT_.out (h := ?_)
          refine done_ (done_of HT_.out (by kernel_rfl)) ?_
          try go_wp2
          replace HO_9 := Aside0.mk (Kd.R_drew HO_9.out)
          replace HB := Aside0.mk (below_drew1 HB.out)
          have p323 : 0 ≤ (x12_2 : Int) := od_
          have q323 : x12_2 < (l0.length : Int) := od_
          obtain ⟨ad323, A323_0, c323_0, e323, hx323_0, hl323_0, hi323_0⟩ := at_L2 HR0.out x12_2 p323 q323
          have hw323_0 := hx323_0
          obtain rfl : ad322 = ad323 := (by injection e323)
          replace hx323_0 := hc_ HB hx323_0
          have HR323_0 := Aside0.mk hi323_0
          have HC323_0 := Aside0.mk hl323_0
          clear hi323_0 hl323_0
          replace p323 := eq_true p323
          replace q323 := eq_true q323
          obtain ⟨ad324, e324, hx324_0, p324, q324⟩ := ai_ (Kd.R_reads' HO_9.out).2.2 x12_2
          obtain rfl : ad321 = ad324 := (by injection e324)
          have p325 : 0 ≤ ((rd x9_1 x12_2) : Int) := od_
          have q325 : (rd x9_1 x12_2) < ((rd_L2 l0 x12_2).length : Int) := od_
          obtain ⟨ad325, e325, hx325_0, hx325_1⟩ := at_T51 HR323_0.out (rd x9_1 x12_2) p325 q325
          have hw325_1 := hx325_1
          have hw325_0 := hx325_0
          cases e325
          replace hx325_0 := hc_ HB hx325_0
          replace hx325_1 := hc_ HB hx325_1
          replace p325 := eq_true p325
          replace q325 := eq_true q325
          refine start_ (n := 12) (S := fun w' => w'.cell? (ad322.add (x12_2).toNat) = some (.slice (some ad325) (rd_L2 l0 x12_2).length c323_0) ∧ w'.cell? (ad321.add (x12_2).toNat) = some (.int .i64 (rd x9_1 x12_2)) ∧ w'.cell? (ad325.add (((rd x9_1 x12_2)).toNat * 2)) = some (.int .i64 ((rd_T51 (rd_L2 l0 x12_2) (rd x9_1 x12_2)).f0)) ∧ w'.cell? ⟨(ad325.add (((rd x9_1 x12_2)).toNat * 2)).block, (ad325.add (((rd x9_1 x12_2)).toNat * 2)).off + 1, none⟩ = some (.int .i64 ((rd_T51 (rd_L2 l0 x12_2) (rd x9_1 x12_2)).f1))) (ds := []) #[false, false, false, false, false, false, false, false, false, false, false, false] (by kernel_rfl) rfl rfl ⟨(hc_ HB hw323_0), hx324_0, (hc_ HB hw325_0), (hc_ HB hw325_1)⟩ (fun hHeld => ?_); refine with_tabW trishawref01_goes.tab10 trishawref01_goes.bits10 (fun HT_ HW_ => ?_)
          generalize w61.drew = w63 at HO_9 HB HR323_0 hx323_0 hx324_0 hx325_0 hx325_1 hHeld ⊢
          refine pu_ 0 39 HT_.out (h := ?_)
          refine pu_ 1 40 HT_.out (h := ?_)
          refine pu_ 2 41 HT_.out (h := ?_)
          refine pu_ 4 43 HT_.out (h := ?_)
          refine pu_ 5 44 HT_.out (h := ?_)
          refine pu_ 6 45 HT_.out (h := ?_)
          refine ta_ 3 42 HT_.out HW_.out hHeld (h := ?_)
          refine ta_ 7 46 HT_.out HW_.out hHeld (h := ?_)
          refine pu_ 8 47 HT_.out (h := ?_)
          refine ta_ 9 48 HT_.out HW_.out hHeld (h := ?_)
          refine one_ (i := 10) (N := some 13) #[true, true, true, true, true, true, true, true, true, true, true, false] rfl rfl (one_of HT_.out (by kernel_rfl)) (by decide) (fun K hK => ?_)
          refine box_step ?hg (N := 13) ?hd (cs := #[.int .i64 0, .int .i64 0]) (t := 51) ?hr ?_; (case hd => rfl); (case hg => rfl); (case hr => first | (go_simp; done) | (go_simp; rfl))
          intro gb326 hg w64 hbox hb
          have HS1_ := (hb.cell (World.block_lt_of_cell? _ _ (hHeld.2.1))).trans (hHeld.2.1)
          replace HO_9 := rb_ HO_9 hb
          have BK326 := Aside0.mk (hbox)
          have GW326 := gw_ hg
          have GE326 := gw_ hg
          replace HB := hb_ hb
          clear hb hbox hg
          refine hK.out _ _ ⟨(hc_ HB hw323_0), HS1_, (hc_ HB hw325_0), (hc_ HB hw325_1)⟩ (fun hHeld => ?_)
          clear hK K
          refine np_ 13 (h := ?_)
          refine one_ (i := 11) (N := none) #[true, true, true, true, true, true, true, true, true, true, true, true] rfl rfl (one_of HT_.out (by kernel_rfl)) (by decide) (fun K hK => ?_)
          have hs65 : w64.cell? ⟨gb326, 0, none⟩ = some (.int .i64 0) := (blk_cell BK326.out 0).trans rfl
          have hfs65 := bz_ BK326 0
          have hs66 : w64.cell? ⟨gb326, 1, none⟩ = some (.int .i64 0) := (blk_cell BK326.out 1).trans rfl
          have hfs66 := bz_ BK326 1
          refine skip_ (w1 := ?_) (by rfl) rfl ?_ ?_
          rotate_left
          ·go_simp
           rfl
          refine hK.out _ _ ⟨((cell_far (p := ⟨gb326, _, none⟩) (nf_ hw323_0 GW326.out) _).trans (((cell_far (p := ⟨gb326, _, none⟩) (nf_ hw323_0 GW326.out) _).trans (hHeld.1)))), ((cell_far (p := ⟨gb326, _, none⟩) (by first | exact Kd.own_blk (Kd.R_ne HO_9.out BK326.out (by decide)) | (rw [add_block]; exact Kd.own_blk (Kd.R_ne HO_9.out BK326.out (by decide))) | (show (Addr.add _ _).block ≠ _; rw [add_block]; exact Kd.own_blk (Kd.R_ne HO_9.out BK326.out (by decide))) | (dsimp only; exact Kd.own_blk (Kd.R_ne HO_9.out BK326.out (by decide)))) _).trans (((cell_far (p := ⟨gb326, _, none⟩) (by first | exact Kd.own_blk (Kd.R_ne HO_9.out BK326.out (by decide)) | (rw [add_block]; exact Kd.own_blk (Kd.R_ne HO_9.out BK326.out (by decide))) | (show (Addr.add _ _).block ≠ _; rw [add_block]; exact Kd.own_blk (Kd.R_ne HO_9.out BK326.out (by decide))) | (dsimp only; exact Kd.own_blk (Kd.R_ne HO_9.out BK326.out (by decide)))) _).trans (hHeld.2.1)))), ((cell_far (p := ⟨gb326, _, none⟩) (nf_ hw325_0 GW326.out) _).trans (((cell_far (p := ⟨gb326, _, none⟩) (nf_ hw325_0 GW326.out) _).trans (hHeld.2.2.1)))), ((cell_far (p := ⟨gb326, _, none⟩) (nf_ hw325_1 GW326.out) _).trans (((cell_far (p := ⟨gb326, _, none⟩) (nf_ hw325_1 GW326.out) _).trans (hHeld.2.2.2))))⟩ (fun hHeld => ?_)
          clear hK K
          refine done_ (done_of HT_.out (by kernel_rfl)) ?_
          have hcz67_0 := bc_ BK326 0 (.int .i64 0)
          have hcz67_1 := bc_ BK326 1 (.int .i64 0)
          have hfz67_0 := bz_ BK326 0
          have hfz67_1 := bz_ BK326 1
          try go_wp2
          have n0_ : Aside0 (Kd.R (Kd.int .i64) 3 ((w64.setCell ⟨gb326, 0, none⟩ (.int .i64 ((rd_T51 (rd_L2 l0 x12_2) (rd x9_1 x12_2)).f0))).setCell ⟨gb326, 1, none⟩ (.int .i64 ((rd_T51 (rd_L2 l0 x12_2) (rd x9_1 x12_2)).f1))) w.heap.size (fun _ => True) (.slice (some ad321) x9_1.length co62) x9_1) := ⟨by refine kr_ ?_; exact Kd.R_mono (Kd.R_far (p := ⟨gb326, 1, none⟩) (Kd.R_far (p := ⟨gb326, 0, none⟩) (Kd.R_types HO_9.out BK326.out (by decide)) (fun _ hk => hk.2) (.int .i64 ((rd_T51 (rd_L2 l0 x12_2) (rd x9_1 x12_2)).f0))) (fun _ hk => hk.2) (.int .i64 ((rd_T51 (rd_L2 l0 x12_2) (rd x9_1 x12_2)).f1))) (fun _ hk => trivial)⟩
          have n1_ : Aside0 (((w64.setCell ⟨gb326, 0, none⟩ (.int .i64 ((rd_T51 (rd_L2 l0 x12_2) (rd x9_1 x12_2)).f0))).setCell ⟨gb326, 1, none⟩ (.int .i64 ((rd_T51 (rd_L2 l0 x12_2) (rd x9_1 x12_2)).f1))).heap[gb326]? = some (.cells #[.int .i64 ((rd_T51 (rd_L2 l0 x12_2) (rd x9_1 x12_2)).f0), .int .i64 ((rd_T51 (rd_L2 l0 x12_2) (rd x9_1 x12_2)).f1)] 51 (0, 0))) := ⟨by refine bk_ ?_; refine blk_put (cs := #[.int .i64 ((rd_T51 (rd_L2 l0 x12_2) (rd x9_1 x12_2)).f0), .int .i64 0]) ?_ 1 _ rfl; refine bk_ ?_; refine blk_put (cs := #[.int .i64 0, .int .i64 0]) ?_ 0 _ rfl; refine bk_ ?_; exact BK326.out⟩
          have n2_ : Aside0 (Below w.heap.size w ((w64.setCell ⟨gb326, 0, none⟩ (.int .i64 ((rd_T51 (rd_L2 l0 x12_2) (rd x9_1 x12_2)).f0))).setCell ⟨gb326, 1, none⟩ (.int .i64 ((rd_T51 (rd_L2 l0 x12_2) (rd x9_1 x12_2)).f1)))) := ⟨bl_⟩
          (try clear HO_9)
          (try clear BK326)
          (try clear HB)
          generalize ((w64.setCell ⟨gb326, 0, none⟩ (.int .i64 ((rd_T51 (rd_L2 l0 x12_2) (rd x9_1 x12_2)).f0))).setCell ⟨gb326, 1, none⟩ (.int .i64 ((rd_T51 (rd_L2 l0 x12_2) (rd x9_1 x12_2)).f1))) = w68 at n0_ n1_ n2_ ⊢
          have HO_9 := n0_
          have BK326 := n1_
          have HB := n2_
          clear n0_ n1_ n2_
          replace HO_9 := Aside0.mk (Kd.R_drew HO_9.out)
          replace BK326 := Aside0.mk (blk_drew BK326.out)
          replace HB := Aside0.mk (below_drew1 HB.out)
          refine start_ (n := 24) (S := fun w' => w'.cell? ⟨gb326, 0, none⟩ = some (.int .i64 ((rd_T51 (rd_L2 l0 x12_2) (rd x9_1 x12_2)).f0)) ∧ w'.cell? ⟨gb326, 1, none⟩ = some (.int .i64 ((rd_T51 (rd_L2 l0 x12_2) (rd x9_1 x12_2)).f1))) (ds := []) #[false, false, false, false, false, false, false, false, false, false, false, false, false, false, false, false, false, false, false, false, false, false, false, false] (by kernel_rfl) rfl rfl ⟨(blk_cell BK326.out 0).trans rfl, (blk_cell BK326.out 1).trans rfl⟩ (fun hHeld => ?_); refine with_tabW trishawref01_goes.tab13 trishawref01_goes.bits13 (fun HT_ HW_ => ?_)
          generalize w68.drew = w69 at HO_9 BK326 HB hHeld ⊢
          refine pu_ 0 53 HT_.out (h := ?_)
          refine pu_ 2 55 HT_.out (h := ?_)
          refine ta_ 1 54 HT_.out HW_.out hHeld (h := ?_)
          refine pu_ 3 56 HT_.out (h := ?_)
          refine pu_ 4 57 HT_.out (h := ?_)
          refine pn_ 5 58 HT_.out (h := ?_)
          refine pn_ 6 59 HT_.out (h := ?_)
          refine pn_ 7 60 HT_.out (h := ?_)
          refine pn_ 8 61 HT_.out (h := ?_)
          refine pn_ 9 62 HT_.out (h := ?_)
          refine pn_ 10 63 HT_.out (h := ?_)
          refine pn_ 11 64 HT_.out (h := ?_)
          refine pn_ 12 65 HT_.out (h := ?_)
          refine pn_ 13 66 HT_.out (h := ?_)
          refine pn_ 14 67 HT_.out (h := ?_)
          refine pn_ 15 68 HT_.out (h := ?_)
          refine pn_ 16 69 HT_.out (h := ?_)
          refine pn_ 17 70 HT_.out (h := ?_)
          refine pn_ 18 71 HT_.out (h := ?_)
          refine pn_ 19 72 HT_.out (h := ?_)
          refine pn_ 20 73 HT_.out (h := ?_)
          refine pn_ 21 74 HT_.out (h := ?_)
          refine pn_ 22 75 HT_.out (h := ?_)
          refine pu_ 23 76 HT_.out (h := ?_)
          refine done_ (done_of HT_.out (by kernel_rfl)) ?_
          try go_wp2
          go_roundg k2
          case measure => have := HK1.out; have := HK2.out; omega
          case rel => exact ⟨(x11_2), (wrap64 (x12_2 + 1)), rs_, rs_, H', ⟨by have := HK1.out; have := HK2.out; omega⟩, ⟨kr_ HO_9.out⟩, ⟨bl_⟩⟩
      ·rw [if_neg c10] at H
       have c10b0 : decide (x12_2 < (l0.length : Int)) = false := decide_eq_false c10
       clear c10
       by_cases c70 : x11_2 < 0
       ·rw [if_pos c70] at H
        have c70b0 : decide (x11_2 < 0) = true := decide_eq_true c70
        clear c70
        obtain rfl := Option.some.inj H
        go_wp2
        go_ret
        exact ⟨er_, bl_⟩
       ·rw [if_neg c70] at H
        have c70b0 : decide (x11_2 < 0) = false := decide_eq_false c70
        clear c70
        obtain ⟨c71b0, H⟩ := fp_ H
        obtain ⟨c72b0, H⟩ := fp_ H
        obtain ⟨y320, hy320⟩ : ∃ y_ : List Int, y_ = (x9_1.set (x11_2 : Int).toNat (wrap64 ((rd x9_1 x11_2) + 1))) := ⟨_, rfl⟩
        replace H : (trishawref01_goes.l0 k2 l0 a3 y320 (wrap64 (x10_1 + 1))) = some r := by first | (rw [hy320]; with_reducible exact H) | (have H2_ := (Option.bind_some _ _).symm.trans H; rw [hy320]; with_reducible exact H2_) | (have H2_ := (Option.bind_some _ _).symm.trans H; with_reducible exact H2_) | with_reducible exact H | (rw [hy320]; exact H) | exact H
        have Ny320 := Aside0.mk hy320
        clear hy320
        have H' := Aside0.mk H
        clear H
        obtain ⟨Ao74, co74, eo74⟩ := Kd.R_slice HO_9.out
        subst eo74
        obtain ⟨ad319, e319, hx319_0, p319, q319⟩ := ai_ (Kd.R_reads' HO_9.out).2.2 x11_2
        cases e319
        have p73 : 0 ≤ (x11_2 : Int) := od_
        have q73 : (x11_2 : Int) < ((x9_1.length : Int) : Int) := od_
        obtain ⟨go73, co73, eo73, gb73, gl73, cl73, HG73⟩ := Kd.R_form HO_9.out (by omega)
        (first | cases eo73 | (injection eo73 with ea_ en_ ec_; (first | subst ea_ | (injection ea_ with ea_; subst ea_)); subst ec_; clear en_))
        have GB73 := Aside0.mk gb73
        have GG73 := Aside0.mk HG73
        clear gb73 gl73 HG73
        (first | simp only [add_plain] at hx319_0 | skip)
        obtain ⟨hx73_0, hf73_0⟩ := Kd.R_celln 0 HO_9.out (x11_2 : Int) p73 q73
        replace p73 := eq_true p73
        replace q73 := eq_true q73
        have HP75 := Kd.R_putg HO_9.out (x11_2 : Int) (wrap64 ((rd x9_1 x11_2) + 1))
        go_wp2_with (first | ((with_reducible refine gate_store (t := 3) (p := 85) rfl ?_); refine store_event (t := 3) (p := 85) (v := ?vo_w76) (w1 := (wr.setCell ⟨go73, (x11_2 : Int).toNat, none⟩ (.int .i64 (wrap64 ((rd x9_1 x11_2) + 1))))) ?hg ?ho ?hn ?hr ?_; (case ho => rfl); (case hg => rfl); (case hn => rfl); (case hr => first | (go_simp; done) | (go_simp; rfl)); intro w76 hw; have hg : wr.grownBy w76 (some go73) := (by rw [hw]; exact HP75.2); have hp_ : Kd.R (Kd.int .i64) 3 w76 w.heap.size (fun _ => True) (.slice (some ⟨go73, 0, none⟩) x9_1.length co74) y320 := (by rw [hw, Ny320.out]; exact HP75.1); clear HP75; replace HO_9 := Aside0.mk (hp_); replace HB := Aside0.mk ((by rw [hw]; exact below_set (HB.out) GB73.out : Below w.heap.size w w76)); clear hg hw hp_))
        go_roundg k2
        case measure => have := HK1.out; have := HK2.out; omega
        case rel => exact ⟨(y320), (wrap64 (x10_1 + 1)), rs_, H', ⟨by have := HK1.out; have := HK2.out; omega⟩, ⟨kr_ HO_9.out⟩, ⟨bl_⟩⟩
   ·rw [if_neg c9] at H
    have c9b0 : decide (x10_1 < a3) = false := decide_eq_false c9
    clear c9
    obtain rfl := Option.some.inj H
    go_wp2
    go_ret
    exact ⟨er_, bl_⟩

end Go.Proofs.YtgobffgogmnmpaaDoor.P
