-- Written by wip/tools/myprint.py of this session's repo, over the kit's printer and hand texts.
import Derived.Test.YtgobffgogmnmpaaDoorPx0
import Derived.Test.YtgobffgogmnmpaaDoorPre
import Derived.Test.YtgobffgogmnmpaaDoorPx37
import Derived.Test.YtgobffgogmnmpaaDoorPx38
namespace Go.Proofs.YtgobffgogmnmpaaDoor.P
open Go.RowKit Go.Proofs.YtgobffgogmnmpaaDoorW.PrintWords Go.Proofs.YtgobffgogmnmpaaDoorW.PrintLast Go.Proofs.YtgobffgogmnmpaaDoorW.PrintMore
attribute [local go_sem] max2_int min2_int max_two min_two max_three min_three max_four min_four   -- for this text's walks alone
set_option linter.unusedVariables false
set_option linter.unusedSimpArgs false

/-! ### trishawref01_scaled: function 65 -/
def trishawref01_scaled.f (k : Nat) (a0_0 : Int) (a0_1 : Int) (a1 : Int) : Option (Int) := (trishawref01_Of.f k a0_0).bind fun bt1042 => ((trishawref01_Of.f k a1).bind fun bt1046 => ((trishawref01_Times.f k bt1042.1 bt1042.2 bt1046.1 bt1046.2).bind fun bt1050 => ((trishawref01_Of.f k a0_1).bind fun bt1054 => ((trishawref01_Over.f k bt1050.1 bt1050.2 bt1054.1 bt1054.2).bind fun bt1058 => ((trishawref01_Within.f k bt1058.1 bt1058.2.1 a1).bind fun bt1068 => (some bt1068.1))))))
def trishawref01_scaled.T1 : Bool × List (List Nat × List Nat) := (true, [([], []), ([0], [0]), ([1], [1]), ([], []), ([3, 2], [3]), ([2, 4, 4], [2, 4]), ([], []), ([6], [6]), ([7, 5], [7]), ([5, 8, 8], [5, 8]), ([9], [9]), ([10], [10]), ([10], [10]), ([], []), ([], []), ([13, 11, 9, 0, 1, 2, 3, 4, 5, 6, 7, 8, 9, 10, 11, 13, 14], [11, 13]), ([14, 12, 15, 0, 1, 2, 3, 4, 5, 6, 7, 8, 9, 10, 11, 12, 13, 14, 15], [12, 14])])
def trishawref01_scaled.B1 : List Nat := [0, 1, 3, 0, 15, 31, 0, 64, 255, 511, 1023, 2047, 2047, 0, 0, 28671, 65535]
theorem trishawref01_scaled.tab1 : rtab .any (opsOf Tryd.f65 1) = trishawref01_scaled.T1 := by kernel_rfl
theorem trishawref01_scaled.bits1 : waitsOk trishawref01_scaled.T1.2 trishawref01_scaled.B1 = true := by kernel_rfl
set_option maxHeartbeats 8000000 in
set_option maxRecDepth 100000 in
theorem trishawref01_scaled.calls (k : Nat) (a0_0 : Int) (a0_1 : Int) (a1 : Int) (r : Int) (w : World) (h : trishawref01_scaled.f k a0_0 a0_1 a1 = some r) :
    Calls Tryd.prog 65 #[.agg #[.int .i64 a0_0, .int .i64 a0_1], .int .i64 a1] w fun e w' => e = .returned (.int .i64 r) ∧ Below w.heap.size w w' := by
 have hu26 := Tryd.underlying26
 have hu91 := Tryd.underlying91
 have HB := Aside0.mk (Below.refl w.heap.size w)
 have H : ((trishawref01_Of.f k a0_0).bind fun bt1042 => ((trishawref01_Of.f k a1).bind fun bt1046 => ((trishawref01_Times.f k bt1042.1 bt1042.2 bt1046.1 bt1046.2).bind fun bt1050 => ((trishawref01_Of.f k a0_1).bind fun bt1054 => ((trishawref01_Over.f k bt1050.1 bt1050.2 bt1054.1 bt1054.2).bind fun bt1058 => ((trishawref01_Within.f k bt1058.1 bt1058.2.1 a1).bind fun bt1068 => (some bt1068.1))))))) = some r := h
 clear h
 obtain ⟨⟨t1042, t1043⟩, A3, H⟩ := bi_ H
 replace H : ((trishawref01_Of.f k a1).bind fun bt1046 => ((trishawref01_Times.f k t1042 t1043 bt1046.1 bt1046.2).bind fun bt1050 => ((trishawref01_Of.f k a0_1).bind fun bt1054 => ((trishawref01_Over.f k bt1050.1 bt1050.2 bt1054.1 bt1054.2).bind fun bt1058 => ((trishawref01_Within.f k bt1058.1 bt1058.2.1 a1).bind fun bt1068 => (some bt1068.1)))))) = some r := H
 obtain ⟨⟨t1046, t1047⟩, A4, H⟩ := bi_ H
 replace H : ((trishawref01_Times.f k t1042 t1043 t1046 t1047).bind fun bt1050 => ((trishawref01_Of.f k a0_1).bind fun bt1054 => ((trishawref01_Over.f k bt1050.1 bt1050.2 bt1054.1 bt1054.2).bind fun bt1058 => ((trishawref01_Within.f k bt1058.1 bt1058.2.1 a1).bind fun bt1068 => (some bt1068.1))))) = some r := H
 obtain ⟨⟨t1050, t1051⟩, A5, H⟩ := bi_ H
 replace H : ((trishawref01_Of.f k a0_1).bind fun bt1054 => ((trishawref01_Over.f k t1050 t1051 bt1054.1 bt1054.2).bind fun bt1058 => ((trishawref01_Within.f k bt1058.1 bt1058.2.1 a1).bind fun bt1068 => (some bt1068.1)))) = some r := H
 obtain ⟨⟨t1054, t1055⟩, A6, H⟩ := bi_ H
 replace H : ((trishawref01_Over.f k t1050 t1051 t1054 t1055).bind fun bt1058 => ((trishawref01_Within.f k bt1058.1 bt1058.2.1 a1).bind fun bt1068 => (some bt1068.1))) = some r := H
 obtain ⟨⟨t1058, t1059, t1062, t1063⟩, A7, H⟩ := bi_ H
 replace H : ((trishawref01_Within.f k t1058 t1059 a1).bind fun bt1068 => (some bt1068.1)) = some r := H
 obtain ⟨⟨t1068, t1069⟩, A8, H⟩ := bi_ H
 replace H : (some t1068) = some r := H
 obtain rfl := Option.some.inj H
 go_enter Tryd.func65, Tryd.ntmps65
 try go_wp2_with (first | ((with_reducible refine gate_dst (N := 2) rfl ?_); refine be_ #[.int .i64 a0_0, .int .i64 a0_1] 26 ?_; intro gb1041 hg w9 hbox hb; have BK1041 := Aside0.mk (hbox); have GW1041 := gw_ hg; have GE1041 := gw_ hg; replace HB := hb_ hb; clear hb hbox hg))
 replace BK1041 := Aside0.mk (blk_drew BK1041.out)
 replace HB := Aside0.mk (below_drew1 HB.out)
 refine start_ (n := 17) (S := fun w' => w'.cell? ⟨gb1041, 0, none⟩ = some (.int .i64 a0_0) ∧ w'.cell? ⟨gb1041, 1, none⟩ = some (.int .i64 a0_1)) (ds := []) #[false, false, false, false, false, false, false, false, false, false, false, false, false, false, false, false, false] (by kernel_rfl) rfl rfl ⟨(blk_cell BK1041.out 0).trans rfl, (blk_cell BK1041.out 1).trans rfl⟩ (fun hHeld => ?_); refine with_tabW trishawref01_scaled.tab1 trishawref01_scaled.bits1 (fun HT_ HW_ => ?_)
 generalize w9.drew = w10 at BK1041 HB hHeld ⊢
 refine pu_ 0 10 HT_.out (h := ?_)
 refine pu_ 3 13 HT_.out (h := ?_)
 refine pu_ 6 16 HT_.out (h := ?_)
 refine ta_ 1 11 HT_.out HW_.out hHeld (h := ?_)
 refine ta_ 7 17 HT_.out HW_.out hHeld (h := ?_)
 refine join_ (σ := Value × Value × Value × Value × Value × Value × Nat × Nat) 2 #[true, true, true, true, true, true, true, true, true, true, true, true, true, true, true, false, false] (fun s_ => [(12, .agg #[.bool t1042, s_.1]), (14, .agg #[.bool t1046, s_.2.1]), (15, .agg #[.bool t1050, s_.2.2.1]), (18, .agg #[.bool t1054, s_.2.2.2.1]), (19, .tuple #[.agg #[.bool t1058, s_.2.2.2.2.1], .agg #[.bool t1062, s_.2.2.2.2.2.1]]), (5, .pointer (some ⟨s_.2.2.2.2.2.2.1, 0, none⟩)), (6, .pointer (some ⟨s_.2.2.2.2.2.2.2, 0, none⟩)), (9, .tuple #[.agg #[.bool t1058, s_.2.2.2.2.1], .agg #[.bool t1062, s_.2.2.2.2.2.1]]), (20, .agg #[.bool t1058, s_.2.2.2.2.1]), (21, .agg #[.bool t1062, s_.2.2.2.2.2.1])]) (fun s_ w' => (w'.cell? ⟨gb1041, 0, none⟩ = some (.int .i64 a0_0) ∧ w'.cell? ⟨gb1041, 1, none⟩ = some (.int .i64 a0_1)) ∧ (Kd.R (Kd.int .i64) 3 w' w.heap.size (fun k_ => some k_ ≠ (s_.2.1 : Value).ownBlock ∧ some k_ ≠ (s_.2.2.1 : Value).ownBlock ∧ some k_ ≠ (s_.2.2.2.1 : Value).ownBlock ∧ some k_ ≠ (s_.2.2.2.2.1 : Value).ownBlock ∧ some k_ ≠ (s_.2.2.2.2.2.1 : Value).ownBlock) s_.1 t1043) ∧ (Kd.R (Kd.int .i64) 3 w' w.heap.size (fun k_ => some k_ ≠ (s_.1 : Value).ownBlock ∧ some k_ ≠ (s_.2.2.1 : Value).ownBlock ∧ some k_ ≠ (s_.2.2.2.1 : Value).ownBlock ∧ some k_ ≠ (s_.2.2.2.2.1 : Value).ownBlock ∧ some k_ ≠ (s_.2.2.2.2.2.1 : Value).ownBlock) s_.2.1 t1047) ∧ (Kd.R (Kd.int .i64) 3 w' w.heap.size (fun k_ => some k_ ≠ (s_.1 : Value).ownBlock ∧ some k_ ≠ (s_.2.1 : Value).ownBlock ∧ some k_ ≠ (s_.2.2.2.1 : Value).ownBlock ∧ some k_ ≠ (s_.2.2.2.2.1 : Value).ownBlock ∧ some k_ ≠ (s_.2.2.2.2.2.1 : Value).ownBlock) s_.2.2.1 t1051) ∧ (Kd.R (Kd.int .i64) 3 w' w.heap.size (fun k_ => some k_ ≠ (s_.1 : Value).ownBlock ∧ some k_ ≠ (s_.2.1 : Value).ownBlock ∧ some k_ ≠ (s_.2.2.1 : Value).ownBlock ∧ some k_ ≠ (s_.2.2.2.2.1 : Value).ownBlock ∧ some k_ ≠ (s_.2.2.2.2.2.1 : Value).ownBlock) s_.2.2.2.1 t1055) ∧ (Kd.R (Kd.int .i64) 3 w' w.heap.size (fun k_ => some k_ ≠ (s_.1 : Value).ownBlock ∧ some k_ ≠ (s_.2.1 : Value).ownBlock ∧ some k_ ≠ (s_.2.2.1 : Value).ownBlock ∧ some k_ ≠ (s_.2.2.2.1 : Value).ownBlock ∧ some k_ ≠ (s_.2.2.2.2.2.1 : Value).ownBlock) s_.2.2.2.2.1 t1059) ∧ (Kd.R (Kd.int .i64) 3 w' w.heap.size (fun k_ => some k_ ≠ (s_.1 : Value).ownBlock ∧ some k_ ≠ (s_.2.1 : Value).ownBlock ∧ some k_ ≠ (s_.2.2.1 : Value).ownBlock ∧ some k_ ≠ (s_.2.2.2.1 : Value).ownBlock ∧ some k_ ≠ (s_.2.2.2.2.1 : Value).ownBlock) s_.2.2.2.2.2.1 t1063) ∧ (w'.heap[gb1041]? = some (.cells #[.int .i64 a0_0, .int .i64 a0_1] 26 (0, 0))) ∧ (w'.heap[s_.2.2.2.2.2.2.1]? = some (.cells #[.bool false, .slice none 0 0] 91 (0, 0))) ∧ (w'.heap[s_.2.2.2.2.2.2.2]? = some (.cells #[.bool false, .slice none 0 0] 91 (0, 0))) ∧ (w.heap.size ≤ s_.2.2.2.2.2.2.1) ∧ (w.heap.size ≤ s_.2.2.2.2.2.2.1) ∧ (gb1041 ≠ s_.2.2.2.2.2.2.1) ∧ (s_.2.2.2.2.2.2.1 ≠ gb1041) ∧ (s_.2.2.2.2.2.2.2 ≠ s_.2.2.2.2.2.2.1) ∧ (s_.2.2.2.2.2.2.1 ≠ s_.2.2.2.2.2.2.2) ∧ (w.heap.size ≤ s_.2.2.2.2.2.2.2) ∧ (w.heap.size ≤ s_.2.2.2.2.2.2.2) ∧ (gb1041 ≠ s_.2.2.2.2.2.2.2) ∧ (s_.2.2.2.2.2.2.2 ≠ gb1041) ∧ (Below w.heap.size w w')) ?_ ?_
 rotate_left
 ·intro hJ2_4_5_8_9_13_14
  refine join_ (σ := Value × Value × Value × Value × Value × Value × Nat) 3 #[true, true, true, true, true, true, true, true, true, true, true, true, true, true, false, false, false] (fun s_ => [(12, .agg #[.bool t1042, s_.1]), (14, .agg #[.bool t1046, s_.2.1]), (15, .agg #[.bool t1050, s_.2.2.1]), (18, .agg #[.bool t1054, s_.2.2.2.1]), (19, .tuple #[.agg #[.bool t1058, s_.2.2.2.2.1], .agg #[.bool t1062, s_.2.2.2.2.2.1]]), (5, .pointer (some ⟨s_.2.2.2.2.2.2, 0, none⟩)), (9, .tuple #[.agg #[.bool t1058, s_.2.2.2.2.1], .agg #[.bool t1062, s_.2.2.2.2.2.1]]), (20, .agg #[.bool t1058, s_.2.2.2.2.1]), (21, .agg #[.bool t1062, s_.2.2.2.2.2.1])]) (fun s_ w' => (w'.cell? ⟨gb1041, 0, none⟩ = some (.int .i64 a0_0) ∧ w'.cell? ⟨gb1041, 1, none⟩ = some (.int .i64 a0_1)) ∧ (Kd.R (Kd.int .i64) 3 w' w.heap.size (fun k_ => some k_ ≠ (s_.2.1 : Value).ownBlock ∧ some k_ ≠ (s_.2.2.1 : Value).ownBlock ∧ some k_ ≠ (s_.2.2.2.1 : Value).ownBlock ∧ some k_ ≠ (s_.2.2.2.2.1 : Value).ownBlock ∧ some k_ ≠ (s_.2.2.2.2.2.1 : Value).ownBlock) s_.1 t1043) ∧ (Kd.R (Kd.int .i64) 3 w' w.heap.size (fun k_ => some k_ ≠ (s_.1 : Value).ownBlock ∧ some k_ ≠ (s_.2.2.1 : Value).ownBlock ∧ some k_ ≠ (s_.2.2.2.1 : Value).ownBlock ∧ some k_ ≠ (s_.2.2.2.2.1 : Value).ownBlock ∧ some k_ ≠ (s_.2.2.2.2.2.1 : Value).ownBlock) s_.2.1 t1047) ∧ (Kd.R (Kd.int .i64) 3 w' w.heap.size (fun k_ => some k_ ≠ (s_.1 : Value).ownBlock ∧ some k_ ≠ (s_.2.1 : Value).ownBlock ∧ some k_ ≠ (s_.2.2.2.1 : Value).ownBlock ∧ some k_ ≠ (s_.2.2.2.2.1 : Value).ownBlock ∧ some k_ ≠ (s_.2.2.2.2.2.1 : Value).ownBlock) s_.2.2.1 t1051) ∧ (Kd.R (Kd.int .i64) 3 w' w.heap.size (fun k_ => some k_ ≠ (s_.1 : Value).ownBlock ∧ some k_ ≠ (s_.2.1 : Value).ownBlock ∧ some k_ ≠ (s_.2.2.1 : Value).ownBlock ∧ some k_ ≠ (s_.2.2.2.2.1 : Value).ownBlock ∧ some k_ ≠ (s_.2.2.2.2.2.1 : Value).ownBlock) s_.2.2.2.1 t1055) ∧ (Kd.R (Kd.int .i64) 3 w' w.heap.size (fun k_ => some k_ ≠ (s_.1 : Value).ownBlock ∧ some k_ ≠ (s_.2.1 : Value).ownBlock ∧ some k_ ≠ (s_.2.2.1 : Value).ownBlock ∧ some k_ ≠ (s_.2.2.2.1 : Value).ownBlock ∧ some k_ ≠ (s_.2.2.2.2.2.1 : Value).ownBlock) s_.2.2.2.2.1 t1059) ∧ (Kd.R (Kd.int .i64) 3 w' w.heap.size (fun k_ => some k_ ≠ (s_.1 : Value).ownBlock ∧ some k_ ≠ (s_.2.1 : Value).ownBlock ∧ some k_ ≠ (s_.2.2.1 : Value).ownBlock ∧ some k_ ≠ (s_.2.2.2.1 : Value).ownBlock ∧ some k_ ≠ (s_.2.2.2.2.1 : Value).ownBlock) s_.2.2.2.2.2.1 t1063) ∧ (w'.heap[gb1041]? = some (.cells #[.int .i64 a0_0, .int .i64 a0_1] 26 (0, 0))) ∧ (w'.heap[s_.2.2.2.2.2.2]? = some (.cells #[.bool false, .slice none 0 0] 91 (0, 0))) ∧ (w.heap.size ≤ s_.2.2.2.2.2.2) ∧ (w.heap.size ≤ s_.2.2.2.2.2.2) ∧ (gb1041 ≠ s_.2.2.2.2.2.2) ∧ (s_.2.2.2.2.2.2 ≠ gb1041) ∧ (Below w.heap.size w w')) ?_ ?_
  rotate_left
  ·intro hJ2_4_5_8_9_13
   refine join_ (σ := Value × Value × Value × Value × Value × Value × Nat) 3 #[true, true, true, true, true, true, true, true, true, true, true, true, true, false, true, false, false] (fun s_ => [(12, .agg #[.bool t1042, s_.1]), (14, .agg #[.bool t1046, s_.2.1]), (15, .agg #[.bool t1050, s_.2.2.1]), (18, .agg #[.bool t1054, s_.2.2.2.1]), (19, .tuple #[.agg #[.bool t1058, s_.2.2.2.2.1], .agg #[.bool t1062, s_.2.2.2.2.2.1]]), (6, .pointer (some ⟨s_.2.2.2.2.2.2, 0, none⟩)), (9, .tuple #[.agg #[.bool t1058, s_.2.2.2.2.1], .agg #[.bool t1062, s_.2.2.2.2.2.1]]), (20, .agg #[.bool t1058, s_.2.2.2.2.1]), (21, .agg #[.bool t1062, s_.2.2.2.2.2.1])]) (fun s_ w' => (w'.cell? ⟨gb1041, 0, none⟩ = some (.int .i64 a0_0) ∧ w'.cell? ⟨gb1041, 1, none⟩ = some (.int .i64 a0_1)) ∧ (Kd.R (Kd.int .i64) 3 w' w.heap.size (fun k_ => some k_ ≠ (s_.2.1 : Value).ownBlock ∧ some k_ ≠ (s_.2.2.1 : Value).ownBlock ∧ some k_ ≠ (s_.2.2.2.1 : Value).ownBlock ∧ some k_ ≠ (s_.2.2.2.2.1 : Value).ownBlock ∧ some k_ ≠ (s_.2.2.2.2.2.1 : Value).ownBlock) s_.1 t1043) ∧ (Kd.R (Kd.int .i64) 3 w' w.heap.size (fun k_ => some k_ ≠ (s_.1 : Value).ownBlock ∧ some k_ ≠ (s_.2.2.1 : Value).ownBlock ∧ some k_ ≠ (s_.2.2.2.1 : Value).ownBlock ∧ some k_ ≠ (s_.2.2.2.2.1 : Value).ownBlock ∧ some k_ ≠ (s_.2.2.2.2.2.1 : Value).ownBlock) s_.2.1 t1047) ∧ (Kd.R (Kd.int .i64) 3 w' w.heap.size (fun k_ => some k_ ≠ (s_.1 : Value).ownBlock ∧ some k_ ≠ (s_.2.1 : Value).ownBlock ∧ some k_ ≠ (s_.2.2.2.1 : Value).ownBlock ∧ some k_ ≠ (s_.2.2.2.2.1 : Value).ownBlock ∧ some k_ ≠ (s_.2.2.2.2.2.1 : Value).ownBlock) s_.2.2.1 t1051) ∧ (Kd.R (Kd.int .i64) 3 w' w.heap.size (fun k_ => some k_ ≠ (s_.1 : Value).ownBlock ∧ some k_ ≠ (s_.2.1 : Value).ownBlock ∧ some k_ ≠ (s_.2.2.1 : Value).ownBlock ∧ some k_ ≠ (s_.2.2.2.2.1 : Value).ownBlock ∧ some k_ ≠ (s_.2.2.2.2.2.1 : Value).ownBlock) s_.2.2.2.1 t1055) ∧ (Kd.R (Kd.int .i64) 3 w' w.heap.size (fun k_ => some k_ ≠ (s_.1 : Value).ownBlock ∧ some k_ ≠ (s_.2.1 : Value).ownBlock ∧ some k_ ≠ (s_.2.2.1 : Value).ownBlock ∧ some k_ ≠ (s_.2.2.2.1 : Value).ownBlock ∧ some k_ ≠ (s_.2.2.2.2.2.1 : Value).ownBlock) s_.2.2.2.2.1 t1059) ∧ (Kd.R (Kd.int .i64) 3 w' w.heap.size (fun k_ => some k_ ≠ (s_.1 : Value).ownBlock ∧ some k_ ≠ (s_.2.1 : Value).ownBlock ∧ some k_ ≠ (s_.2.2.1 : Value).ownBlock ∧ some k_ ≠ (s_.2.2.2.1 : Value).ownBlock ∧ some k_ ≠ (s_.2.2.2.2.1 : Value).ownBlock) s_.2.2.2.2.2.1 t1063) ∧ (w'.heap[gb1041]? = some (.cells #[.int .i64 a0_0, .int .i64 a0_1] 26 (0, 0))) ∧ (w'.heap[s_.2.2.2.2.2.2]? = some (.cells #[.bool false, .slice none 0 0] 91 (0, 0))) ∧ (w.heap.size ≤ s_.2.2.2.2.2.2) ∧ (w.heap.size ≤ s_.2.2.2.2.2.2) ∧ (gb1041 ≠ s_.2.2.2.2.2.2) ∧ (s_.2.2.2.2.2.2 ≠ gb1041) ∧ (Below w.heap.size w w')) ?_ ?_
   rotate_left
   ·intro hJ2_4_5_8_9_14
    refine join_ (σ := Value × Value × Value × Value × Nat × Nat) 6 #[true, true, true, true, true, true, true, true, true, false, false, false, false, true, true, false, false] (fun s_ => [(12, .agg #[.bool t1042, s_.1]), (14, .agg #[.bool t1046, s_.2.1]), (15, .agg #[.bool t1050, s_.2.2.1]), (18, .agg #[.bool t1054, s_.2.2.2.1]), (5, .pointer (some ⟨s_.2.2.2.2.1, 0, none⟩)), (6, .pointer (some ⟨s_.2.2.2.2.2, 0, none⟩))]) (fun s_ w' => (w'.cell? ⟨gb1041, 0, none⟩ = some (.int .i64 a0_0) ∧ w'.cell? ⟨gb1041, 1, none⟩ = some (.int .i64 a0_1)) ∧ (Kd.R (Kd.int .i64) 3 w' w.heap.size (fun k_ => some k_ ≠ (s_.2.1 : Value).ownBlock ∧ some k_ ≠ (s_.2.2.1 : Value).ownBlock ∧ some k_ ≠ (s_.2.2.2.1 : Value).ownBlock) s_.1 t1043) ∧ (Kd.R (Kd.int .i64) 3 w' w.heap.size (fun k_ => some k_ ≠ (s_.1 : Value).ownBlock ∧ some k_ ≠ (s_.2.2.1 : Value).ownBlock ∧ some k_ ≠ (s_.2.2.2.1 : Value).ownBlock) s_.2.1 t1047) ∧ (Kd.R (Kd.int .i64) 3 w' w.heap.size (fun k_ => some k_ ≠ (s_.1 : Value).ownBlock ∧ some k_ ≠ (s_.2.1 : Value).ownBlock ∧ some k_ ≠ (s_.2.2.2.1 : Value).ownBlock) s_.2.2.1 t1051) ∧ (Kd.R (Kd.int .i64) 3 w' w.heap.size (fun k_ => some k_ ≠ (s_.1 : Value).ownBlock ∧ some k_ ≠ (s_.2.1 : Value).ownBlock ∧ some k_ ≠ (s_.2.2.1 : Value).ownBlock) s_.2.2.2.1 t1055) ∧ (w'.heap[gb1041]? = some (.cells #[.int .i64 a0_0, .int .i64 a0_1] 26 (0, 0))) ∧ (w'.heap[s_.2.2.2.2.1]? = some (.cells #[.bool false, .slice none 0 0] 91 (0, 0))) ∧ (w'.heap[s_.2.2.2.2.2]? = some (.cells #[.bool false, .slice none 0 0] 91 (0, 0))) ∧ (w.heap.size ≤ s_.2.2.2.2.1) ∧ (w.heap.size ≤ s_.2.2.2.2.1) ∧ (gb1041 ≠ s_.2.2.2.2.1) ∧ (s_.2.2.2.2.1 ≠ gb1041) ∧ (s_.2.2.2.2.2 ≠ s_.2.2.2.2.1) ∧ (s_.2.2.2.2.1 ≠ s_.2.2.2.2.2) ∧ (w.heap.size ≤ s_.2.2.2.2.2) ∧ (w.heap.size ≤ s_.2.2.2.2.2) ∧ (gb1041 ≠ s_.2.2.2.2.2) ∧ (s_.2.2.2.2.2 ≠ gb1041) ∧ (Below w.heap.size w w')) ?_ ?_
    rotate_left
    ·intro hJ2_4_5_8_13_14
     refine join_ (σ := Value × Value × Value × Value × Value × Value) 4 #[true, true, true, true, true, true, true, true, true, true, true, true, true, false, false, false, false] (fun s_ => [(12, .agg #[.bool t1042, s_.1]), (14, .agg #[.bool t1046, s_.2.1]), (15, .agg #[.bool t1050, s_.2.2.1]), (18, .agg #[.bool t1054, s_.2.2.2.1]), (19, .tuple #[.agg #[.bool t1058, s_.2.2.2.2.1], .agg #[.bool t1062, s_.2.2.2.2.2]]), (9, .tuple #[.agg #[.bool t1058, s_.2.2.2.2.1], .agg #[.bool t1062, s_.2.2.2.2.2]]), (20, .agg #[.bool t1058, s_.2.2.2.2.1]), (21, .agg #[.bool t1062, s_.2.2.2.2.2])]) (fun s_ w' => (w'.cell? ⟨gb1041, 0, none⟩ = some (.int .i64 a0_0) ∧ w'.cell? ⟨gb1041, 1, none⟩ = some (.int .i64 a0_1)) ∧ (Kd.R (Kd.int .i64) 3 w' w.heap.size (fun k_ => some k_ ≠ (s_.2.1 : Value).ownBlock ∧ some k_ ≠ (s_.2.2.1 : Value).ownBlock ∧ some k_ ≠ (s_.2.2.2.1 : Value).ownBlock ∧ some k_ ≠ (s_.2.2.2.2.1 : Value).ownBlock ∧ some k_ ≠ (s_.2.2.2.2.2 : Value).ownBlock) s_.1 t1043) ∧ (Kd.R (Kd.int .i64) 3 w' w.heap.size (fun k_ => some k_ ≠ (s_.1 : Value).ownBlock ∧ some k_ ≠ (s_.2.2.1 : Value).ownBlock ∧ some k_ ≠ (s_.2.2.2.1 : Value).ownBlock ∧ some k_ ≠ (s_.2.2.2.2.1 : Value).ownBlock ∧ some k_ ≠ (s_.2.2.2.2.2 : Value).ownBlock) s_.2.1 t1047) ∧ (Kd.R (Kd.int .i64) 3 w' w.heap.size (fun k_ => some k_ ≠ (s_.1 : Value).ownBlock ∧ some k_ ≠ (s_.2.1 : Value).ownBlock ∧ some k_ ≠ (s_.2.2.2.1 : Value).ownBlock ∧ some k_ ≠ (s_.2.2.2.2.1 : Value).ownBlock ∧ some k_ ≠ (s_.2.2.2.2.2 : Value).ownBlock) s_.2.2.1 t1051) ∧ (Kd.R (Kd.int .i64) 3 w' w.heap.size (fun k_ => some k_ ≠ (s_.1 : Value).ownBlock ∧ some k_ ≠ (s_.2.1 : Value).ownBlock ∧ some k_ ≠ (s_.2.2.1 : Value).ownBlock ∧ some k_ ≠ (s_.2.2.2.2.1 : Value).ownBlock ∧ some k_ ≠ (s_.2.2.2.2.2 : Value).ownBlock) s_.2.2.2.1 t1055) ∧ (Kd.R (Kd.int .i64) 3 w' w.heap.size (fun k_ => some k_ ≠ (s_.1 : Value).ownBlock ∧ some k_ ≠ (s_.2.1 : Value).ownBlock ∧ some k_ ≠ (s_.2.2.1 : Value).ownBlock ∧ some k_ ≠ (s_.2.2.2.1 : Value).ownBlock ∧ some k_ ≠ (s_.2.2.2.2.2 : Value).ownBlock) s_.2.2.2.2.1 t1059) ∧ (Kd.R (Kd.int .i64) 3 w' w.heap.size (fun k_ => some k_ ≠ (s_.1 : Value).ownBlock ∧ some k_ ≠ (s_.2.1 : Value).ownBlock ∧ some k_ ≠ (s_.2.2.1 : Value).ownBlock ∧ some k_ ≠ (s_.2.2.2.1 : Value).ownBlock ∧ some k_ ≠ (s_.2.2.2.2.1 : Value).ownBlock) s_.2.2.2.2.2 t1063) ∧ (w'.heap[gb1041]? = some (.cells #[.int .i64 a0_0, .int .i64 a0_1] 26 (0, 0))) ∧ (Below w.heap.size w w')) ?_ ?_
     rotate_left
     ·intro hJ2_4_5_8_9
      refine join_ (σ := Value × Value × Value × Value × Nat) 7 #[true, true, true, true, true, true, true, true, true, false, false, false, false, true, false, false, false] (fun s_ => [(12, .agg #[.bool t1042, s_.1]), (14, .agg #[.bool t1046, s_.2.1]), (15, .agg #[.bool t1050, s_.2.2.1]), (18, .agg #[.bool t1054, s_.2.2.2.1]), (5, .pointer (some ⟨s_.2.2.2.2, 0, none⟩))]) (fun s_ w' => (w'.cell? ⟨gb1041, 0, none⟩ = some (.int .i64 a0_0) ∧ w'.cell? ⟨gb1041, 1, none⟩ = some (.int .i64 a0_1)) ∧ (Kd.R (Kd.int .i64) 3 w' w.heap.size (fun k_ => some k_ ≠ (s_.2.1 : Value).ownBlock ∧ some k_ ≠ (s_.2.2.1 : Value).ownBlock ∧ some k_ ≠ (s_.2.2.2.1 : Value).ownBlock) s_.1 t1043) ∧ (Kd.R (Kd.int .i64) 3 w' w.heap.size (fun k_ => some k_ ≠ (s_.1 : Value).ownBlock ∧ some k_ ≠ (s_.2.2.1 : Value).ownBlock ∧ some k_ ≠ (s_.2.2.2.1 : Value).ownBlock) s_.2.1 t1047) ∧ (Kd.R (Kd.int .i64) 3 w' w.heap.size (fun k_ => some k_ ≠ (s_.1 : Value).ownBlock ∧ some k_ ≠ (s_.2.1 : Value).ownBlock ∧ some k_ ≠ (s_.2.2.2.1 : Value).ownBlock) s_.2.2.1 t1051) ∧ (Kd.R (Kd.int .i64) 3 w' w.heap.size (fun k_ => some k_ ≠ (s_.1 : Value).ownBlock ∧ some k_ ≠ (s_.2.1 : Value).ownBlock ∧ some k_ ≠ (s_.2.2.1 : Value).ownBlock) s_.2.2.2.1 t1055) ∧ (w'.heap[gb1041]? = some (.cells #[.int .i64 a0_0, .int .i64 a0_1] 26 (0, 0))) ∧ (w'.heap[s_.2.2.2.2]? = some (.cells #[.bool false, .slice none 0 0] 91 (0, 0))) ∧ (w.heap.size ≤ s_.2.2.2.2) ∧ (w.heap.size ≤ s_.2.2.2.2) ∧ (gb1041 ≠ s_.2.2.2.2) ∧ (s_.2.2.2.2 ≠ gb1041) ∧ (Below w.heap.size w w')) ?_ ?_
      rotate_left
      ·intro hJ2_4_5_8_13
       refine join_ (σ := Value × Value × Value × Value × Nat) 7 #[true, true, true, true, true, true, true, true, true, false, false, false, false, false, true, false, false] (fun s_ => [(12, .agg #[.bool t1042, s_.1]), (14, .agg #[.bool t1046, s_.2.1]), (15, .agg #[.bool t1050, s_.2.2.1]), (18, .agg #[.bool t1054, s_.2.2.2.1]), (6, .pointer (some ⟨s_.2.2.2.2, 0, none⟩))]) (fun s_ w' => (w'.cell? ⟨gb1041, 0, none⟩ = some (.int .i64 a0_0) ∧ w'.cell? ⟨gb1041, 1, none⟩ = some (.int .i64 a0_1)) ∧ (Kd.R (Kd.int .i64) 3 w' w.heap.size (fun k_ => some k_ ≠ (s_.2.1 : Value).ownBlock ∧ some k_ ≠ (s_.2.2.1 : Value).ownBlock ∧ some k_ ≠ (s_.2.2.2.1 : Value).ownBlock) s_.1 t1043) ∧ (Kd.R (Kd.int .i64) 3 w' w.heap.size (fun k_ => some k_ ≠ (s_.1 : Value).ownBlock ∧ some k_ ≠ (s_.2.2.1 : Value).ownBlock ∧ some k_ ≠ (s_.2.2.2.1 : Value).ownBlock) s_.2.1 t1047) ∧ (Kd.R (Kd.int .i64) 3 w' w.heap.size (fun k_ => some k_ ≠ (s_.1 : Value).ownBlock ∧ some k_ ≠ (s_.2.1 : Value).ownBlock ∧ some k_ ≠ (s_.2.2.2.1 : Value).ownBlock) s_.2.2.1 t1051) ∧ (Kd.R (Kd.int .i64) 3 w' w.heap.size (fun k_ => some k_ ≠ (s_.1 : Value).ownBlock ∧ some k_ ≠ (s_.2.1 : Value).ownBlock ∧ some k_ ≠ (s_.2.2.1 : Value).ownBlock) s_.2.2.2.1 t1055) ∧ (w'.heap[gb1041]? = some (.cells #[.int .i64 a0_0, .int .i64 a0_1] 26 (0, 0))) ∧ (w'.heap[s_.2.2.2.2]? = some (.cells #[.bool false, .slice none 0 0] 91 (0, 0))) ∧ (w.heap.size ≤ s_.2.2.2.2) ∧ (w.heap.size ≤ s_.2.2.2.2) ∧ (gb1041 ≠ s_.2.2.2.2) ∧ (s_.2.2.2.2 ≠ gb1041) ∧ (Below w.heap.size w w')) ?_ ?_
       rotate_left
       ·intro hJ2_4_5_8_14
        refine join_ (σ := Value × Value × Value × Nat × Nat) 7 #[true, true, true, true, true, true, true, true, false, false, false, false, false, true, true, false, false] (fun s_ => [(12, .agg #[.bool t1042, s_.1]), (14, .agg #[.bool t1046, s_.2.1]), (15, .agg #[.bool t1050, s_.2.2.1]), (5, .pointer (some ⟨s_.2.2.2.1, 0, none⟩)), (6, .pointer (some ⟨s_.2.2.2.2, 0, none⟩))]) (fun s_ w' => (w'.cell? ⟨gb1041, 0, none⟩ = some (.int .i64 a0_0) ∧ w'.cell? ⟨gb1041, 1, none⟩ = some (.int .i64 a0_1)) ∧ (Kd.R (Kd.int .i64) 3 w' w.heap.size (fun k_ => some k_ ≠ (s_.2.1 : Value).ownBlock ∧ some k_ ≠ (s_.2.2.1 : Value).ownBlock) s_.1 t1043) ∧ (Kd.R (Kd.int .i64) 3 w' w.heap.size (fun k_ => some k_ ≠ (s_.1 : Value).ownBlock ∧ some k_ ≠ (s_.2.2.1 : Value).ownBlock) s_.2.1 t1047) ∧ (Kd.R (Kd.int .i64) 3 w' w.heap.size (fun k_ => some k_ ≠ (s_.1 : Value).ownBlock ∧ some k_ ≠ (s_.2.1 : Value).ownBlock) s_.2.2.1 t1051) ∧ (w'.heap[gb1041]? = some (.cells #[.int .i64 a0_0, .int .i64 a0_1] 26 (0, 0))) ∧ (w'.heap[s_.2.2.2.1]? = some (.cells #[.bool false, .slice none 0 0] 91 (0, 0))) ∧ (w'.heap[s_.2.2.2.2]? = some (.cells #[.bool false, .slice none 0 0] 91 (0, 0))) ∧ (w.heap.size ≤ s_.2.2.2.1) ∧ (w.heap.size ≤ s_.2.2.2.1) ∧ (gb1041 ≠ s_.2.2.2.1) ∧ (s_.2.2.2.1 ≠ gb1041) ∧ (s_.2.2.2.2 ≠ s_.2.2.2.1) ∧ (s_.2.2.2.1 ≠ s_.2.2.2.2) ∧ (w.heap.size ≤ s_.2.2.2.2) ∧ (w.heap.size ≤ s_.2.2.2.2) ∧ (gb1041 ≠ s_.2.2.2.2) ∧ (s_.2.2.2.2 ≠ gb1041) ∧ (Below w.heap.size w w')) ?_ ?_
        rotate_left
        ·intro hJ2_4_5_13_14
         refine join_ (σ := Value × Value × Value × Value) 8 #[true, true, true, true, true, true, true, true, true, false, false, false, false, false, false, false, false] (fun s_ => [(12, .agg #[.bool t1042, s_.1]), (14, .agg #[.bool t1046, s_.2.1]), (15, .agg #[.bool t1050, s_.2.2.1]), (18, .agg #[.bool t1054, s_.2.2.2])]) (fun s_ w' => (w'.cell? ⟨gb1041, 0, none⟩ = some (.int .i64 a0_0) ∧ w'.cell? ⟨gb1041, 1, none⟩ = some (.int .i64 a0_1)) ∧ (Kd.R (Kd.int .i64) 3 w' w.heap.size (fun k_ => some k_ ≠ (s_.2.1 : Value).ownBlock ∧ some k_ ≠ (s_.2.2.1 : Value).ownBlock ∧ some k_ ≠ (s_.2.2.2 : Value).ownBlock) s_.1 t1043) ∧ (Kd.R (Kd.int .i64) 3 w' w.heap.size (fun k_ => some k_ ≠ (s_.1 : Value).ownBlock ∧ some k_ ≠ (s_.2.2.1 : Value).ownBlock ∧ some k_ ≠ (s_.2.2.2 : Value).ownBlock) s_.2.1 t1047) ∧ (Kd.R (Kd.int .i64) 3 w' w.heap.size (fun k_ => some k_ ≠ (s_.1 : Value).ownBlock ∧ some k_ ≠ (s_.2.1 : Value).ownBlock ∧ some k_ ≠ (s_.2.2.2 : Value).ownBlock) s_.2.2.1 t1051) ∧ (Kd.R (Kd.int .i64) 3 w' w.heap.size (fun k_ => some k_ ≠ (s_.1 : Value).ownBlock ∧ some k_ ≠ (s_.2.1 : Value).ownBlock ∧ some k_ ≠ (s_.2.2.1 : Value).ownBlock) s_.2.2.2 t1055) ∧ (w'.heap[gb1041]? = some (.cells #[.int .i64 a0_0, .int .i64 a0_1] 26 (0, 0))) ∧ (Below w.heap.size w w')) ?_ ?_
         rotate_left
         ·intro hJ2_4_5_8
          refine join_ (σ := Value × Value × Value × Nat) 8 #[true, true, true, true, true, true, true, true, false, false, false, false, false, true, false, false, false] (fun s_ => [(12, .agg #[.bool t1042, s_.1]), (14, .agg #[.bool t1046, s_.2.1]), (15, .agg #[.bool t1050, s_.2.2.1]), (5, .pointer (some ⟨s_.2.2.2, 0, none⟩))]) (fun s_ w' => (w'.cell? ⟨gb1041, 0, none⟩ = some (.int .i64 a0_0) ∧ w'.cell? ⟨gb1041, 1, none⟩ = some (.int .i64 a0_1)) ∧ (Kd.R (Kd.int .i64) 3 w' w.heap.size (fun k_ => some k_ ≠ (s_.2.1 : Value).ownBlock ∧ some k_ ≠ (s_.2.2.1 : Value).ownBlock) s_.1 t1043) ∧ (Kd.R (Kd.int .i64) 3 w' w.heap.size (fun k_ => some k_ ≠ (s_.1 : Value).ownBlock ∧ some k_ ≠ (s_.2.2.1 : Value).ownBlock) s_.2.1 t1047) ∧ (Kd.R (Kd.int .i64) 3 w' w.heap.size (fun k_ => some k_ ≠ (s_.1 : Value).ownBlock ∧ some k_ ≠ (s_.2.1 : Value).ownBlock) s_.2.2.1 t1051) ∧ (w'.heap[gb1041]? = some (.cells #[.int .i64 a0_0, .int .i64 a0_1] 26 (0, 0))) ∧ (w'.heap[s_.2.2.2]? = some (.cells #[.bool false, .slice none 0 0] 91 (0, 0))) ∧ (w.heap.size ≤ s_.2.2.2) ∧ (w.heap.size ≤ s_.2.2.2) ∧ (gb1041 ≠ s_.2.2.2) ∧ (s_.2.2.2 ≠ gb1041) ∧ (Below w.heap.size w w')) ?_ ?_
          rotate_left
          ·intro hJ2_4_5_13
           refine join_ (σ := Value × Value × Value × Nat) 8 #[true, true, true, true, true, true, true, true, false, false, false, false, false, false, true, false, false] (fun s_ => [(12, .agg #[.bool t1042, s_.1]), (14, .agg #[.bool t1046, s_.2.1]), (15, .agg #[.bool t1050, s_.2.2.1]), (6, .pointer (some ⟨s_.2.2.2, 0, none⟩))]) (fun s_ w' => (w'.cell? ⟨gb1041, 0, none⟩ = some (.int .i64 a0_0) ∧ w'.cell? ⟨gb1041, 1, none⟩ = some (.int .i64 a0_1)) ∧ (Kd.R (Kd.int .i64) 3 w' w.heap.size (fun k_ => some k_ ≠ (s_.2.1 : Value).ownBlock ∧ some k_ ≠ (s_.2.2.1 : Value).ownBlock) s_.1 t1043) ∧ (Kd.R (Kd.int .i64) 3 w' w.heap.size (fun k_ => some k_ ≠ (s_.1 : Value).ownBlock ∧ some k_ ≠ (s_.2.2.1 : Value).ownBlock) s_.2.1 t1047) ∧ (Kd.R (Kd.int .i64) 3 w' w.heap.size (fun k_ => some k_ ≠ (s_.1 : Value).ownBlock ∧ some k_ ≠ (s_.2.1 : Value).ownBlock) s_.2.2.1 t1051) ∧ (w'.heap[gb1041]? = some (.cells #[.int .i64 a0_0, .int .i64 a0_1] 26 (0, 0))) ∧ (w'.heap[s_.2.2.2]? = some (.cells #[.bool false, .slice none 0 0] 91 (0, 0))) ∧ (w.heap.size ≤ s_.2.2.2) ∧ (w.heap.size ≤ s_.2.2.2) ∧ (gb1041 ≠ s_.2.2.2) ∧ (s_.2.2.2 ≠ gb1041) ∧ (Below w.heap.size w w')) ?_ ?_
           rotate_left
           ·intro hJ2_4_5_14
            refine join_ (σ := Value × Value × Nat × Nat) 8 #[true, true, true, true, true, false, true, true, false, false, false, false, false, true, true, false, false] (fun s_ => [(12, .agg #[.bool t1042, s_.1]), (14, .agg #[.bool t1046, s_.2.1]), (5, .pointer (some ⟨s_.2.2.1, 0, none⟩)), (6, .pointer (some ⟨s_.2.2.2, 0, none⟩))]) (fun s_ w' => (w'.cell? ⟨gb1041, 0, none⟩ = some (.int .i64 a0_0) ∧ w'.cell? ⟨gb1041, 1, none⟩ = some (.int .i64 a0_1)) ∧ (Kd.R (Kd.int .i64) 3 w' w.heap.size (fun k_ => some k_ ≠ (s_.2.1 : Value).ownBlock) s_.1 t1043) ∧ (Kd.R (Kd.int .i64) 3 w' w.heap.size (fun k_ => some k_ ≠ (s_.1 : Value).ownBlock) s_.2.1 t1047) ∧ (w'.heap[gb1041]? = some (.cells #[.int .i64 a0_0, .int .i64 a0_1] 26 (0, 0))) ∧ (w'.heap[s_.2.2.1]? = some (.cells #[.bool false, .slice none 0 0] 91 (0, 0))) ∧ (w'.heap[s_.2.2.2]? = some (.cells #[.bool false, .slice none 0 0] 91 (0, 0))) ∧ (w.heap.size ≤ s_.2.2.1) ∧ (w.heap.size ≤ s_.2.2.1) ∧ (gb1041 ≠ s_.2.2.1) ∧ (s_.2.2.1 ≠ gb1041) ∧ (s_.2.2.2 ≠ s_.2.2.1) ∧ (s_.2.2.1 ≠ s_.2.2.2) ∧ (w.heap.size ≤ s_.2.2.2) ∧ (w.heap.size ≤ s_.2.2.2) ∧ (gb1041 ≠ s_.2.2.2) ∧ (s_.2.2.2 ≠ gb1041) ∧ (Below w.heap.size w w')) ?_ ?_
            rotate_left
            ·intro hJ2_4_13_14
             refine join_ (σ := Value × Value × Value) 9 #[true, true, true, true, true, true, true, true, false, false, false, false, false, false, false, false, false] (fun s_ => [(12, .agg #[.bool t1042, s_.1]), (14, .agg #[.bool t1046, s_.2.1]), (15, .agg #[.bool t1050, s_.2.2])]) (fun s_ w' => (w'.cell? ⟨gb1041, 0, none⟩ = some (.int .i64 a0_0) ∧ w'.cell? ⟨gb1041, 1, none⟩ = some (.int .i64 a0_1)) ∧ (Kd.R (Kd.int .i64) 3 w' w.heap.size (fun k_ => some k_ ≠ (s_.2.1 : Value).ownBlock ∧ some k_ ≠ (s_.2.2 : Value).ownBlock) s_.1 t1043) ∧ (Kd.R (Kd.int .i64) 3 w' w.heap.size (fun k_ => some k_ ≠ (s_.1 : Value).ownBlock ∧ some k_ ≠ (s_.2.2 : Value).ownBlock) s_.2.1 t1047) ∧ (Kd.R (Kd.int .i64) 3 w' w.heap.size (fun k_ => some k_ ≠ (s_.1 : Value).ownBlock ∧ some k_ ≠ (s_.2.1 : Value).ownBlock) s_.2.2 t1051) ∧ (w'.heap[gb1041]? = some (.cells #[.int .i64 a0_0, .int .i64 a0_1] 26 (0, 0))) ∧ (Below w.heap.size w w')) ?_ ?_
             rotate_left
             ·intro hJ2_4_5
              refine join_ (σ := Value × Value × Nat) 9 #[true, true, true, true, true, false, true, true, false, false, false, false, false, true, false, false, false] (fun s_ => [(12, .agg #[.bool t1042, s_.1]), (14, .agg #[.bool t1046, s_.2.1]), (5, .pointer (some ⟨s_.2.2, 0, none⟩))]) (fun s_ w' => (w'.cell? ⟨gb1041, 0, none⟩ = some (.int .i64 a0_0) ∧ w'.cell? ⟨gb1041, 1, none⟩ = some (.int .i64 a0_1)) ∧ (Kd.R (Kd.int .i64) 3 w' w.heap.size (fun k_ => some k_ ≠ (s_.2.1 : Value).ownBlock) s_.1 t1043) ∧ (Kd.R (Kd.int .i64) 3 w' w.heap.size (fun k_ => some k_ ≠ (s_.1 : Value).ownBlock) s_.2.1 t1047) ∧ (w'.heap[gb1041]? = some (.cells #[.int .i64 a0_0, .int .i64 a0_1] 26 (0, 0))) ∧ (w'.heap[s_.2.2]? = some (.cells #[.bool false, .slice none 0 0] 91 (0, 0))) ∧ (w.heap.size ≤ s_.2.2) ∧ (w.heap.size ≤ s_.2.2) ∧ (gb1041 ≠ s_.2.2) ∧ (s_.2.2 ≠ gb1041) ∧ (Below w.heap.size w w')) ?_ ?_
              rotate_left
              ·intro hJ2_4_13
               refine join_ (σ := Value × Value × Nat) 9 #[true, true, true, true, true, false, true, true, false, false, false, false, false, false, true, false, false] (fun s_ => [(12, .agg #[.bool t1042, s_.1]), (14, .agg #[.bool t1046, s_.2.1]), (6, .pointer (some ⟨s_.2.2, 0, none⟩))]) (fun s_ w' => (w'.cell? ⟨gb1041, 0, none⟩ = some (.int .i64 a0_0) ∧ w'.cell? ⟨gb1041, 1, none⟩ = some (.int .i64 a0_1)) ∧ (Kd.R (Kd.int .i64) 3 w' w.heap.size (fun k_ => some k_ ≠ (s_.2.1 : Value).ownBlock) s_.1 t1043) ∧ (Kd.R (Kd.int .i64) 3 w' w.heap.size (fun k_ => some k_ ≠ (s_.1 : Value).ownBlock) s_.2.1 t1047) ∧ (w'.heap[gb1041]? = some (.cells #[.int .i64 a0_0, .int .i64 a0_1] 26 (0, 0))) ∧ (w'.heap[s_.2.2]? = some (.cells #[.bool false, .slice none 0 0] 91 (0, 0))) ∧ (w.heap.size ≤ s_.2.2) ∧ (w.heap.size ≤ s_.2.2) ∧ (gb1041 ≠ s_.2.2) ∧ (s_.2.2 ≠ gb1041) ∧ (Below w.heap.size w w')) ?_ ?_
               rotate_left
               ·intro hJ2_4_14
                refine join_ (σ := Value × Nat × Nat) 9 #[true, true, true, true, false, false, true, true, false, false, false, false, false, true, true, false, false] (fun s_ => [(12, .agg #[.bool t1042, s_.1]), (5, .pointer (some ⟨s_.2.1, 0, none⟩)), (6, .pointer (some ⟨s_.2.2, 0, none⟩))]) (fun s_ w' => (w'.cell? ⟨gb1041, 0, none⟩ = some (.int .i64 a0_0) ∧ w'.cell? ⟨gb1041, 1, none⟩ = some (.int .i64 a0_1)) ∧ (Kd.R (Kd.int .i64) 3 w' w.heap.size (fun _ => True) s_.1 t1043) ∧ (w'.heap[gb1041]? = some (.cells #[.int .i64 a0_0, .int .i64 a0_1] 26 (0, 0))) ∧ (w'.heap[s_.2.1]? = some (.cells #[.bool false, .slice none 0 0] 91 (0, 0))) ∧ (w'.heap[s_.2.2]? = some (.cells #[.bool false, .slice none 0 0] 91 (0, 0))) ∧ (w.heap.size ≤ s_.2.1) ∧ (w.heap.size ≤ s_.2.1) ∧ (gb1041 ≠ s_.2.1) ∧ (s_.2.1 ≠ gb1041) ∧ (s_.2.2 ≠ s_.2.1) ∧ (s_.2.1 ≠ s_.2.2) ∧ (w.heap.size ≤ s_.2.2) ∧ (w.heap.size ≤ s_.2.2) ∧ (gb1041 ≠ s_.2.2) ∧ (s_.2.2 ≠ gb1041) ∧ (Below w.heap.size w w')) ?_ ?_
                rotate_left
                ·intro hJ2_13_14
                 refine join_ (σ := Value × Value) 10 #[true, true, true, true, true, false, true, true, false, false, false, false, false, false, false, false, false] (fun s_ => [(12, .agg #[.bool t1042, s_.1]), (14, .agg #[.bool t1046, s_.2])]) (fun s_ w' => (w'.cell? ⟨gb1041, 0, none⟩ = some (.int .i64 a0_0) ∧ w'.cell? ⟨gb1041, 1, none⟩ = some (.int .i64 a0_1)) ∧ (Kd.R (Kd.int .i64) 3 w' w.heap.size (fun k_ => some k_ ≠ (s_.2 : Value).ownBlock) s_.1 t1043) ∧ (Kd.R (Kd.int .i64) 3 w' w.heap.size (fun k_ => some k_ ≠ (s_.1 : Value).ownBlock) s_.2 t1047) ∧ (w'.heap[gb1041]? = some (.cells #[.int .i64 a0_0, .int .i64 a0_1] 26 (0, 0))) ∧ (Below w.heap.size w w')) ?_ ?_
                 rotate_left
                 ·intro hJ2_4
                  refine join_ (σ := Value × Nat) 10 #[true, true, true, true, false, false, true, true, false, false, false, false, false, true, false, false, false] (fun s_ => [(12, .agg #[.bool t1042, s_.1]), (5, .pointer (some ⟨s_.2, 0, none⟩))]) (fun s_ w' => (w'.cell? ⟨gb1041, 0, none⟩ = some (.int .i64 a0_0) ∧ w'.cell? ⟨gb1041, 1, none⟩ = some (.int .i64 a0_1)) ∧ (Kd.R (Kd.int .i64) 3 w' w.heap.size (fun _ => True) s_.1 t1043) ∧ (w'.heap[gb1041]? = some (.cells #[.int .i64 a0_0, .int .i64 a0_1] 26 (0, 0))) ∧ (w'.heap[s_.2]? = some (.cells #[.bool false, .slice none 0 0] 91 (0, 0))) ∧ (w.heap.size ≤ s_.2) ∧ (w.heap.size ≤ s_.2) ∧ (gb1041 ≠ s_.2) ∧ (s_.2 ≠ gb1041) ∧ (Below w.heap.size w w')) ?_ ?_
                  rotate_left
                  ·intro hJ2_13
                   refine join_ (σ := Value × Nat) 10 #[true, true, true, true, false, false, true, true, false, false, false, false, false, false, true, false, false] (fun s_ => [(12, .agg #[.bool t1042, s_.1]), (6, .pointer (some ⟨s_.2, 0, none⟩))]) (fun s_ w' => (w'.cell? ⟨gb1041, 0, none⟩ = some (.int .i64 a0_0) ∧ w'.cell? ⟨gb1041, 1, none⟩ = some (.int .i64 a0_1)) ∧ (Kd.R (Kd.int .i64) 3 w' w.heap.size (fun _ => True) s_.1 t1043) ∧ (w'.heap[gb1041]? = some (.cells #[.int .i64 a0_0, .int .i64 a0_1] 26 (0, 0))) ∧ (w'.heap[s_.2]? = some (.cells #[.bool false, .slice none 0 0] 91 (0, 0))) ∧ (w.heap.size ≤ s_.2) ∧ (w.heap.size ≤ s_.2) ∧ (gb1041 ≠ s_.2) ∧ (s_.2 ≠ gb1041) ∧ (Below w.heap.size w w')) ?_ ?_
                   rotate_left
                   ·intro hJ2_14
                    refine join_ (σ := Nat × Nat) 10 #[true, true, false, true, false, false, true, true, false, false, false, false, false, true, true, false, false] (fun s_ => [(5, .pointer (some ⟨s_.1, 0, none⟩)), (6, .pointer (some ⟨s_.2, 0, none⟩))]) (fun s_ w' => (w'.cell? ⟨gb1041, 0, none⟩ = some (.int .i64 a0_0) ∧ w'.cell? ⟨gb1041, 1, none⟩ = some (.int .i64 a0_1)) ∧ (w'.heap[gb1041]? = some (.cells #[.int .i64 a0_0, .int .i64 a0_1] 26 (0, 0))) ∧ (w'.heap[s_.1]? = some (.cells #[.bool false, .slice none 0 0] 91 (0, 0))) ∧ (w'.heap[s_.2]? = some (.cells #[.bool false, .slice none 0 0] 91 (0, 0))) ∧ (w.heap.size ≤ s_.1) ∧ (w.heap.size ≤ s_.1) ∧ (gb1041 ≠ s_.1) ∧ (s_.1 ≠ gb1041) ∧ (s_.2 ≠ s_.1) ∧ (s_.1 ≠ s_.2) ∧ (w.heap.size ≤ s_.2) ∧ (w.heap.size ≤ s_.2) ∧ (gb1041 ≠ s_.2) ∧ (s_.2 ≠ gb1041) ∧ (Below w.heap.size w w')) ?_ ?_
                    rotate_left
                    ·intro hJ13_14
                     refine join_ (σ := Value) 11 #[true, true, true, true, false, false, true, true, false, false, false, false, false, false, false, false, false] (fun s_ => [(12, .agg #[.bool t1042, s_])]) (fun s_ w' => (w'.cell? ⟨gb1041, 0, none⟩ = some (.int .i64 a0_0) ∧ w'.cell? ⟨gb1041, 1, none⟩ = some (.int .i64 a0_1)) ∧ (Kd.R (Kd.int .i64) 3 w' w.heap.size (fun _ => True) s_ t1043) ∧ (w'.heap[gb1041]? = some (.cells #[.int .i64 a0_0, .int .i64 a0_1] 26 (0, 0))) ∧ (Below w.heap.size w w')) ?_ ?_
                     rotate_left
                     ·intro hJ2
                      refine join_ (σ := Nat) 11 #[true, true, false, true, false, false, true, true, false, false, false, false, false, true, false, false, false] (fun s_ => [(5, .pointer (some ⟨s_, 0, none⟩))]) (fun s_ w' => (w'.cell? ⟨gb1041, 0, none⟩ = some (.int .i64 a0_0) ∧ w'.cell? ⟨gb1041, 1, none⟩ = some (.int .i64 a0_1)) ∧ (w'.heap[gb1041]? = some (.cells #[.int .i64 a0_0, .int .i64 a0_1] 26 (0, 0))) ∧ (w'.heap[s_]? = some (.cells #[.bool false, .slice none 0 0] 91 (0, 0))) ∧ (w.heap.size ≤ s_) ∧ (w.heap.size ≤ s_) ∧ (gb1041 ≠ s_) ∧ (s_ ≠ gb1041) ∧ (Below w.heap.size w w')) ?_ ?_
                      rotate_left
                      ·intro hJ13
                       refine join_ (σ := Nat) 11 #[true, true, false, true, false, false, true, true, false, false, false, false, false, false, true, false, false] (fun s_ => [(6, .pointer (some ⟨s_, 0, none⟩))]) (fun s_ w' => (w'.cell? ⟨gb1041, 0, none⟩ = some (.int .i64 a0_0) ∧ w'.cell? ⟨gb1041, 1, none⟩ = some (.int .i64 a0_1)) ∧ (w'.heap[gb1041]? = some (.cells #[.int .i64 a0_0, .int .i64 a0_1] 26 (0, 0))) ∧ (w'.heap[s_]? = some (.cells #[.bool false, .slice none 0 0] 91 (0, 0))) ∧ (w.heap.size ≤ s_) ∧ (w.heap.size ≤ s_) ∧ (gb1041 ≠ s_) ∧ (s_ ≠ gb1041) ∧ (Below w.heap.size w w')) ?_ ?_
                       rotate_left
                       ·intro hJ14
                        refine three_ (i := 2) (j := 13) (k := 14) (Ni := some 12) (Nj := some 5) (Nk := some 6) #[true, true, true, true, false, false, true, true, false, false, false, false, false, false, false, false, false] #[true, true, false, true, false, false, true, true, false, false, false, false, false, true, false, false, false] #[true, true, false, true, false, false, true, true, false, false, false, false, false, false, true, false, false] rfl rfl rfl rfl rfl rfl (three_of HT_.out (by kernel_rfl)) (by decide) (by decide) (by decide) (fun K hK => ?_) (fun K hK => ?_) (fun K hK => ?_)
                        ·skip
                         refine goes_ Tryd.func81 (by kernel_rfl) rfl #[.int .i64 a0_0] (by rfl) rfl rfl (as_) ?_
                         with_reducible refine (trishawref01_Of.calls k a0_0 t1042 t1043 _ A3.out).mono ?_
                         rintro e w11 ⟨v1044, rfl, ho0, hb⟩
                         refine ⟨_, rfl, ?_⟩
                         have HO1045 := rl_ ho0
                         replace BK1041 := bb_ BK1041 hb
                         replace HB := hb_ hb
                         clear hb ho0
                         refine hK.out _ _ ⟨(blk_cell BK1041.out 0).trans rfl, (blk_cell BK1041.out 1).trans rfl⟩ (fun hHeld => ?_)
                         clear hK K
                         refine np_ 12 (h := ?_)
                         exact nm_ (hJ2 (v1044) _ ⟨hHeld, (kr_ HO1045.out), (bk_ BK1041.out), (bl_)⟩)
                        ·skip
                         refine box_step ?hg (N := 5) ?hd (cs := #[.bool false, .slice none 0 0]) (t := 91) ?hr ?_; (case hd => rfl); (case hg => rfl); (case hr => first | (go_simp; done) | (go_simp; rfl))
                         intro gb1066 hg w11 hbox hb
                         have BK1066 := Aside0.mk (hbox)
                         have GW1066 := gw_ hg
                         have GE1066 := gw_ hg
                         replace HB := hb_ hb
                         have NB1041_1066 := nl_ hg BK1041
                         have NB1066_1041 := sy_ NB1041_1066
                         replace BK1041 := bb_ BK1041 hb
                         clear hb hbox hg
                         refine hK.out _ _ ⟨(blk_cell BK1041.out 0).trans rfl, (blk_cell BK1041.out 1).trans rfl⟩ (fun hHeld => ?_)
                         clear hK K
                         refine np_ 5 (h := ?_)
                         exact nm_ (hJ13 (gb1066) _ ⟨hHeld, (bk_ BK1041.out), (bk_ BK1066.out), GW1066.out, GE1066.out, NB1041_1066.out, NB1066_1041.out, (bl_)⟩)
                        ·skip
                         refine box_step ?hg (N := 6) ?hd (cs := #[.bool false, .slice none 0 0]) (t := 91) ?hr ?_; (case hd => rfl); (case hg => rfl); (case hr => first | (go_simp; done) | (go_simp; rfl))
                         intro gb1067 hg w11 hbox hb
                         have BK1067 := Aside0.mk (hbox)
                         have GW1067 := gw_ hg
                         have GE1067 := gw_ hg
                         replace HB := hb_ hb
                         have NB1041_1067 := nl_ hg BK1041
                         have NB1067_1041 := sy_ NB1041_1067
                         replace BK1041 := bb_ BK1041 hb
                         clear hb hbox hg
                         refine hK.out _ _ ⟨(blk_cell BK1041.out 0).trans rfl, (blk_cell BK1041.out 1).trans rfl⟩ (fun hHeld => ?_)
                         clear hK K
                         refine np_ 6 (h := ?_)
                         exact nm_ (hJ14 (gb1067) _ ⟨hHeld, (bk_ BK1041.out), (bk_ BK1067.out), GW1067.out, GE1067.out, NB1041_1067.out, NB1067_1041.out, (bl_)⟩)
                       ·skip
                        rintro gb1067 w12 ⟨hS_, h0_, h1_, h2_, h3_, h4_, h5_, h6_⟩
                        replace BK1041 : Aside0 (w12.heap[gb1041]? = some (.cells #[.int .i64 a0_0, .int .i64 a0_1] 26 (0, 0))) := ⟨h0_⟩
                        have BK1067 : Aside0 (w12.heap[gb1067]? = some (.cells #[.bool false, .slice none 0 0] 91 (0, 0))) := ⟨h1_⟩
                        have GW1067 : Aside0 (w.heap.size ≤ gb1067) := ⟨h2_⟩
                        have GE1067 : Aside0 (w.heap.size ≤ gb1067) := ⟨h3_⟩
                        have NB1041_1067 : Aside0 (gb1041 ≠ gb1067) := ⟨h4_⟩
                        have NB1067_1041 : Aside0 (gb1067 ≠ gb1041) := ⟨h5_⟩
                        replace HB : Aside0 (Below w.heap.size w w12) := ⟨h6_⟩
                        clear h0_ h1_ h2_ h3_ h4_ h5_ h6_
                        have hHeld : w12.cell? ⟨gb1041, 0, none⟩ = some (.int .i64 a0_0) ∧ w12.cell? ⟨gb1041, 1, none⟩ = some (.int .i64 a0_1) := hS_
                        refine norm_ (a' := ?_) ?_ ?_
                        rotate_left
                        ·simp only [putAll, Act.put, List.setIfInBounds_toArray, List.set_cons_zero, List.set_cons_succ]
                         rfl
                        refine two_ (i := 2) (j := 13) (Ni := some 12) (Nj := some 5) #[true, true, true, true, false, false, true, true, false, false, false, false, false, false, true, false, false] #[true, true, false, true, false, false, true, true, false, false, false, false, false, true, true, false, false] rfl rfl rfl rfl (two_of HT_.out (by kernel_rfl)) (by decide) (by decide) (fun K hK => ?_) (fun K hK => ?_)
                        ·skip
                         refine goes_ Tryd.func81 (by kernel_rfl) rfl #[.int .i64 a0_0] (by rfl) rfl rfl (as_) ?_
                         with_reducible refine (trishawref01_Of.calls k a0_0 t1042 t1043 _ A3.out).mono ?_
                         rintro e w13 ⟨v1044, rfl, ho0, hb⟩
                         refine ⟨_, rfl, ?_⟩
                         have HO1045 := rl_ ho0
                         replace BK1041 := bb_ BK1041 hb
                         replace BK1067 := bb_ BK1067 hb
                         replace HB := hb_ hb
                         clear hb ho0
                         refine hK.out _ _ ⟨(blk_cell BK1041.out 0).trans rfl, (blk_cell BK1041.out 1).trans rfl⟩ (fun hHeld => ?_)
                         clear hK K
                         refine np_ 12 (h := ?_)
                         exact nm_ (hJ2_14 (_, gb1067) _ ⟨hHeld, (kr_ HO1045.out), (bk_ BK1041.out), (bk_ BK1067.out), GW1067.out, GE1067.out, NB1041_1067.out, NB1067_1041.out, (bl_)⟩)
                        ·skip
                         refine box_step ?hg (N := 5) ?hd (cs := #[.bool false, .slice none 0 0]) (t := 91) ?hr ?_; (case hd => rfl); (case hg => rfl); (case hr => first | (go_simp; done) | (go_simp; rfl))
                         intro gb1066 hg w13 hbox hb
                         have BK1066 := Aside0.mk (hbox)
                         have GW1066 := gw_ hg
                         have GE1066 := gw_ hg
                         replace HB := hb_ hb
                         have NB1041_1066 := nl_ hg BK1041
                         have NB1066_1041 := sy_ NB1041_1066
                         replace BK1041 := bb_ BK1041 hb
                         have NB1067_1066 := nl_ hg BK1067
                         have NB1066_1067 := sy_ NB1067_1066
                         replace BK1067 := bb_ BK1067 hb
                         clear hb hbox hg
                         refine hK.out _ _ ⟨(blk_cell BK1041.out 0).trans rfl, (blk_cell BK1041.out 1).trans rfl⟩ (fun hHeld => ?_)
                         clear hK K
                         refine np_ 5 (h := ?_)
                         exact nm_ (hJ13_14 (gb1066, gb1067) _ ⟨hHeld, (bk_ BK1041.out), (bk_ BK1066.out), (bk_ BK1067.out), GW1066.out, GE1066.out, NB1041_1066.out, NB1066_1041.out, NB1067_1066.out, NB1066_1067.out, GW1067.out, GE1067.out, NB1041_1067.out, NB1067_1041.out, (bl_)⟩)
                      ·skip
                       rintro gb1066 w12 ⟨hS_, h0_, h1_, h2_, h3_, h4_, h5_, h6_⟩
                       replace BK1041 : Aside0 (w12.heap[gb1041]? = some (.cells #[.int .i64 a0_0, .int .i64 a0_1] 26 (0, 0))) := ⟨h0_⟩
                       have BK1066 : Aside0 (w12.heap[gb1066]? = some (.cells #[.bool false, .slice none 0 0] 91 (0, 0))) := ⟨h1_⟩
                       have GW1066 : Aside0 (w.heap.size ≤ gb1066) := ⟨h2_⟩
                       have GE1066 : Aside0 (w.heap.size ≤ gb1066) := ⟨h3_⟩
                       have NB1041_1066 : Aside0 (gb1041 ≠ gb1066) := ⟨h4_⟩
                       have NB1066_1041 : Aside0 (gb1066 ≠ gb1041) := ⟨h5_⟩
                       replace HB : Aside0 (Below w.heap.size w w12) := ⟨h6_⟩
                       clear h0_ h1_ h2_ h3_ h4_ h5_ h6_
                       have hHeld : w12.cell? ⟨gb1041, 0, none⟩ = some (.int .i64 a0_0) ∧ w12.cell? ⟨gb1041, 1, none⟩ = some (.int .i64 a0_1) := hS_
                       refine norm_ (a' := ?_) ?_ ?_
                       rotate_left
                       ·simp only [putAll, Act.put, List.setIfInBounds_toArray, List.set_cons_zero, List.set_cons_succ]
                        rfl
                       refine two_ (i := 2) (j := 14) (Ni := some 12) (Nj := some 6) #[true, true, true, true, false, false, true, true, false, false, false, false, false, true, false, false, false] #[true, true, false, true, false, false, true, true, false, false, false, false, false, true, true, false, false] rfl rfl rfl rfl (two_of HT_.out (by kernel_rfl)) (by decide) (by decide) (fun K hK => ?_) (fun K hK => ?_)
                       ·skip
                        refine goes_ Tryd.func81 (by kernel_rfl) rfl #[.int .i64 a0_0] (by rfl) rfl rfl (as_) ?_
                        with_reducible refine (trishawref01_Of.calls k a0_0 t1042 t1043 _ A3.out).mono ?_
                        rintro e w13 ⟨v1044, rfl, ho0, hb⟩
                        refine ⟨_, rfl, ?_⟩
                        have HO1045 := rl_ ho0
                        replace BK1041 := bb_ BK1041 hb
                        replace BK1066 := bb_ BK1066 hb
                        replace HB := hb_ hb
                        clear hb ho0
                        refine hK.out _ _ ⟨(blk_cell BK1041.out 0).trans rfl, (blk_cell BK1041.out 1).trans rfl⟩ (fun hHeld => ?_)
                        clear hK K
                        refine np_ 12 (h := ?_)
                        exact nm_ (hJ2_13 (_, gb1066) _ ⟨hHeld, (kr_ HO1045.out), (bk_ BK1041.out), (bk_ BK1066.out), GW1066.out, GE1066.out, NB1041_1066.out, NB1066_1041.out, (bl_)⟩)
                       ·skip
                        refine box_step ?hg (N := 6) ?hd (cs := #[.bool false, .slice none 0 0]) (t := 91) ?hr ?_; (case hd => rfl); (case hg => rfl); (case hr => first | (go_simp; done) | (go_simp; rfl))
                        intro gb1067 hg w13 hbox hb
                        have BK1067 := Aside0.mk (hbox)
                        have GW1067 := gw_ hg
                        have GE1067 := gw_ hg
                        replace HB := hb_ hb
                        have NB1041_1067 := nl_ hg BK1041
                        have NB1067_1041 := sy_ NB1041_1067
                        replace BK1041 := bb_ BK1041 hb
                        have NB1066_1067 := nl_ hg BK1066
                        have NB1067_1066 := sy_ NB1066_1067
                        replace BK1066 := bb_ BK1066 hb
                        clear hb hbox hg
                        refine hK.out _ _ ⟨(blk_cell BK1041.out 0).trans rfl, (blk_cell BK1041.out 1).trans rfl⟩ (fun hHeld => ?_)
                        clear hK K
                        refine np_ 6 (h := ?_)
                        exact nm_ (hJ13_14 (gb1066, gb1067) _ ⟨hHeld, (bk_ BK1041.out), (bk_ BK1066.out), (bk_ BK1067.out), GW1066.out, GE1066.out, NB1041_1066.out, NB1066_1041.out, NB1067_1066.out, NB1066_1067.out, GW1067.out, GE1067.out, NB1041_1067.out, NB1067_1041.out, (bl_)⟩)
                     ·skip
                      rintro v1044 w12 ⟨hS_, h0_, h1_, h2_⟩
                      have HO1045 : Aside0 (Kd.R (Kd.int .i64) 3 w12 w.heap.size (fun _ => True) v1044 t1043) := ⟨h0_⟩
                      replace BK1041 : Aside0 (w12.heap[gb1041]? = some (.cells #[.int .i64 a0_0, .int .i64 a0_1] 26 (0, 0))) := ⟨h1_⟩
                      replace HB : Aside0 (Below w.heap.size w w12) := ⟨h2_⟩
                      clear h0_ h1_ h2_
                      have hHeld : w12.cell? ⟨gb1041, 0, none⟩ = some (.int .i64 a0_0) ∧ w12.cell? ⟨gb1041, 1, none⟩ = some (.int .i64 a0_1) := hS_
                      refine norm_ (a' := ?_) ?_ ?_
                      rotate_left
                      ·simp only [putAll, Act.put, List.setIfInBounds_toArray, List.set_cons_zero, List.set_cons_succ]
                       rfl
                      refine three_ (i := 4) (j := 13) (k := 14) (Ni := some 14) (Nj := some 5) (Nk := some 6) #[true, true, true, true, true, false, true, true, false, false, false, false, false, false, false, false, false] #[true, true, true, true, false, false, true, true, false, false, false, false, false, true, false, false, false] #[true, true, true, true, false, false, true, true, false, false, false, false, false, false, true, false, false] rfl rfl rfl rfl rfl rfl (three_of HT_.out (by kernel_rfl)) (by decide) (by decide) (by decide) (fun K hK => ?_) (fun K hK => ?_) (fun K hK => ?_)
                      ·skip
                       refine goes_ Tryd.func81 (by kernel_rfl) rfl #[.int .i64 a1] (by rfl) rfl rfl (as_) ?_
                       with_reducible refine (trishawref01_Of.calls k a1 t1046 t1047 _ A4.out).mono ?_
                       rintro e w13 ⟨v1048, rfl, ho0, hb⟩
                       refine ⟨_, rfl, ?_⟩
                       have HO1049 := rl_ (rn_ ho0 HO1045)
                       replace HO1045 := re_ HO1045 ho0 hb
                       replace BK1041 := bb_ BK1041 hb
                       replace HB := hb_ hb
                       clear hb ho0
                       refine hK.out _ _ ⟨(blk_cell BK1041.out 0).trans rfl, (blk_cell BK1041.out 1).trans rfl⟩ (fun hHeld => ?_)
                       clear hK K
                       refine np_ 14 (h := ?_)
                       exact nm_ (hJ2_4 (_, _) _ ⟨hHeld, (by refine kr_ ?_; exact Kd.R_mono HO1045.out (fun _ hk => hk.2)), (by refine kr_ ?_; exact Kd.R_mono HO1049.out (fun _ hk => hk.2)), (bk_ BK1041.out), (bl_)⟩)
                      ·skip
                       refine box_step ?hg (N := 5) ?hd (cs := #[.bool false, .slice none 0 0]) (t := 91) ?hr ?_; (case hd => rfl); (case hg => rfl); (case hr => first | (go_simp; done) | (go_simp; rfl))
                       intro gb1066 hg w13 hbox hb
                       replace HO1045 := rb_ HO1045 hb
                       have BK1066 := Aside0.mk (hbox)
                       have GW1066 := gw_ hg
                       have GE1066 := gw_ hg
                       replace HB := hb_ hb
                       have NB1041_1066 := nl_ hg BK1041
                       have NB1066_1041 := sy_ NB1041_1066
                       replace BK1041 := bb_ BK1041 hb
                       clear hb hbox hg
                       refine hK.out _ _ ⟨(blk_cell BK1041.out 0).trans rfl, (blk_cell BK1041.out 1).trans rfl⟩ (fun hHeld => ?_)
                       clear hK K
                       refine np_ 5 (h := ?_)
                       exact nm_ (hJ2_13 (_, gb1066) _ ⟨hHeld, (kr_ HO1045.out), (bk_ BK1041.out), (bk_ BK1066.out), GW1066.out, GE1066.out, NB1041_1066.out, NB1066_1041.out, (bl_)⟩)
                      ·skip
                       refine box_step ?hg (N := 6) ?hd (cs := #[.bool false, .slice none 0 0]) (t := 91) ?hr ?_; (case hd => rfl); (case hg => rfl); (case hr => first | (go_simp; done) | (go_simp; rfl))
                       intro gb1067 hg w13 hbox hb
                       replace HO1045 := rb_ HO1045 hb
                       have BK1067 := Aside0.mk (hbox)
                       have GW1067 := gw_ hg
                       have GE1067 := gw_ hg
                       replace HB := hb_ hb
                       have NB1041_1067 := nl_ hg BK1041
                       have NB1067_1041 := sy_ NB1041_1067
                       replace BK1041 := bb_ BK1041 hb
                       clear hb hbox hg
                       refine hK.out _ _ ⟨(blk_cell BK1041.out 0).trans rfl, (blk_cell BK1041.out 1).trans rfl⟩ (fun hHeld => ?_)
                       clear hK K
                       refine np_ 6 (h := ?_)
                       exact nm_ (hJ2_14 (_, gb1067) _ ⟨hHeld, (kr_ HO1045.out), (bk_ BK1041.out), (bk_ BK1067.out), GW1067.out, GE1067.out, NB1041_1067.out, NB1067_1041.out, (bl_)⟩)
                    ·skip
                     rintro ⟨gb1066, gb1067⟩ w13 ⟨hS_, h0_, h1_, h2_, h3_, h4_, h5_, h6_, h7_, h8_, h9_, h10_, h11_, h12_, h13_⟩
                     replace BK1041 : Aside0 (w13.heap[gb1041]? = some (.cells #[.int .i64 a0_0, .int .i64 a0_1] 26 (0, 0))) := ⟨h0_⟩
                     have BK1066 : Aside0 (w13.heap[gb1066]? = some (.cells #[.bool false, .slice none 0 0] 91 (0, 0))) := ⟨h1_⟩
                     have BK1067 : Aside0 (w13.heap[gb1067]? = some (.cells #[.bool false, .slice none 0 0] 91 (0, 0))) := ⟨h2_⟩
                     have GW1066 : Aside0 (w.heap.size ≤ gb1066) := ⟨h3_⟩
                     have GE1066 : Aside0 (w.heap.size ≤ gb1066) := ⟨h4_⟩
                     have NB1041_1066 : Aside0 (gb1041 ≠ gb1066) := ⟨h5_⟩
                     have NB1066_1041 : Aside0 (gb1066 ≠ gb1041) := ⟨h6_⟩
                     have NB1067_1066 : Aside0 (gb1067 ≠ gb1066) := ⟨h7_⟩
                     have NB1066_1067 : Aside0 (gb1066 ≠ gb1067) := ⟨h8_⟩
                     have GW1067 : Aside0 (w.heap.size ≤ gb1067) := ⟨h9_⟩
                     have GE1067 : Aside0 (w.heap.size ≤ gb1067) := ⟨h10_⟩
                     have NB1041_1067 : Aside0 (gb1041 ≠ gb1067) := ⟨h11_⟩
                     have NB1067_1041 : Aside0 (gb1067 ≠ gb1041) := ⟨h12_⟩
                     replace HB : Aside0 (Below w.heap.size w w13) := ⟨h13_⟩
                     clear h0_ h1_ h2_ h3_ h4_ h5_ h6_ h7_ h8_ h9_ h10_ h11_ h12_ h13_
                     have hHeld : w13.cell? ⟨gb1041, 0, none⟩ = some (.int .i64 a0_0) ∧ w13.cell? ⟨gb1041, 1, none⟩ = some (.int .i64 a0_1) := hS_
                     refine norm_ (a' := ?_) ?_ ?_
                     rotate_left
                     ·simp only [putAll, Act.put, List.setIfInBounds_toArray, List.set_cons_zero, List.set_cons_succ]
                      rfl
                     refine one_ (i := 2) (N := some 12) #[true, true, true, true, false, false, true, true, false, false, false, false, false, true, true, false, false] rfl rfl (one_of HT_.out (by kernel_rfl)) (by decide) (fun K hK => ?_)
                     refine goes_ Tryd.func81 (by kernel_rfl) rfl #[.int .i64 a0_0] (by rfl) rfl rfl (as_) ?_
                     with_reducible refine (trishawref01_Of.calls k a0_0 t1042 t1043 _ A3.out).mono ?_
                     rintro e w14 ⟨v1044, rfl, ho0, hb⟩
                     refine ⟨_, rfl, ?_⟩
                     have HO1045 := rl_ ho0
                     replace BK1041 := bb_ BK1041 hb
                     replace BK1066 := bb_ BK1066 hb
                     replace BK1067 := bb_ BK1067 hb
                     replace HB := hb_ hb
                     clear hb ho0
                     refine hK.out _ _ ⟨(blk_cell BK1041.out 0).trans rfl, (blk_cell BK1041.out 1).trans rfl⟩ (fun hHeld => ?_)
                     clear hK K
                     refine np_ 12 (h := ?_)
                     exact nm_ (hJ2_13_14 (_, gb1066, gb1067) _ ⟨hHeld, (kr_ HO1045.out), (bk_ BK1041.out), (bk_ BK1066.out), (bk_ BK1067.out), GW1066.out, GE1066.out, NB1041_1066.out, NB1066_1041.out, NB1067_1066.out, NB1066_1067.out, GW1067.out, GE1067.out, NB1041_1067.out, NB1067_1041.out, (bl_)⟩)
                   ·skip
                    rintro ⟨v1044, gb1067⟩ w13 ⟨hS_, h0_, h1_, h2_, h3_, h4_, h5_, h6_, h7_⟩
                    have HO1045 : Aside0 (Kd.R (Kd.int .i64) 3 w13 w.heap.size (fun _ => True) v1044 t1043) := ⟨h0_⟩
                    replace BK1041 : Aside0 (w13.heap[gb1041]? = some (.cells #[.int .i64 a0_0, .int .i64 a0_1] 26 (0, 0))) := ⟨h1_⟩
                    have BK1067 : Aside0 (w13.heap[gb1067]? = some (.cells #[.bool false, .slice none 0 0] 91 (0, 0))) := ⟨h2_⟩
                    have GW1067 : Aside0 (w.heap.size ≤ gb1067) := ⟨h3_⟩
                    have GE1067 : Aside0 (w.heap.size ≤ gb1067) := ⟨h4_⟩
                    have NB1041_1067 : Aside0 (gb1041 ≠ gb1067) := ⟨h5_⟩
                    have NB1067_1041 : Aside0 (gb1067 ≠ gb1041) := ⟨h6_⟩
                    replace HB : Aside0 (Below w.heap.size w w13) := ⟨h7_⟩
                    clear h0_ h1_ h2_ h3_ h4_ h5_ h6_ h7_
                    have hHeld : w13.cell? ⟨gb1041, 0, none⟩ = some (.int .i64 a0_0) ∧ w13.cell? ⟨gb1041, 1, none⟩ = some (.int .i64 a0_1) := hS_
                    refine norm_ (a' := ?_) ?_ ?_
                    rotate_left
                    ·simp only [putAll, Act.put, List.setIfInBounds_toArray, List.set_cons_zero, List.set_cons_succ]
                     rfl
                    refine two_ (i := 4) (j := 13) (Ni := some 14) (Nj := some 5) #[true, true, true, true, true, false, true, true, false, false, false, false, false, false, true, false, false] #[true, true, true, true, false, false, true, true, false, false, false, false, false, true, true, false, false] rfl rfl rfl rfl (two_of HT_.out (by kernel_rfl)) (by decide) (by decide) (fun K hK => ?_) (fun K hK => ?_)
                    ·skip
                     refine goes_ Tryd.func81 (by kernel_rfl) rfl #[.int .i64 a1] (by rfl) rfl rfl (as_) ?_
                     with_reducible refine (trishawref01_Of.calls k a1 t1046 t1047 _ A4.out).mono ?_
                     rintro e w14 ⟨v1048, rfl, ho0, hb⟩
                     refine ⟨_, rfl, ?_⟩
                     have HO1049 := rl_ (rn_ ho0 HO1045)
                     replace HO1045 := re_ HO1045 ho0 hb
                     replace BK1041 := bb_ BK1041 hb
                     replace BK1067 := bb_ BK1067 hb
                     replace HB := hb_ hb
                     clear hb ho0
                     refine hK.out _ _ ⟨(blk_cell BK1041.out 0).trans rfl, (blk_cell BK1041.out 1).trans rfl⟩ (fun hHeld => ?_)
                     clear hK K
                     refine np_ 14 (h := ?_)
                     exact nm_ (hJ2_4_14 (_, _, gb1067) _ ⟨hHeld, (by refine kr_ ?_; exact Kd.R_mono HO1045.out (fun _ hk => hk.2)), (by refine kr_ ?_; exact Kd.R_mono HO1049.out (fun _ hk => hk.2)), (bk_ BK1041.out), (bk_ BK1067.out), GW1067.out, GE1067.out, NB1041_1067.out, NB1067_1041.out, (bl_)⟩)
                    ·skip
                     refine box_step ?hg (N := 5) ?hd (cs := #[.bool false, .slice none 0 0]) (t := 91) ?hr ?_; (case hd => rfl); (case hg => rfl); (case hr => first | (go_simp; done) | (go_simp; rfl))
                     intro gb1066 hg w14 hbox hb
                     replace HO1045 := rb_ HO1045 hb
                     have BK1066 := Aside0.mk (hbox)
                     have GW1066 := gw_ hg
                     have GE1066 := gw_ hg
                     replace HB := hb_ hb
                     have NB1041_1066 := nl_ hg BK1041
                     have NB1066_1041 := sy_ NB1041_1066
                     replace BK1041 := bb_ BK1041 hb
                     have NB1067_1066 := nl_ hg BK1067
                     have NB1066_1067 := sy_ NB1067_1066
                     replace BK1067 := bb_ BK1067 hb
                     clear hb hbox hg
                     refine hK.out _ _ ⟨(blk_cell BK1041.out 0).trans rfl, (blk_cell BK1041.out 1).trans rfl⟩ (fun hHeld => ?_)
                     clear hK K
                     refine np_ 5 (h := ?_)
                     exact nm_ (hJ2_13_14 (_, gb1066, gb1067) _ ⟨hHeld, (kr_ HO1045.out), (bk_ BK1041.out), (bk_ BK1066.out), (bk_ BK1067.out), GW1066.out, GE1066.out, NB1041_1066.out, NB1066_1041.out, NB1067_1066.out, NB1066_1067.out, GW1067.out, GE1067.out, NB1041_1067.out, NB1067_1041.out, (bl_)⟩)
                  ·skip
                   rintro ⟨v1044, gb1066⟩ w13 ⟨hS_, h0_, h1_, h2_, h3_, h4_, h5_, h6_, h7_⟩
                   have HO1045 : Aside0 (Kd.R (Kd.int .i64) 3 w13 w.heap.size (fun _ => True) v1044 t1043) := ⟨h0_⟩
                   replace BK1041 : Aside0 (w13.heap[gb1041]? = some (.cells #[.int .i64 a0_0, .int .i64 a0_1] 26 (0, 0))) := ⟨h1_⟩
                   have BK1066 : Aside0 (w13.heap[gb1066]? = some (.cells #[.bool false, .slice none 0 0] 91 (0, 0))) := ⟨h2_⟩
                   have GW1066 : Aside0 (w.heap.size ≤ gb1066) := ⟨h3_⟩
                   have GE1066 : Aside0 (w.heap.size ≤ gb1066) := ⟨h4_⟩
                   have NB1041_1066 : Aside0 (gb1041 ≠ gb1066) := ⟨h5_⟩
                   have NB1066_1041 : Aside0 (gb1066 ≠ gb1041) := ⟨h6_⟩
                   replace HB : Aside0 (Below w.heap.size w w13) := ⟨h7_⟩
                   clear h0_ h1_ h2_ h3_ h4_ h5_ h6_ h7_
                   have hHeld : w13.cell? ⟨gb1041, 0, none⟩ = some (.int .i64 a0_0) ∧ w13.cell? ⟨gb1041, 1, none⟩ = some (.int .i64 a0_1) := hS_
                   refine norm_ (a' := ?_) ?_ ?_
                   rotate_left
                   ·simp only [putAll, Act.put, List.setIfInBounds_toArray, List.set_cons_zero, List.set_cons_succ]
                    rfl
                   refine two_ (i := 4) (j := 14) (Ni := some 14) (Nj := some 6) #[true, true, true, true, true, false, true, true, false, false, false, false, false, true, false, false, false] #[true, true, true, true, false, false, true, true, false, false, false, false, false, true, true, false, false] rfl rfl rfl rfl (two_of HT_.out (by kernel_rfl)) (by decide) (by decide) (fun K hK => ?_) (fun K hK => ?_)
                   ·skip
                    refine goes_ Tryd.func81 (by kernel_rfl) rfl #[.int .i64 a1] (by rfl) rfl rfl (as_) ?_
                    with_reducible refine (trishawref01_Of.calls k a1 t1046 t1047 _ A4.out).mono ?_
                    rintro e w14 ⟨v1048, rfl, ho0, hb⟩
                    refine ⟨_, rfl, ?_⟩
                    have HO1049 := rl_ (rn_ ho0 HO1045)
                    replace HO1045 := re_ HO1045 ho0 hb
                    replace BK1041 := bb_ BK1041 hb
                    replace BK1066 := bb_ BK1066 hb
                    replace HB := hb_ hb
                    clear hb ho0
                    refine hK.out _ _ ⟨(blk_cell BK1041.out 0).trans rfl, (blk_cell BK1041.out 1).trans rfl⟩ (fun hHeld => ?_)
                    clear hK K
                    refine np_ 14 (h := ?_)
                    exact nm_ (hJ2_4_13 (_, _, gb1066) _ ⟨hHeld, (by refine kr_ ?_; exact Kd.R_mono HO1045.out (fun _ hk => hk.2)), (by refine kr_ ?_; exact Kd.R_mono HO1049.out (fun _ hk => hk.2)), (bk_ BK1041.out), (bk_ BK1066.out), GW1066.out, GE1066.out, NB1041_1066.out, NB1066_1041.out, (bl_)⟩)
                   ·skip
                    refine box_step ?hg (N := 6) ?hd (cs := #[.bool false, .slice none 0 0]) (t := 91) ?hr ?_; (case hd => rfl); (case hg => rfl); (case hr => first | (go_simp; done) | (go_simp; rfl))
                    intro gb1067 hg w14 hbox hb
                    replace HO1045 := rb_ HO1045 hb
                    have BK1067 := Aside0.mk (hbox)
                    have GW1067 := gw_ hg
                    have GE1067 := gw_ hg
                    replace HB := hb_ hb
                    have NB1041_1067 := nl_ hg BK1041
                    have NB1067_1041 := sy_ NB1041_1067
                    replace BK1041 := bb_ BK1041 hb
                    have NB1066_1067 := nl_ hg BK1066
                    have NB1067_1066 := sy_ NB1066_1067
                    replace BK1066 := bb_ BK1066 hb
                    clear hb hbox hg
                    refine hK.out _ _ ⟨(blk_cell BK1041.out 0).trans rfl, (blk_cell BK1041.out 1).trans rfl⟩ (fun hHeld => ?_)
                    clear hK K
                    refine np_ 6 (h := ?_)
                    exact nm_ (hJ2_13_14 (_, gb1066, gb1067) _ ⟨hHeld, (kr_ HO1045.out), (bk_ BK1041.out), (bk_ BK1066.out), (bk_ BK1067.out), GW1066.out, GE1066.out, NB1041_1066.out, NB1066_1041.out, NB1067_1066.out, NB1066_1067.out, GW1067.out, GE1067.out, NB1041_1067.out, NB1067_1041.out, (bl_)⟩)
                 ·skip
                  rintro ⟨v1044, v1048⟩ w13 ⟨hS_, h0_, h1_, h2_, h3_⟩
                  have HO1045 : Aside0 (Kd.R (Kd.int .i64) 3 w13 w.heap.size (fun k_ => some k_ ≠ (v1048 : Value).ownBlock) v1044 t1043) := ⟨h0_⟩
                  have HO1049 : Aside0 (Kd.R (Kd.int .i64) 3 w13 w.heap.size (fun k_ => some k_ ≠ (v1044 : Value).ownBlock) v1048 t1047) := ⟨h1_⟩
                  replace BK1041 : Aside0 (w13.heap[gb1041]? = some (.cells #[.int .i64 a0_0, .int .i64 a0_1] 26 (0, 0))) := ⟨h2_⟩
                  replace HB : Aside0 (Below w.heap.size w w13) := ⟨h3_⟩
                  clear h0_ h1_ h2_ h3_
                  have hHeld : w13.cell? ⟨gb1041, 0, none⟩ = some (.int .i64 a0_0) ∧ w13.cell? ⟨gb1041, 1, none⟩ = some (.int .i64 a0_1) := hS_
                  obtain ⟨Ao14, co14, eo14⟩ := Kd.R_slice HO1045.out
                  (first | subst eo14 | (injection eo14 with f1_ f2_ f3_; have f4_ := f1_.symm; have f5_ := f3_.symm; clear f1_ f2_ f3_; subst f4_; subst f5_))
                  obtain ⟨Ao15, co15, eo15⟩ := Kd.R_slice HO1049.out
                  (first | subst eo15 | (injection eo15 with f1_ f2_ f3_; have f4_ := f1_.symm; have f5_ := f3_.symm; clear f1_ f2_ f3_; subst f4_; subst f5_))
                  refine norm_ (a' := ?_) ?_ ?_
                  rotate_left
                  ·simp only [putAll, Act.put, List.setIfInBounds_toArray, List.set_cons_zero, List.set_cons_succ]
                   rfl
                  refine three_ (i := 5) (j := 13) (k := 14) (Ni := some 15) (Nj := some 5) (Nk := some 6) #[true, true, true, true, true, true, true, true, false, false, false, false, false, false, false, false, false] #[true, true, true, true, true, false, true, true, false, false, false, false, false, true, false, false, false] #[true, true, true, true, true, false, true, true, false, false, false, false, false, false, true, false, false] rfl rfl rfl rfl rfl rfl (three_of HT_.out (by kernel_rfl)) (by decide) (by decide) (by decide) (fun K hK => ?_) (fun K hK => ?_) (fun K hK => ?_)
                  ·skip
                   refine goes_ Tryd.func80 (by kernel_rfl) rfl #[.agg #[.bool t1042, .slice Ao14 t1043.length co14], .agg #[.bool t1046, .slice Ao15 t1047.length co15]] (by rfl) rfl rfl (as_) ?_
                   with_reducible refine (trishawref01_Times.calls k t1042 _ _ t1043 t1046 _ _ t1047 t1050 t1051 _ ?side1 ?side2 ?side3 ?side4 A5.out).mono ?_
                   (case side1 => exact cr_ HO1045.out)
                   (case side2 => exact (Kd.R_reads' HO1045.out).2.1)
                   (case side3 => exact cr_ HO1049.out)
                   (case side4 => exact (Kd.R_reads' HO1049.out).2.1)
                   rintro e w16 ⟨v1052, rfl, ho0, hb⟩
                   refine ⟨_, rfl, ?_⟩
                   have HO1053 := rl_ (rn_ (rn_ ho0 HO1045) HO1049)
                   replace HO1045 := re_ HO1045 ho0 hb
                   replace HO1049 := re_ HO1049 ho0 hb
                   replace BK1041 := bb_ BK1041 hb
                   replace HB := hb_ hb
                   clear hb ho0
                   refine hK.out _ _ ⟨(blk_cell BK1041.out 0).trans rfl, (blk_cell BK1041.out 1).trans rfl⟩ (fun hHeld => ?_)
                   clear hK K
                   refine np_ 15 (h := ?_)
                   exact nm_ (hJ2_4_5 (.slice Ao14 t1043.length co14, .slice Ao15 t1047.length co15, v1052) _ ⟨hHeld, (kr_ HO1045.out), (kr_ HO1049.out), (by refine kr_ ?_; exact Kd.R_mono HO1053.out (fun _ hk => ⟨hk.1.2, hk.2⟩)), (bk_ BK1041.out), (bl_)⟩)
                  ·skip
                   refine box_step ?hg (N := 5) ?hd (cs := #[.bool false, .slice none 0 0]) (t := 91) ?hr ?_; (case hd => rfl); (case hg => rfl); (case hr => first | (go_simp; done) | (go_simp; rfl))
                   intro gb1066 hg w14 hbox hb
                   replace HO1045 := rb_ HO1045 hb
                   replace HO1049 := rb_ HO1049 hb
                   have BK1066 := Aside0.mk (hbox)
                   have GW1066 := gw_ hg
                   have GE1066 := gw_ hg
                   replace HB := hb_ hb
                   have NB1041_1066 := nl_ hg BK1041
                   have NB1066_1041 := sy_ NB1041_1066
                   replace BK1041 := bb_ BK1041 hb
                   clear hb hbox hg
                   refine hK.out _ _ ⟨(blk_cell BK1041.out 0).trans rfl, (blk_cell BK1041.out 1).trans rfl⟩ (fun hHeld => ?_)
                   clear hK K
                   refine np_ 5 (h := ?_)
                   exact nm_ (hJ2_4_13 (_, _, gb1066) _ ⟨hHeld, (kr_ HO1045.out), (kr_ HO1049.out), (bk_ BK1041.out), (bk_ BK1066.out), GW1066.out, GE1066.out, NB1041_1066.out, NB1066_1041.out, (bl_)⟩)
                  ·skip
                   refine box_step ?hg (N := 6) ?hd (cs := #[.bool false, .slice none 0 0]) (t := 91) ?hr ?_; (case hd => rfl); (case hg => rfl); (case hr => first | (go_simp; done) | (go_simp; rfl))
                   intro gb1067 hg w14 hbox hb
                   replace HO1045 := rb_ HO1045 hb
                   replace HO1049 := rb_ HO1049 hb
                   have BK1067 := Aside0.mk (hbox)
                   have GW1067 := gw_ hg
                   have GE1067 := gw_ hg
                   replace HB := hb_ hb
                   have NB1041_1067 := nl_ hg BK1041
                   have NB1067_1041 := sy_ NB1041_1067
                   replace BK1041 := bb_ BK1041 hb
                   clear hb hbox hg
                   refine hK.out _ _ ⟨(blk_cell BK1041.out 0).trans rfl, (blk_cell BK1041.out 1).trans rfl⟩ (fun hHeld => ?_)
                   clear hK K
                   refine np_ 6 (h := ?_)
                   exact nm_ (hJ2_4_14 (_, _, gb1067) _ ⟨hHeld, (kr_ HO1045.out), (kr_ HO1049.out), (bk_ BK1041.out), (bk_ BK1067.out), GW1067.out, GE1067.out, NB1041_1067.out, NB1067_1041.out, (bl_)⟩)
                ·skip
                 rintro ⟨v1044, gb1066, gb1067⟩ w14 ⟨hS_, h0_, h1_, h2_, h3_, h4_, h5_, h6_, h7_, h8_, h9_, h10_, h11_, h12_, h13_, h14_⟩
                 have HO1045 : Aside0 (Kd.R (Kd.int .i64) 3 w14 w.heap.size (fun _ => True) v1044 t1043) := ⟨h0_⟩
                 replace BK1041 : Aside0 (w14.heap[gb1041]? = some (.cells #[.int .i64 a0_0, .int .i64 a0_1] 26 (0, 0))) := ⟨h1_⟩
                 have BK1066 : Aside0 (w14.heap[gb1066]? = some (.cells #[.bool false, .slice none 0 0] 91 (0, 0))) := ⟨h2_⟩
                 have BK1067 : Aside0 (w14.heap[gb1067]? = some (.cells #[.bool false, .slice none 0 0] 91 (0, 0))) := ⟨h3_⟩
                 have GW1066 : Aside0 (w.heap.size ≤ gb1066) := ⟨h4_⟩
                 have GE1066 : Aside0 (w.heap.size ≤ gb1066) := ⟨h5_⟩
                 have NB1041_1066 : Aside0 (gb1041 ≠ gb1066) := ⟨h6_⟩
                 have NB1066_1041 : Aside0 (gb1066 ≠ gb1041) := ⟨h7_⟩
                 have NB1067_1066 : Aside0 (gb1067 ≠ gb1066) := ⟨h8_⟩
                 have NB1066_1067 : Aside0 (gb1066 ≠ gb1067) := ⟨h9_⟩
                 have GW1067 : Aside0 (w.heap.size ≤ gb1067) := ⟨h10_⟩
                 have GE1067 : Aside0 (w.heap.size ≤ gb1067) := ⟨h11_⟩
                 have NB1041_1067 : Aside0 (gb1041 ≠ gb1067) := ⟨h12_⟩
                 have NB1067_1041 : Aside0 (gb1067 ≠ gb1041) := ⟨h13_⟩
                 replace HB : Aside0 (Below w.heap.size w w14) := ⟨h14_⟩
                 clear h0_ h1_ h2_ h3_ h4_ h5_ h6_ h7_ h8_ h9_ h10_ h11_ h12_ h13_ h14_
                 have hHeld : w14.cell? ⟨gb1041, 0, none⟩ = some (.int .i64 a0_0) ∧ w14.cell? ⟨gb1041, 1, none⟩ = some (.int .i64 a0_1) := hS_
                 refine norm_ (a' := ?_) ?_ ?_
                 rotate_left
                 ·simp only [putAll, Act.put, List.setIfInBounds_toArray, List.set_cons_zero, List.set_cons_succ]
                  rfl
                 refine one_ (i := 4) (N := some 14) #[true, true, true, true, true, false, true, true, false, false, false, false, false, true, true, false, false] rfl rfl (one_of HT_.out (by kernel_rfl)) (by decide) (fun K hK => ?_)
                 refine goes_ Tryd.func81 (by kernel_rfl) rfl #[.int .i64 a1] (by rfl) rfl rfl (as_) ?_
                 with_reducible refine (trishawref01_Of.calls k a1 t1046 t1047 _ A4.out).mono ?_
                 rintro e w15 ⟨v1048, rfl, ho0, hb⟩
                 refine ⟨_, rfl, ?_⟩
                 have HO1049 := rl_ (rn_ ho0 HO1045)
                 replace HO1045 := re_ HO1045 ho0 hb
                 replace BK1041 := bb_ BK1041 hb
                 replace BK1066 := bb_ BK1066 hb
                 replace BK1067 := bb_ BK1067 hb
                 replace HB := hb_ hb
                 clear hb ho0
                 refine hK.out _ _ ⟨(blk_cell BK1041.out 0).trans rfl, (blk_cell BK1041.out 1).trans rfl⟩ (fun hHeld => ?_)
                 clear hK K
                 refine np_ 14 (h := ?_)
                 exact nm_ (hJ2_4_13_14 (_, _, gb1066, gb1067) _ ⟨hHeld, (by refine kr_ ?_; exact Kd.R_mono HO1045.out (fun _ hk => hk.2)), (by refine kr_ ?_; exact Kd.R_mono HO1049.out (fun _ hk => hk.2)), (bk_ BK1041.out), (bk_ BK1066.out), (bk_ BK1067.out), GW1066.out, GE1066.out, NB1041_1066.out, NB1066_1041.out, NB1067_1066.out, NB1066_1067.out, GW1067.out, GE1067.out, NB1041_1067.out, NB1067_1041.out, (bl_)⟩)
               ·skip
                rintro ⟨v1044, v1048, gb1067⟩ w14 ⟨hS_, h0_, h1_, h2_, h3_, h4_, h5_, h6_, h7_, h8_⟩
                have HO1045 : Aside0 (Kd.R (Kd.int .i64) 3 w14 w.heap.size (fun k_ => some k_ ≠ (v1048 : Value).ownBlock) v1044 t1043) := ⟨h0_⟩
                have HO1049 : Aside0 (Kd.R (Kd.int .i64) 3 w14 w.heap.size (fun k_ => some k_ ≠ (v1044 : Value).ownBlock) v1048 t1047) := ⟨h1_⟩
                replace BK1041 : Aside0 (w14.heap[gb1041]? = some (.cells #[.int .i64 a0_0, .int .i64 a0_1] 26 (0, 0))) := ⟨h2_⟩
                have BK1067 : Aside0 (w14.heap[gb1067]? = some (.cells #[.bool false, .slice none 0 0] 91 (0, 0))) := ⟨h3_⟩
                have GW1067 : Aside0 (w.heap.size ≤ gb1067) := ⟨h4_⟩
                have GE1067 : Aside0 (w.heap.size ≤ gb1067) := ⟨h5_⟩
                have NB1041_1067 : Aside0 (gb1041 ≠ gb1067) := ⟨h6_⟩
                have NB1067_1041 : Aside0 (gb1067 ≠ gb1041) := ⟨h7_⟩
                replace HB : Aside0 (Below w.heap.size w w14) := ⟨h8_⟩
                clear h0_ h1_ h2_ h3_ h4_ h5_ h6_ h7_ h8_
                have hHeld : w14.cell? ⟨gb1041, 0, none⟩ = some (.int .i64 a0_0) ∧ w14.cell? ⟨gb1041, 1, none⟩ = some (.int .i64 a0_1) := hS_
                obtain ⟨Ao15, co15, eo15⟩ := Kd.R_slice HO1045.out
                (first | subst eo15 | (injection eo15 with f1_ f2_ f3_; have f4_ := f1_.symm; have f5_ := f3_.symm; clear f1_ f2_ f3_; subst f4_; subst f5_))
                obtain ⟨Ao16, co16, eo16⟩ := Kd.R_slice HO1049.out
                (first | subst eo16 | (injection eo16 with f1_ f2_ f3_; have f4_ := f1_.symm; have f5_ := f3_.symm; clear f1_ f2_ f3_; subst f4_; subst f5_))
                refine norm_ (a' := ?_) ?_ ?_
                rotate_left
                ·simp only [putAll, Act.put, List.setIfInBounds_toArray, List.set_cons_zero, List.set_cons_succ]
                 rfl
                refine two_ (i := 5) (j := 13) (Ni := some 15) (Nj := some 5) #[true, true, true, true, true, true, true, true, false, false, false, false, false, false, true, false, false] #[true, true, true, true, true, false, true, true, false, false, false, false, false, true, true, false, false] rfl rfl rfl rfl (two_of HT_.out (by kernel_rfl)) (by decide) (by decide) (fun K hK => ?_) (fun K hK => ?_)
                ·skip
                 refine goes_ Tryd.func80 (by kernel_rfl) rfl #[.agg #[.bool t1042, .slice Ao15 t1043.length co15], .agg #[.bool t1046, .slice Ao16 t1047.length co16]] (by rfl) rfl rfl (as_) ?_
                 with_reducible refine (trishawref01_Times.calls k t1042 _ _ t1043 t1046 _ _ t1047 t1050 t1051 _ ?side1 ?side2 ?side3 ?side4 A5.out).mono ?_
                 (case side1 => exact cr_ HO1045.out)
                 (case side2 => exact (Kd.R_reads' HO1045.out).2.1)
                 (case side3 => exact cr_ HO1049.out)
                 (case side4 => exact (Kd.R_reads' HO1049.out).2.1)
                 rintro e w17 ⟨v1052, rfl, ho0, hb⟩
                 refine ⟨_, rfl, ?_⟩
                 have HO1053 := rl_ (rn_ (rn_ ho0 HO1045) HO1049)
                 replace HO1045 := re_ HO1045 ho0 hb
                 replace HO1049 := re_ HO1049 ho0 hb
                 replace BK1041 := bb_ BK1041 hb
                 replace BK1067 := bb_ BK1067 hb
                 replace HB := hb_ hb
                 clear hb ho0
                 refine hK.out _ _ ⟨(blk_cell BK1041.out 0).trans rfl, (blk_cell BK1041.out 1).trans rfl⟩ (fun hHeld => ?_)
                 clear hK K
                 refine np_ 15 (h := ?_)
                 exact nm_ (hJ2_4_5_14 (.slice Ao15 t1043.length co15, .slice Ao16 t1047.length co16, v1052, gb1067) _ ⟨hHeld, (kr_ HO1045.out), (kr_ HO1049.out), (by refine kr_ ?_; exact Kd.R_mono HO1053.out (fun _ hk => ⟨hk.1.2, hk.2⟩)), (bk_ BK1041.out), (bk_ BK1067.out), GW1067.out, GE1067.out, NB1041_1067.out, NB1067_1041.out, (bl_)⟩)
                ·skip
                 refine box_step ?hg (N := 5) ?hd (cs := #[.bool false, .slice none 0 0]) (t := 91) ?hr ?_; (case hd => rfl); (case hg => rfl); (case hr => first | (go_simp; done) | (go_simp; rfl))
                 intro gb1066 hg w15 hbox hb
                 replace HO1045 := rb_ HO1045 hb
                 replace HO1049 := rb_ HO1049 hb
                 have BK1066 := Aside0.mk (hbox)
                 have GW1066 := gw_ hg
                 have GE1066 := gw_ hg
                 replace HB := hb_ hb
                 have NB1041_1066 := nl_ hg BK1041
                 have NB1066_1041 := sy_ NB1041_1066
                 replace BK1041 := bb_ BK1041 hb
                 have NB1067_1066 := nl_ hg BK1067
                 have NB1066_1067 := sy_ NB1067_1066
                 replace BK1067 := bb_ BK1067 hb
                 clear hb hbox hg
                 refine hK.out _ _ ⟨(blk_cell BK1041.out 0).trans rfl, (blk_cell BK1041.out 1).trans rfl⟩ (fun hHeld => ?_)
                 clear hK K
                 refine np_ 5 (h := ?_)
                 exact nm_ (hJ2_4_13_14 (_, _, gb1066, gb1067) _ ⟨hHeld, (kr_ HO1045.out), (kr_ HO1049.out), (bk_ BK1041.out), (bk_ BK1066.out), (bk_ BK1067.out), GW1066.out, GE1066.out, NB1041_1066.out, NB1066_1041.out, NB1067_1066.out, NB1066_1067.out, GW1067.out, GE1067.out, NB1041_1067.out, NB1067_1041.out, (bl_)⟩)
              ·skip
               rintro ⟨v1044, v1048, gb1066⟩ w14 ⟨hS_, h0_, h1_, h2_, h3_, h4_, h5_, h6_, h7_, h8_⟩
               have HO1045 : Aside0 (Kd.R (Kd.int .i64) 3 w14 w.heap.size (fun k_ => some k_ ≠ (v1048 : Value).ownBlock) v1044 t1043) := ⟨h0_⟩
               have HO1049 : Aside0 (Kd.R (Kd.int .i64) 3 w14 w.heap.size (fun k_ => some k_ ≠ (v1044 : Value).ownBlock) v1048 t1047) := ⟨h1_⟩
               replace BK1041 : Aside0 (w14.heap[gb1041]? = some (.cells #[.int .i64 a0_0, .int .i64 a0_1] 26 (0, 0))) := ⟨h2_⟩
               have BK1066 : Aside0 (w14.heap[gb1066]? = some (.cells #[.bool false, .slice none 0 0] 91 (0, 0))) := ⟨h3_⟩
               have GW1066 : Aside0 (w.heap.size ≤ gb1066) := ⟨h4_⟩
               have GE1066 : Aside0 (w.heap.size ≤ gb1066) := ⟨h5_⟩
               have NB1041_1066 : Aside0 (gb1041 ≠ gb1066) := ⟨h6_⟩
               have NB1066_1041 : Aside0 (gb1066 ≠ gb1041) := ⟨h7_⟩
               replace HB : Aside0 (Below w.heap.size w w14) := ⟨h8_⟩
               clear h0_ h1_ h2_ h3_ h4_ h5_ h6_ h7_ h8_
               have hHeld : w14.cell? ⟨gb1041, 0, none⟩ = some (.int .i64 a0_0) ∧ w14.cell? ⟨gb1041, 1, none⟩ = some (.int .i64 a0_1) := hS_
               obtain ⟨Ao15, co15, eo15⟩ := Kd.R_slice HO1045.out
               (first | subst eo15 | (injection eo15 with f1_ f2_ f3_; have f4_ := f1_.symm; have f5_ := f3_.symm; clear f1_ f2_ f3_; subst f4_; subst f5_))
               obtain ⟨Ao16, co16, eo16⟩ := Kd.R_slice HO1049.out
               (first | subst eo16 | (injection eo16 with f1_ f2_ f3_; have f4_ := f1_.symm; have f5_ := f3_.symm; clear f1_ f2_ f3_; subst f4_; subst f5_))
               refine norm_ (a' := ?_) ?_ ?_
               rotate_left
               ·simp only [putAll, Act.put, List.setIfInBounds_toArray, List.set_cons_zero, List.set_cons_succ]
                rfl
               refine two_ (i := 5) (j := 14) (Ni := some 15) (Nj := some 6) #[true, true, true, true, true, true, true, true, false, false, false, false, false, true, false, false, false] #[true, true, true, true, true, false, true, true, false, false, false, false, false, true, true, false, false] rfl rfl rfl rfl (two_of HT_.out (by kernel_rfl)) (by decide) (by decide) (fun K hK => ?_) (fun K hK => ?_)
               ·skip
                refine goes_ Tryd.func80 (by kernel_rfl) rfl #[.agg #[.bool t1042, .slice Ao15 t1043.length co15], .agg #[.bool t1046, .slice Ao16 t1047.length co16]] (by rfl) rfl rfl (as_) ?_
                with_reducible refine (trishawref01_Times.calls k t1042 _ _ t1043 t1046 _ _ t1047 t1050 t1051 _ ?side1 ?side2 ?side3 ?side4 A5.out).mono ?_
                (case side1 => exact cr_ HO1045.out)
                (case side2 => exact (Kd.R_reads' HO1045.out).2.1)
                (case side3 => exact cr_ HO1049.out)
                (case side4 => exact (Kd.R_reads' HO1049.out).2.1)
                rintro e w17 ⟨v1052, rfl, ho0, hb⟩
                refine ⟨_, rfl, ?_⟩
                have HO1053 := rl_ (rn_ (rn_ ho0 HO1045) HO1049)
                replace HO1045 := re_ HO1045 ho0 hb
                replace HO1049 := re_ HO1049 ho0 hb
                replace BK1041 := bb_ BK1041 hb
                replace BK1066 := bb_ BK1066 hb
                replace HB := hb_ hb
                clear hb ho0
                refine hK.out _ _ ⟨(blk_cell BK1041.out 0).trans rfl, (blk_cell BK1041.out 1).trans rfl⟩ (fun hHeld => ?_)
                clear hK K
                refine np_ 15 (h := ?_)
                exact nm_ (hJ2_4_5_13 (.slice Ao15 t1043.length co15, .slice Ao16 t1047.length co16, v1052, gb1066) _ ⟨hHeld, (kr_ HO1045.out), (kr_ HO1049.out), (by refine kr_ ?_; exact Kd.R_mono HO1053.out (fun _ hk => ⟨hk.1.2, hk.2⟩)), (bk_ BK1041.out), (bk_ BK1066.out), GW1066.out, GE1066.out, NB1041_1066.out, NB1066_1041.out, (bl_)⟩)
               ·skip
                refine box_step ?hg (N := 6) ?hd (cs := #[.bool false, .slice none 0 0]) (t := 91) ?hr ?_; (case hd => rfl); (case hg => rfl); (case hr => first | (go_simp; done) | (go_simp; rfl))
                intro gb1067 hg w15 hbox hb
                replace HO1045 := rb_ HO1045 hb
                replace HO1049 := rb_ HO1049 hb
                have BK1067 := Aside0.mk (hbox)
                have GW1067 := gw_ hg
                have GE1067 := gw_ hg
                replace HB := hb_ hb
                have NB1041_1067 := nl_ hg BK1041
                have NB1067_1041 := sy_ NB1041_1067
                replace BK1041 := bb_ BK1041 hb
                have NB1066_1067 := nl_ hg BK1066
                have NB1067_1066 := sy_ NB1066_1067
                replace BK1066 := bb_ BK1066 hb
                clear hb hbox hg
                refine hK.out _ _ ⟨(blk_cell BK1041.out 0).trans rfl, (blk_cell BK1041.out 1).trans rfl⟩ (fun hHeld => ?_)
                clear hK K
                refine np_ 6 (h := ?_)
                exact nm_ (hJ2_4_13_14 (_, _, gb1066, gb1067) _ ⟨hHeld, (kr_ HO1045.out), (kr_ HO1049.out), (bk_ BK1041.out), (bk_ BK1066.out), (bk_ BK1067.out), GW1066.out, GE1066.out, NB1041_1066.out, NB1066_1041.out, NB1067_1066.out, NB1066_1067.out, GW1067.out, GE1067.out, NB1041_1067.out, NB1067_1041.out, (bl_)⟩)
             ·skip
              rintro ⟨v1044, v1048, v1052⟩ w16 ⟨hS_, h0_, h1_, h2_, h3_, h4_⟩
              have HO1045 : Aside0 (Kd.R (Kd.int .i64) 3 w16 w.heap.size (fun k_ => some k_ ≠ (v1048 : Value).ownBlock ∧ some k_ ≠ (v1052 : Value).ownBlock) v1044 t1043) := ⟨h0_⟩
              have HO1049 : Aside0 (Kd.R (Kd.int .i64) 3 w16 w.heap.size (fun k_ => some k_ ≠ (v1044 : Value).ownBlock ∧ some k_ ≠ (v1052 : Value).ownBlock) v1048 t1047) := ⟨h1_⟩
              have HO1053 : Aside0 (Kd.R (Kd.int .i64) 3 w16 w.heap.size (fun k_ => some k_ ≠ (v1044 : Value).ownBlock ∧ some k_ ≠ (v1048 : Value).ownBlock) v1052 t1051) := ⟨h2_⟩
              replace BK1041 : Aside0 (w16.heap[gb1041]? = some (.cells #[.int .i64 a0_0, .int .i64 a0_1] 26 (0, 0))) := ⟨h3_⟩
              replace HB : Aside0 (Below w.heap.size w w16) := ⟨h4_⟩
              clear h0_ h1_ h2_ h3_ h4_
              have hHeld : w16.cell? ⟨gb1041, 0, none⟩ = some (.int .i64 a0_0) ∧ w16.cell? ⟨gb1041, 1, none⟩ = some (.int .i64 a0_1) := hS_
              refine norm_ (a' := ?_) ?_ ?_
              rotate_left
              ·simp only [putAll, Act.put, List.setIfInBounds_toArray, List.set_cons_zero, List.set_cons_succ]
               rfl
              refine three_ (i := 8) (j := 13) (k := 14) (Ni := some 18) (Nj := some 5) (Nk := some 6) #[true, true, true, true, true, true, true, true, true, false, false, false, false, false, false, false, false] #[true, true, true, true, true, true, true, true, false, false, false, false, false, true, false, false, false] #[true, true, true, true, true, true, true, true, false, false, false, false, false, false, true, false, false] rfl rfl rfl rfl rfl rfl (three_of HT_.out (by kernel_rfl)) (by decide) (by decide) (by decide) (fun K hK => ?_) (fun K hK => ?_) (fun K hK => ?_)
              ·skip
               refine goes_ Tryd.func81 (by kernel_rfl) rfl #[.int .i64 a0_1] (by rfl) rfl rfl (as_) ?_
               with_reducible refine (trishawref01_Of.calls k a0_1 t1054 t1055 _ A6.out).mono ?_
               rintro e w17 ⟨v1056, rfl, ho0, hb⟩
               refine ⟨_, rfl, ?_⟩
               have HO1057 := rl_ (rn_ (rn_ (rn_ ho0 HO1045) HO1049) HO1053)
               replace HO1045 := re_ HO1045 ho0 hb
               replace HO1049 := re_ HO1049 ho0 hb
               replace HO1053 := re_ HO1053 ho0 hb
               replace BK1041 := bb_ BK1041 hb
               replace HB := hb_ hb
               clear hb ho0
               refine hK.out _ _ ⟨(blk_cell BK1041.out 0).trans rfl, (blk_cell BK1041.out 1).trans rfl⟩ (fun hHeld => ?_)
               clear hK K
               refine np_ 18 (h := ?_)
               exact nm_ (hJ2_4_5_8 (_, _, _, _) _ ⟨hHeld, (by refine kr_ ?_; exact Kd.R_mono HO1045.out (fun _ hk => ⟨hk.1.1, ⟨hk.1.2, hk.2⟩⟩)), (by refine kr_ ?_; exact Kd.R_mono HO1049.out (fun _ hk => ⟨hk.1.1, ⟨hk.1.2, hk.2⟩⟩)), (by refine kr_ ?_; exact Kd.R_mono HO1053.out (fun _ hk => ⟨hk.1.1, ⟨hk.1.2, hk.2⟩⟩)), (by refine kr_ ?_; exact Kd.R_mono HO1057.out (fun _ hk => ⟨hk.1.1.2, ⟨hk.1.2, hk.2⟩⟩)), (bk_ BK1041.out), (bl_)⟩)
              ·skip
               refine box_step ?hg (N := 5) ?hd (cs := #[.bool false, .slice none 0 0]) (t := 91) ?hr ?_; (case hd => rfl); (case hg => rfl); (case hr => first | (go_simp; done) | (go_simp; rfl))
               intro gb1066 hg w17 hbox hb
               replace HO1045 := rb_ HO1045 hb
               replace HO1049 := rb_ HO1049 hb
               replace HO1053 := rb_ HO1053 hb
               have BK1066 := Aside0.mk (hbox)
               have GW1066 := gw_ hg
               have GE1066 := gw_ hg
               replace HB := hb_ hb
               have NB1041_1066 := nl_ hg BK1041
               have NB1066_1041 := sy_ NB1041_1066
               replace BK1041 := bb_ BK1041 hb
               clear hb hbox hg
               refine hK.out _ _ ⟨(blk_cell BK1041.out 0).trans rfl, (blk_cell BK1041.out 1).trans rfl⟩ (fun hHeld => ?_)
               clear hK K
               refine np_ 5 (h := ?_)
               exact nm_ (hJ2_4_5_13 (_, _, _, gb1066) _ ⟨hHeld, (kr_ HO1045.out), (kr_ HO1049.out), (kr_ HO1053.out), (bk_ BK1041.out), (bk_ BK1066.out), GW1066.out, GE1066.out, NB1041_1066.out, NB1066_1041.out, (bl_)⟩)
              ·skip
               refine box_step ?hg (N := 6) ?hd (cs := #[.bool false, .slice none 0 0]) (t := 91) ?hr ?_; (case hd => rfl); (case hg => rfl); (case hr => first | (go_simp; done) | (go_simp; rfl))
               intro gb1067 hg w17 hbox hb
               replace HO1045 := rb_ HO1045 hb
               replace HO1049 := rb_ HO1049 hb
               replace HO1053 := rb_ HO1053 hb
               have BK1067 := Aside0.mk (hbox)
               have GW1067 := gw_ hg
               have GE1067 := gw_ hg
               replace HB := hb_ hb
               have NB1041_1067 := nl_ hg BK1041
               have NB1067_1041 := sy_ NB1041_1067
               replace BK1041 := bb_ BK1041 hb
               clear hb hbox hg
               refine hK.out _ _ ⟨(blk_cell BK1041.out 0).trans rfl, (blk_cell BK1041.out 1).trans rfl⟩ (fun hHeld => ?_)
               clear hK K
               refine np_ 6 (h := ?_)
               exact nm_ (hJ2_4_5_14 (_, _, _, gb1067) _ ⟨hHeld, (kr_ HO1045.out), (kr_ HO1049.out), (kr_ HO1053.out), (bk_ BK1041.out), (bk_ BK1067.out), GW1067.out, GE1067.out, NB1041_1067.out, NB1067_1041.out, (bl_)⟩)
            ·skip
             rintro ⟨v1044, v1048, gb1066, gb1067⟩ w15 ⟨hS_, h0_, h1_, h2_, h3_, h4_, h5_, h6_, h7_, h8_, h9_, h10_, h11_, h12_, h13_, h14_, h15_⟩
             have HO1045 : Aside0 (Kd.R (Kd.int .i64) 3 w15 w.heap.size (fun k_ => some k_ ≠ (v1048 : Value).ownBlock) v1044 t1043) := ⟨h0_⟩
             have HO1049 : Aside0 (Kd.R (Kd.int .i64) 3 w15 w.heap.size (fun k_ => some k_ ≠ (v1044 : Value).ownBlock) v1048 t1047) := ⟨h1_⟩
             replace BK1041 : Aside0 (w15.heap[gb1041]? = some (.cells #[.int .i64 a0_0, .int .i64 a0_1] 26 (0, 0))) := ⟨h2_⟩
             have BK1066 : Aside0 (w15.heap[gb1066]? = some (.cells #[.bool false, .slice none 0 0] 91 (0, 0))) := ⟨h3_⟩
             have BK1067 : Aside0 (w15.heap[gb1067]? = some (.cells #[.bool false, .slice none 0 0] 91 (0, 0))) := ⟨h4_⟩
             have GW1066 : Aside0 (w.heap.size ≤ gb1066) := ⟨h5_⟩
             have GE1066 : Aside0 (w.heap.size ≤ gb1066) := ⟨h6_⟩
             have NB1041_1066 : Aside0 (gb1041 ≠ gb1066) := ⟨h7_⟩
             have NB1066_1041 : Aside0 (gb1066 ≠ gb1041) := ⟨h8_⟩
             have NB1067_1066 : Aside0 (gb1067 ≠ gb1066) := ⟨h9_⟩
             have NB1066_1067 : Aside0 (gb1066 ≠ gb1067) := ⟨h10_⟩
             have GW1067 : Aside0 (w.heap.size ≤ gb1067) := ⟨h11_⟩
             have GE1067 : Aside0 (w.heap.size ≤ gb1067) := ⟨h12_⟩
             have NB1041_1067 : Aside0 (gb1041 ≠ gb1067) := ⟨h13_⟩
             have NB1067_1041 : Aside0 (gb1067 ≠ gb1041) := ⟨h14_⟩
             replace HB : Aside0 (Below w.heap.size w w15) := ⟨h15_⟩
             clear h0_ h1_ h2_ h3_ h4_ h5_ h6_ h7_ h8_ h9_ h10_ h11_ h12_ h13_ h14_ h15_
             have hHeld : w15.cell? ⟨gb1041, 0, none⟩ = some (.int .i64 a0_0) ∧ w15.cell? ⟨gb1041, 1, none⟩ = some (.int .i64 a0_1) := hS_
             obtain ⟨Ao16, co16, eo16⟩ := Kd.R_slice HO1045.out
             (first | subst eo16 | (injection eo16 with f1_ f2_ f3_; have f4_ := f1_.symm; have f5_ := f3_.symm; clear f1_ f2_ f3_; subst f4_; subst f5_))
             obtain ⟨Ao17, co17, eo17⟩ := Kd.R_slice HO1049.out
             (first | subst eo17 | (injection eo17 with f1_ f2_ f3_; have f4_ := f1_.symm; have f5_ := f3_.symm; clear f1_ f2_ f3_; subst f4_; subst f5_))
             refine norm_ (a' := ?_) ?_ ?_
             rotate_left
             ·simp only [putAll, Act.put, List.setIfInBounds_toArray, List.set_cons_zero, List.set_cons_succ]
              rfl
             refine one_ (i := 5) (N := some 15) #[true, true, true, true, true, true, true, true, false, false, false, false, false, true, true, false, false] rfl rfl (one_of HT_.out (by kernel_rfl)) (by decide) (fun K hK => ?_)
             refine goes_ Tryd.func80 (by kernel_rfl) rfl #[.agg #[.bool t1042, .slice Ao16 t1043.length co16], .agg #[.bool t1046, .slice Ao17 t1047.length co17]] (by rfl) rfl rfl (as_) ?_
             with_reducible refine (trishawref01_Times.calls k t1042 _ _ t1043 t1046 _ _ t1047 t1050 t1051 _ ?side1 ?side2 ?side3 ?side4 A5.out).mono ?_
             (case side1 => exact cr_ HO1045.out)
             (case side2 => exact (Kd.R_reads' HO1045.out).2.1)
             (case side3 => exact cr_ HO1049.out)
             (case side4 => exact (Kd.R_reads' HO1049.out).2.1)
             rintro e w18 ⟨v1052, rfl, ho0, hb⟩
             refine ⟨_, rfl, ?_⟩
             have HO1053 := rl_ (rn_ (rn_ ho0 HO1045) HO1049)
             replace HO1045 := re_ HO1045 ho0 hb
             replace HO1049 := re_ HO1049 ho0 hb
             replace BK1041 := bb_ BK1041 hb
             replace BK1066 := bb_ BK1066 hb
             replace BK1067 := bb_ BK1067 hb
             replace HB := hb_ hb
             clear hb ho0
             refine hK.out _ _ ⟨(blk_cell BK1041.out 0).trans rfl, (blk_cell BK1041.out 1).trans rfl⟩ (fun hHeld => ?_)
             clear hK K
             refine np_ 15 (h := ?_)
             exact nm_ (hJ2_4_5_13_14 (.slice Ao16 t1043.length co16, .slice Ao17 t1047.length co17, v1052, gb1066, gb1067) _ ⟨hHeld, (kr_ HO1045.out), (kr_ HO1049.out), (by refine kr_ ?_; exact Kd.R_mono HO1053.out (fun _ hk => ⟨hk.1.2, hk.2⟩)), (bk_ BK1041.out), (bk_ BK1066.out), (bk_ BK1067.out), GW1066.out, GE1066.out, NB1041_1066.out, NB1066_1041.out, NB1067_1066.out, NB1066_1067.out, GW1067.out, GE1067.out, NB1041_1067.out, NB1067_1041.out, (bl_)⟩)
           ·skip
            rintro ⟨v1044, v1048, v1052, gb1067⟩ w17 ⟨hS_, h0_, h1_, h2_, h3_, h4_, h5_, h6_, h7_, h8_, h9_⟩
            have HO1045 : Aside0 (Kd.R (Kd.int .i64) 3 w17 w.heap.size (fun k_ => some k_ ≠ (v1048 : Value).ownBlock ∧ some k_ ≠ (v1052 : Value).ownBlock) v1044 t1043) := ⟨h0_⟩
            have HO1049 : Aside0 (Kd.R (Kd.int .i64) 3 w17 w.heap.size (fun k_ => some k_ ≠ (v1044 : Value).ownBlock ∧ some k_ ≠ (v1052 : Value).ownBlock) v1048 t1047) := ⟨h1_⟩
            have HO1053 : Aside0 (Kd.R (Kd.int .i64) 3 w17 w.heap.size (fun k_ => some k_ ≠ (v1044 : Value).ownBlock ∧ some k_ ≠ (v1048 : Value).ownBlock) v1052 t1051) := ⟨h2_⟩
            replace BK1041 : Aside0 (w17.heap[gb1041]? = some (.cells #[.int .i64 a0_0, .int .i64 a0_1] 26 (0, 0))) := ⟨h3_⟩
            have BK1067 : Aside0 (w17.heap[gb1067]? = some (.cells #[.bool false, .slice none 0 0] 91 (0, 0))) := ⟨h4_⟩
            have GW1067 : Aside0 (w.heap.size ≤ gb1067) := ⟨h5_⟩
            have GE1067 : Aside0 (w.heap.size ≤ gb1067) := ⟨h6_⟩
            have NB1041_1067 : Aside0 (gb1041 ≠ gb1067) := ⟨h7_⟩
            have NB1067_1041 : Aside0 (gb1067 ≠ gb1041) := ⟨h8_⟩
            replace HB : Aside0 (Below w.heap.size w w17) := ⟨h9_⟩
            clear h0_ h1_ h2_ h3_ h4_ h5_ h6_ h7_ h8_ h9_
            have hHeld : w17.cell? ⟨gb1041, 0, none⟩ = some (.int .i64 a0_0) ∧ w17.cell? ⟨gb1041, 1, none⟩ = some (.int .i64 a0_1) := hS_
            refine norm_ (a' := ?_) ?_ ?_
            rotate_left
            ·simp only [putAll, Act.put, List.setIfInBounds_toArray, List.set_cons_zero, List.set_cons_succ]
             rfl
            refine two_ (i := 8) (j := 13) (Ni := some 18) (Nj := some 5) #[true, true, true, true, true, true, true, true, true, false, false, false, false, false, true, false, false] #[true, true, true, true, true, true, true, true, false, false, false, false, false, true, true, false, false] rfl rfl rfl rfl (two_of HT_.out (by kernel_rfl)) (by decide) (by decide) (fun K hK => ?_) (fun K hK => ?_)
            ·skip
             refine goes_ Tryd.func81 (by kernel_rfl) rfl #[.int .i64 a0_1] (by rfl) rfl rfl (as_) ?_
             with_reducible refine (trishawref01_Of.calls k a0_1 t1054 t1055 _ A6.out).mono ?_
             rintro e w18 ⟨v1056, rfl, ho0, hb⟩
             refine ⟨_, rfl, ?_⟩
             have HO1057 := rl_ (rn_ (rn_ (rn_ ho0 HO1045) HO1049) HO1053)
             replace HO1045 := re_ HO1045 ho0 hb
             replace HO1049 := re_ HO1049 ho0 hb
             replace HO1053 := re_ HO1053 ho0 hb
             replace BK1041 := bb_ BK1041 hb
             replace BK1067 := bb_ BK1067 hb
             replace HB := hb_ hb
             clear hb ho0
             refine hK.out _ _ ⟨(blk_cell BK1041.out 0).trans rfl, (blk_cell BK1041.out 1).trans rfl⟩ (fun hHeld => ?_)
             clear hK K
             refine np_ 18 (h := ?_)
             exact nm_ (hJ2_4_5_8_14 (_, _, _, _, gb1067) _ ⟨hHeld, (by refine kr_ ?_; exact Kd.R_mono HO1045.out (fun _ hk => ⟨hk.1.1, ⟨hk.1.2, hk.2⟩⟩)), (by refine kr_ ?_; exact Kd.R_mono HO1049.out (fun _ hk => ⟨hk.1.1, ⟨hk.1.2, hk.2⟩⟩)), (by refine kr_ ?_; exact Kd.R_mono HO1053.out (fun _ hk => ⟨hk.1.1, ⟨hk.1.2, hk.2⟩⟩)), (by refine kr_ ?_; exact Kd.R_mono HO1057.out (fun _ hk => ⟨hk.1.1.2, ⟨hk.1.2, hk.2⟩⟩)), (bk_ BK1041.out), (bk_ BK1067.out), GW1067.out, GE1067.out, NB1041_1067.out, NB1067_1041.out, (bl_)⟩)
            ·skip
             refine box_step ?hg (N := 5) ?hd (cs := #[.bool false, .slice none 0 0]) (t := 91) ?hr ?_; (case hd => rfl); (case hg => rfl); (case hr => first | (go_simp; done) | (go_simp; rfl))
             intro gb1066 hg w18 hbox hb
             replace HO1045 := rb_ HO1045 hb
             replace HO1049 := rb_ HO1049 hb
             replace HO1053 := rb_ HO1053 hb
             have BK1066 := Aside0.mk (hbox)
             have GW1066 := gw_ hg
             have GE1066 := gw_ hg
             replace HB := hb_ hb
             have NB1041_1066 := nl_ hg BK1041
             have NB1066_1041 := sy_ NB1041_1066
             replace BK1041 := bb_ BK1041 hb
             have NB1067_1066 := nl_ hg BK1067
             have NB1066_1067 := sy_ NB1067_1066
             replace BK1067 := bb_ BK1067 hb
             clear hb hbox hg
             refine hK.out _ _ ⟨(blk_cell BK1041.out 0).trans rfl, (blk_cell BK1041.out 1).trans rfl⟩ (fun hHeld => ?_)
             clear hK K
             refine np_ 5 (h := ?_)
             exact nm_ (hJ2_4_5_13_14 (_, _, _, gb1066, gb1067) _ ⟨hHeld, (kr_ HO1045.out), (kr_ HO1049.out), (kr_ HO1053.out), (bk_ BK1041.out), (bk_ BK1066.out), (bk_ BK1067.out), GW1066.out, GE1066.out, NB1041_1066.out, NB1066_1041.out, NB1067_1066.out, NB1066_1067.out, GW1067.out, GE1067.out, NB1041_1067.out, NB1067_1041.out, (bl_)⟩)
          ·skip
           rintro ⟨v1044, v1048, v1052, gb1066⟩ w17 ⟨hS_, h0_, h1_, h2_, h3_, h4_, h5_, h6_, h7_, h8_, h9_⟩
           have HO1045 : Aside0 (Kd.R (Kd.int .i64) 3 w17 w.heap.size (fun k_ => some k_ ≠ (v1048 : Value).ownBlock ∧ some k_ ≠ (v1052 : Value).ownBlock) v1044 t1043) := ⟨h0_⟩
           have HO1049 : Aside0 (Kd.R (Kd.int .i64) 3 w17 w.heap.size (fun k_ => some k_ ≠ (v1044 : Value).ownBlock ∧ some k_ ≠ (v1052 : Value).ownBlock) v1048 t1047) := ⟨h1_⟩
           have HO1053 : Aside0 (Kd.R (Kd.int .i64) 3 w17 w.heap.size (fun k_ => some k_ ≠ (v1044 : Value).ownBlock ∧ some k_ ≠ (v1048 : Value).ownBlock) v1052 t1051) := ⟨h2_⟩
           replace BK1041 : Aside0 (w17.heap[gb1041]? = some (.cells #[.int .i64 a0_0, .int .i64 a0_1] 26 (0, 0))) := ⟨h3_⟩
           have BK1066 : Aside0 (w17.heap[gb1066]? = some (.cells #[.bool false, .slice none 0 0] 91 (0, 0))) := ⟨h4_⟩
           have GW1066 : Aside0 (w.heap.size ≤ gb1066) := ⟨h5_⟩
           have GE1066 : Aside0 (w.heap.size ≤ gb1066) := ⟨h6_⟩
           have NB1041_1066 : Aside0 (gb1041 ≠ gb1066) := ⟨h7_⟩
           have NB1066_1041 : Aside0 (gb1066 ≠ gb1041) := ⟨h8_⟩
           replace HB : Aside0 (Below w.heap.size w w17) := ⟨h9_⟩
           clear h0_ h1_ h2_ h3_ h4_ h5_ h6_ h7_ h8_ h9_
           have hHeld : w17.cell? ⟨gb1041, 0, none⟩ = some (.int .i64 a0_0) ∧ w17.cell? ⟨gb1041, 1, none⟩ = some (.int .i64 a0_1) := hS_
           refine norm_ (a' := ?_) ?_ ?_
           rotate_left
           ·simp only [putAll, Act.put, List.setIfInBounds_toArray, List.set_cons_zero, List.set_cons_succ]
            rfl
           refine two_ (i := 8) (j := 14) (Ni := some 18) (Nj := some 6) #[true, true, true, true, true, true, true, true, true, false, false, false, false, true, false, false, false] #[true, true, true, true, true, true, true, true, false, false, false, false, false, true, true, false, false] rfl rfl rfl rfl (two_of HT_.out (by kernel_rfl)) (by decide) (by decide) (fun K hK => ?_) (fun K hK => ?_)
           ·skip
            refine goes_ Tryd.func81 (by kernel_rfl) rfl #[.int .i64 a0_1] (by rfl) rfl rfl (as_) ?_
            with_reducible refine (trishawref01_Of.calls k a0_1 t1054 t1055 _ A6.out).mono ?_
            rintro e w18 ⟨v1056, rfl, ho0, hb⟩
            refine ⟨_, rfl, ?_⟩
            have HO1057 := rl_ (rn_ (rn_ (rn_ ho0 HO1045) HO1049) HO1053)
            replace HO1045 := re_ HO1045 ho0 hb
            replace HO1049 := re_ HO1049 ho0 hb
            replace HO1053 := re_ HO1053 ho0 hb
            replace BK1041 := bb_ BK1041 hb
            replace BK1066 := bb_ BK1066 hb
            replace HB := hb_ hb
            clear hb ho0
            refine hK.out _ _ ⟨(blk_cell BK1041.out 0).trans rfl, (blk_cell BK1041.out 1).trans rfl⟩ (fun hHeld => ?_)
            clear hK K
            refine np_ 18 (h := ?_)
            exact nm_ (hJ2_4_5_8_13 (_, _, _, _, gb1066) _ ⟨hHeld, (by refine kr_ ?_; exact Kd.R_mono HO1045.out (fun _ hk => ⟨hk.1.1, ⟨hk.1.2, hk.2⟩⟩)), (by refine kr_ ?_; exact Kd.R_mono HO1049.out (fun _ hk => ⟨hk.1.1, ⟨hk.1.2, hk.2⟩⟩)), (by refine kr_ ?_; exact Kd.R_mono HO1053.out (fun _ hk => ⟨hk.1.1, ⟨hk.1.2, hk.2⟩⟩)), (by refine kr_ ?_; exact Kd.R_mono HO1057.out (fun _ hk => ⟨hk.1.1.2, ⟨hk.1.2, hk.2⟩⟩)), (bk_ BK1041.out), (bk_ BK1066.out), GW1066.out, GE1066.out, NB1041_1066.out, NB1066_1041.out, (bl_)⟩)
           ·skip
            refine box_step ?hg (N := 6) ?hd (cs := #[.bool false, .slice none 0 0]) (t := 91) ?hr ?_; (case hd => rfl); (case hg => rfl); (case hr => first | (go_simp; done) | (go_simp; rfl))
            intro gb1067 hg w18 hbox hb
            replace HO1045 := rb_ HO1045 hb
            replace HO1049 := rb_ HO1049 hb
            replace HO1053 := rb_ HO1053 hb
            have BK1067 := Aside0.mk (hbox)
            have GW1067 := gw_ hg
            have GE1067 := gw_ hg
            replace HB := hb_ hb
            have NB1041_1067 := nl_ hg BK1041
            have NB1067_1041 := sy_ NB1041_1067
            replace BK1041 := bb_ BK1041 hb
            have NB1066_1067 := nl_ hg BK1066
            have NB1067_1066 := sy_ NB1066_1067
            replace BK1066 := bb_ BK1066 hb
            clear hb hbox hg
            refine hK.out _ _ ⟨(blk_cell BK1041.out 0).trans rfl, (blk_cell BK1041.out 1).trans rfl⟩ (fun hHeld => ?_)
            clear hK K
            refine np_ 6 (h := ?_)
            exact nm_ (hJ2_4_5_13_14 (_, _, _, gb1066, gb1067) _ ⟨hHeld, (kr_ HO1045.out), (kr_ HO1049.out), (kr_ HO1053.out), (bk_ BK1041.out), (bk_ BK1066.out), (bk_ BK1067.out), GW1066.out, GE1066.out, NB1041_1066.out, NB1066_1041.out, NB1067_1066.out, NB1066_1067.out, GW1067.out, GE1067.out, NB1041_1067.out, NB1067_1041.out, (bl_)⟩)
         ·skip
          rintro ⟨v1044, v1048, v1052, v1056⟩ w17 ⟨hS_, h0_, h1_, h2_, h3_, h4_, h5_⟩
          have HO1045 : Aside0 (Kd.R (Kd.int .i64) 3 w17 w.heap.size (fun k_ => some k_ ≠ (v1048 : Value).ownBlock ∧ some k_ ≠ (v1052 : Value).ownBlock ∧ some k_ ≠ (v1056 : Value).ownBlock) v1044 t1043) := ⟨h0_⟩
          have HO1049 : Aside0 (Kd.R (Kd.int .i64) 3 w17 w.heap.size (fun k_ => some k_ ≠ (v1044 : Value).ownBlock ∧ some k_ ≠ (v1052 : Value).ownBlock ∧ some k_ ≠ (v1056 : Value).ownBlock) v1048 t1047) := ⟨h1_⟩
          have HO1053 : Aside0 (Kd.R (Kd.int .i64) 3 w17 w.heap.size (fun k_ => some k_ ≠ (v1044 : Value).ownBlock ∧ some k_ ≠ (v1048 : Value).ownBlock ∧ some k_ ≠ (v1056 : Value).ownBlock) v1052 t1051) := ⟨h2_⟩
          have HO1057 : Aside0 (Kd.R (Kd.int .i64) 3 w17 w.heap.size (fun k_ => some k_ ≠ (v1044 : Value).ownBlock ∧ some k_ ≠ (v1048 : Value).ownBlock ∧ some k_ ≠ (v1052 : Value).ownBlock) v1056 t1055) := ⟨h3_⟩
          replace BK1041 : Aside0 (w17.heap[gb1041]? = some (.cells #[.int .i64 a0_0, .int .i64 a0_1] 26 (0, 0))) := ⟨h4_⟩
          replace HB : Aside0 (Below w.heap.size w w17) := ⟨h5_⟩
          clear h0_ h1_ h2_ h3_ h4_ h5_
          have hHeld : w17.cell? ⟨gb1041, 0, none⟩ = some (.int .i64 a0_0) ∧ w17.cell? ⟨gb1041, 1, none⟩ = some (.int .i64 a0_1) := hS_
          obtain ⟨Ao18, co18, eo18⟩ := Kd.R_slice HO1053.out
          (first | subst eo18 | (injection eo18 with f1_ f2_ f3_; have f4_ := f1_.symm; have f5_ := f3_.symm; clear f1_ f2_ f3_; subst f4_; subst f5_))
          obtain ⟨Ao19, co19, eo19⟩ := Kd.R_slice HO1057.out
          (first | subst eo19 | (injection eo19 with f1_ f2_ f3_; have f4_ := f1_.symm; have f5_ := f3_.symm; clear f1_ f2_ f3_; subst f4_; subst f5_))
          refine norm_ (a' := ?_) ?_ ?_
          rotate_left
          ·simp only [putAll, Act.put, List.setIfInBounds_toArray, List.set_cons_zero, List.set_cons_succ]
           rfl
          refine three_ (i := 9) (j := 13) (k := 14) (Ni := some 19) (Nj := some 5) (Nk := some 6) #[true, true, true, true, true, true, true, true, true, true, false, false, false, false, false, false, false] #[true, true, true, true, true, true, true, true, true, false, false, false, false, true, false, false, false] #[true, true, true, true, true, true, true, true, true, false, false, false, false, false, true, false, false] rfl rfl rfl rfl rfl rfl (three_of HT_.out (by kernel_rfl)) (by decide) (by decide) (by decide) (fun K hK => ?_) (fun K hK => ?_) (fun K hK => ?_)
          ·skip
           refine goes_ Tryd.func79 (by kernel_rfl) rfl #[.agg #[.bool t1050, .slice Ao18 t1051.length co18], .agg #[.bool t1054, .slice Ao19 t1055.length co19]] (by rfl) rfl rfl (as_) ?_
           with_reducible refine (trishawref01_Over.calls k t1050 _ _ t1051 t1054 _ _ t1055 t1058 t1059 t1062 t1063 _ ?side1 ?side2 ?side3 ?side4 A7.out).mono ?_
           (case side1 => exact cr_ HO1053.out)
           (case side2 => exact (Kd.R_reads' HO1053.out).2.1)
           (case side3 => exact cr_ HO1057.out)
           (case side4 => exact (Kd.R_reads' HO1057.out).2.1)
           rintro e w20 ⟨v1060, v1064, rfl, ho0, ho1, hb⟩
           refine ⟨_, rfl, ?_⟩
           have HO1061 := rl_ (rn_ (rn_ (rn_ (rn_ ho0 HO1045) HO1049) HO1053) HO1057)
           have HO1065 := rl_ (rn_ (rn_ (rn_ (rn_ ho1 HO1045) HO1049) HO1053) HO1057)
           replace HO1045 := Aside0.mk (Kd.R_mono (Kd.R_told (Kd.R_told (Kd.R_old (kr_ HO1045.out) hb) (Kd.R_base ho0)) (Kd.R_base ho1)) (fun _ h_ => h_.1))
           replace HO1049 := Aside0.mk (Kd.R_mono (Kd.R_told (Kd.R_told (Kd.R_old (kr_ HO1049.out) hb) (Kd.R_base ho0)) (Kd.R_base ho1)) (fun _ h_ => h_.1))
           replace HO1053 := Aside0.mk (Kd.R_mono (Kd.R_told (Kd.R_told (Kd.R_old (kr_ HO1053.out) hb) (Kd.R_base ho0)) (Kd.R_base ho1)) (fun _ h_ => h_.1))
           replace HO1057 := Aside0.mk (Kd.R_mono (Kd.R_told (Kd.R_told (Kd.R_old (kr_ HO1057.out) hb) (Kd.R_base ho0)) (Kd.R_base ho1)) (fun _ h_ => h_.1))
           replace BK1041 := bb_ BK1041 hb
           replace HB := hb_ hb
           clear hb ho0 ho1
           refine hK.out _ _ ⟨(blk_cell BK1041.out 0).trans rfl, (blk_cell BK1041.out 1).trans rfl⟩ (fun hHeld => ?_)
           clear hK K
           refine np_ 19 (h := ?_)
           refine pu_ 10 9 HT_.out (h := ?_)
           refine pu_ 11 20 HT_.out (h := ?_)
           refine pu_ 12 21 HT_.out (h := ?_)
           exact nm_ (hJ2_4_5_8_9 (v1044, v1048, .slice Ao18 t1051.length co18, .slice Ao19 t1055.length co19, v1060, v1064) _ ⟨hHeld, (by refine kr_ ?_; exact Kd.R_mono HO1045.out (fun _ hk => ⟨hk.1.1.1, ⟨hk.1.1.2.1, ⟨hk.1.1.2.2, ⟨hk.1.2, hk.2⟩⟩⟩⟩)), (by refine kr_ ?_; exact Kd.R_mono HO1049.out (fun _ hk => ⟨hk.1.1.1, ⟨hk.1.1.2.1, ⟨hk.1.1.2.2, ⟨hk.1.2, hk.2⟩⟩⟩⟩)), (by refine kr_ ?_; exact Kd.R_mono HO1053.out (fun _ hk => ⟨hk.1.1.1, ⟨hk.1.1.2.1, ⟨hk.1.1.2.2, ⟨hk.1.2, hk.2⟩⟩⟩⟩)), (by refine kr_ ?_; exact Kd.R_mono HO1057.out (fun _ hk => ⟨hk.1.1.1, ⟨hk.1.1.2.1, ⟨hk.1.1.2.2, ⟨hk.1.2, hk.2⟩⟩⟩⟩)), (by refine kr_ ?_; exact Kd.R_mono HO1061.out (fun _ hk => ⟨hk.1.1.1.2, ⟨hk.1.1.2, ⟨hk.1.2, ⟨hk.2, hk.1.1.1.1⟩⟩⟩⟩)), (by refine kr_ ?_; exact Kd.R_mono HO1065.out (fun _ hk => ⟨hk.1.1.1.2, ⟨hk.1.1.2, ⟨hk.1.2, ⟨hk.2, hk.1.1.1.1⟩⟩⟩⟩)), (bk_ BK1041.out), (bl_)⟩)
          ·skip
           refine box_step ?hg (N := 5) ?hd (cs := #[.bool false, .slice none 0 0]) (t := 91) ?hr ?_; (case hd => rfl); (case hg => rfl); (case hr => first | (go_simp; done) | (go_simp; rfl))
           intro gb1066 hg w18 hbox hb
           replace HO1045 := rb_ HO1045 hb
           replace HO1049 := rb_ HO1049 hb
           replace HO1053 := rb_ HO1053 hb
           replace HO1057 := rb_ HO1057 hb
           have BK1066 := Aside0.mk (hbox)
           have GW1066 := gw_ hg
           have GE1066 := gw_ hg
           replace HB := hb_ hb
           have NB1041_1066 := nl_ hg BK1041
           have NB1066_1041 := sy_ NB1041_1066
           replace BK1041 := bb_ BK1041 hb
           clear hb hbox hg
           refine hK.out _ _ ⟨(blk_cell BK1041.out 0).trans rfl, (blk_cell BK1041.out 1).trans rfl⟩ (fun hHeld => ?_)
           clear hK K
           refine np_ 5 (h := ?_)
           exact nm_ (hJ2_4_5_8_13 (_, _, _, _, gb1066) _ ⟨hHeld, (kr_ HO1045.out), (kr_ HO1049.out), (kr_ HO1053.out), (kr_ HO1057.out), (bk_ BK1041.out), (bk_ BK1066.out), GW1066.out, GE1066.out, NB1041_1066.out, NB1066_1041.out, (bl_)⟩)
          ·skip
           refine box_step ?hg (N := 6) ?hd (cs := #[.bool false, .slice none 0 0]) (t := 91) ?hr ?_; (case hd => rfl); (case hg => rfl); (case hr => first | (go_simp; done) | (go_simp; rfl))
           intro gb1067 hg w18 hbox hb
           replace HO1045 := rb_ HO1045 hb
           replace HO1049 := rb_ HO1049 hb
           replace HO1053 := rb_ HO1053 hb
           replace HO1057 := rb_ HO1057 hb
           have BK1067 := Aside0.mk (hbox)
           have GW1067 := gw_ hg
           have GE1067 := gw_ hg
           replace HB := hb_ hb
           have NB1041_1067 := nl_ hg BK1041
           have NB1067_1041 := sy_ NB1041_1067
           replace BK1041 := bb_ BK1041 hb
           clear hb hbox hg
           refine hK.out _ _ ⟨(blk_cell BK1041.out 0).trans rfl, (blk_cell BK1041.out 1).trans rfl⟩ (fun hHeld => ?_)
           clear hK K
           refine np_ 6 (h := ?_)
           exact nm_ (hJ2_4_5_8_14 (_, _, _, _, gb1067) _ ⟨hHeld, (kr_ HO1045.out), (kr_ HO1049.out), (kr_ HO1053.out), (kr_ HO1057.out), (bk_ BK1041.out), (bk_ BK1067.out), GW1067.out, GE1067.out, NB1041_1067.out, NB1067_1041.out, (bl_)⟩)
        ·skip
         rintro ⟨v1044, v1048, v1052, gb1066, gb1067⟩ w18 ⟨hS_, h0_, h1_, h2_, h3_, h4_, h5_, h6_, h7_, h8_, h9_, h10_, h11_, h12_, h13_, h14_, h15_, h16_⟩
         have HO1045 : Aside0 (Kd.R (Kd.int .i64) 3 w18 w.heap.size (fun k_ => some k_ ≠ (v1048 : Value).ownBlock ∧ some k_ ≠ (v1052 : Value).ownBlock) v1044 t1043) := ⟨h0_⟩
         have HO1049 : Aside0 (Kd.R (Kd.int .i64) 3 w18 w.heap.size (fun k_ => some k_ ≠ (v1044 : Value).ownBlock ∧ some k_ ≠ (v1052 : Value).ownBlock) v1048 t1047) := ⟨h1_⟩
         have HO1053 : Aside0 (Kd.R (Kd.int .i64) 3 w18 w.heap.size (fun k_ => some k_ ≠ (v1044 : Value).ownBlock ∧ some k_ ≠ (v1048 : Value).ownBlock) v1052 t1051) := ⟨h2_⟩
         replace BK1041 : Aside0 (w18.heap[gb1041]? = some (.cells #[.int .i64 a0_0, .int .i64 a0_1] 26 (0, 0))) := ⟨h3_⟩
         have BK1066 : Aside0 (w18.heap[gb1066]? = some (.cells #[.bool false, .slice none 0 0] 91 (0, 0))) := ⟨h4_⟩
         have BK1067 : Aside0 (w18.heap[gb1067]? = some (.cells #[.bool false, .slice none 0 0] 91 (0, 0))) := ⟨h5_⟩
         have GW1066 : Aside0 (w.heap.size ≤ gb1066) := ⟨h6_⟩
         have GE1066 : Aside0 (w.heap.size ≤ gb1066) := ⟨h7_⟩
         have NB1041_1066 : Aside0 (gb1041 ≠ gb1066) := ⟨h8_⟩
         have NB1066_1041 : Aside0 (gb1066 ≠ gb1041) := ⟨h9_⟩
         have NB1067_1066 : Aside0 (gb1067 ≠ gb1066) := ⟨h10_⟩
         have NB1066_1067 : Aside0 (gb1066 ≠ gb1067) := ⟨h11_⟩
         have GW1067 : Aside0 (w.heap.size ≤ gb1067) := ⟨h12_⟩
         have GE1067 : Aside0 (w.heap.size ≤ gb1067) := ⟨h13_⟩
         have NB1041_1067 : Aside0 (gb1041 ≠ gb1067) := ⟨h14_⟩
         have NB1067_1041 : Aside0 (gb1067 ≠ gb1041) := ⟨h15_⟩
         replace HB : Aside0 (Below w.heap.size w w18) := ⟨h16_⟩
         clear h0_ h1_ h2_ h3_ h4_ h5_ h6_ h7_ h8_ h9_ h10_ h11_ h12_ h13_ h14_ h15_ h16_
         have hHeld : w18.cell? ⟨gb1041, 0, none⟩ = some (.int .i64 a0_0) ∧ w18.cell? ⟨gb1041, 1, none⟩ = some (.int .i64 a0_1) := hS_
         refine norm_ (a' := ?_) ?_ ?_
         rotate_left
         ·simp only [putAll, Act.put, List.setIfInBounds_toArray, List.set_cons_zero, List.set_cons_succ]
          rfl
         refine one_ (i := 8) (N := some 18) #[true, true, true, true, true, true, true, true, true, false, false, false, false, true, true, false, false] rfl rfl (one_of HT_.out (by kernel_rfl)) (by decide) (fun K hK => ?_)
         refine goes_ Tryd.func81 (by kernel_rfl) rfl #[.int .i64 a0_1] (by rfl) rfl rfl (as_) ?_
         with_reducible refine (trishawref01_Of.calls k a0_1 t1054 t1055 _ A6.out).mono ?_
         rintro e w19 ⟨v1056, rfl, ho0, hb⟩
         refine ⟨_, rfl, ?_⟩
         have HO1057 := rl_ (rn_ (rn_ (rn_ ho0 HO1045) HO1049) HO1053)
         replace HO1045 := re_ HO1045 ho0 hb
         replace HO1049 := re_ HO1049 ho0 hb
         replace HO1053 := re_ HO1053 ho0 hb
         replace BK1041 := bb_ BK1041 hb
         replace BK1066 := bb_ BK1066 hb
         replace BK1067 := bb_ BK1067 hb
         replace HB := hb_ hb
         clear hb ho0
         refine hK.out _ _ ⟨(blk_cell BK1041.out 0).trans rfl, (blk_cell BK1041.out 1).trans rfl⟩ (fun hHeld => ?_)
         clear hK K
         refine np_ 18 (h := ?_)
         exact nm_ (hJ2_4_5_8_13_14 (_, _, _, _, gb1066, gb1067) _ ⟨hHeld, (by refine kr_ ?_; exact Kd.R_mono HO1045.out (fun _ hk => ⟨hk.1.1, ⟨hk.1.2, hk.2⟩⟩)), (by refine kr_ ?_; exact Kd.R_mono HO1049.out (fun _ hk => ⟨hk.1.1, ⟨hk.1.2, hk.2⟩⟩)), (by refine kr_ ?_; exact Kd.R_mono HO1053.out (fun _ hk => ⟨hk.1.1, ⟨hk.1.2, hk.2⟩⟩)), (by refine kr_ ?_; exact Kd.R_mono HO1057.out (fun _ hk => ⟨hk.1.1.2, ⟨hk.1.2, hk.2⟩⟩)), (bk_ BK1041.out), (bk_ BK1066.out), (bk_ BK1067.out), GW1066.out, GE1066.out, NB1041_1066.out, NB1066_1041.out, NB1067_1066.out, NB1066_1067.out, GW1067.out, GE1067.out, NB1041_1067.out, NB1067_1041.out, (bl_)⟩)
       ·skip
        rintro ⟨v1044, v1048, v1052, v1056, gb1067⟩ w18 ⟨hS_, h0_, h1_, h2_, h3_, h4_, h5_, h6_, h7_, h8_, h9_, h10_⟩
        have HO1045 : Aside0 (Kd.R (Kd.int .i64) 3 w18 w.heap.size (fun k_ => some k_ ≠ (v1048 : Value).ownBlock ∧ some k_ ≠ (v1052 : Value).ownBlock ∧ some k_ ≠ (v1056 : Value).ownBlock) v1044 t1043) := ⟨h0_⟩
        have HO1049 : Aside0 (Kd.R (Kd.int .i64) 3 w18 w.heap.size (fun k_ => some k_ ≠ (v1044 : Value).ownBlock ∧ some k_ ≠ (v1052 : Value).ownBlock ∧ some k_ ≠ (v1056 : Value).ownBlock) v1048 t1047) := ⟨h1_⟩
        have HO1053 : Aside0 (Kd.R (Kd.int .i64) 3 w18 w.heap.size (fun k_ => some k_ ≠ (v1044 : Value).ownBlock ∧ some k_ ≠ (v1048 : Value).ownBlock ∧ some k_ ≠ (v1056 : Value).ownBlock) v1052 t1051) := ⟨h2_⟩
        have HO1057 : Aside0 (Kd.R (Kd.int .i64) 3 w18 w.heap.size (fun k_ => some k_ ≠ (v1044 : Value).ownBlock ∧ some k_ ≠ (v1048 : Value).ownBlock ∧ some k_ ≠ (v1052 : Value).ownBlock) v1056 t1055) := ⟨h3_⟩
        replace BK1041 : Aside0 (w18.heap[gb1041]? = some (.cells #[.int .i64 a0_0, .int .i64 a0_1] 26 (0, 0))) := ⟨h4_⟩
        have BK1067 : Aside0 (w18.heap[gb1067]? = some (.cells #[.bool false, .slice none 0 0] 91 (0, 0))) := ⟨h5_⟩
        have GW1067 : Aside0 (w.heap.size ≤ gb1067) := ⟨h6_⟩
        have GE1067 : Aside0 (w.heap.size ≤ gb1067) := ⟨h7_⟩
        have NB1041_1067 : Aside0 (gb1041 ≠ gb1067) := ⟨h8_⟩
        have NB1067_1041 : Aside0 (gb1067 ≠ gb1041) := ⟨h9_⟩
        replace HB : Aside0 (Below w.heap.size w w18) := ⟨h10_⟩
        clear h0_ h1_ h2_ h3_ h4_ h5_ h6_ h7_ h8_ h9_ h10_
        have hHeld : w18.cell? ⟨gb1041, 0, none⟩ = some (.int .i64 a0_0) ∧ w18.cell? ⟨gb1041, 1, none⟩ = some (.int .i64 a0_1) := hS_
        obtain ⟨Ao19, co19, eo19⟩ := Kd.R_slice HO1053.out
        (first | subst eo19 | (injection eo19 with f1_ f2_ f3_; have f4_ := f1_.symm; have f5_ := f3_.symm; clear f1_ f2_ f3_; subst f4_; subst f5_))
        obtain ⟨Ao20, co20, eo20⟩ := Kd.R_slice HO1057.out
        (first | subst eo20 | (injection eo20 with f1_ f2_ f3_; have f4_ := f1_.symm; have f5_ := f3_.symm; clear f1_ f2_ f3_; subst f4_; subst f5_))
        refine norm_ (a' := ?_) ?_ ?_
        rotate_left
        ·simp only [putAll, Act.put, List.setIfInBounds_toArray, List.set_cons_zero, List.set_cons_succ]
         rfl
        refine two_ (i := 9) (j := 13) (Ni := some 19) (Nj := some 5) #[true, true, true, true, true, true, true, true, true, true, false, false, false, false, true, false, false] #[true, true, true, true, true, true, true, true, true, false, false, false, false, true, true, false, false] rfl rfl rfl rfl (two_of HT_.out (by kernel_rfl)) (by decide) (by decide) (fun K hK => ?_) (fun K hK => ?_)
        ·skip
         refine goes_ Tryd.func79 (by kernel_rfl) rfl #[.agg #[.bool t1050, .slice Ao19 t1051.length co19], .agg #[.bool t1054, .slice Ao20 t1055.length co20]] (by rfl) rfl rfl (as_) ?_
         with_reducible refine (trishawref01_Over.calls k t1050 _ _ t1051 t1054 _ _ t1055 t1058 t1059 t1062 t1063 _ ?side1 ?side2 ?side3 ?side4 A7.out).mono ?_
         (case side1 => exact cr_ HO1053.out)
         (case side2 => exact (Kd.R_reads' HO1053.out).2.1)
         (case side3 => exact cr_ HO1057.out)
         (case side4 => exact (Kd.R_reads' HO1057.out).2.1)
         rintro e w21 ⟨v1060, v1064, rfl, ho0, ho1, hb⟩
         refine ⟨_, rfl, ?_⟩
         have HO1061 := rl_ (rn_ (rn_ (rn_ (rn_ ho0 HO1045) HO1049) HO1053) HO1057)
         have HO1065 := rl_ (rn_ (rn_ (rn_ (rn_ ho1 HO1045) HO1049) HO1053) HO1057)
         replace HO1045 := Aside0.mk (Kd.R_mono (Kd.R_told (Kd.R_told (Kd.R_old (kr_ HO1045.out) hb) (Kd.R_base ho0)) (Kd.R_base ho1)) (fun _ h_ => h_.1))
         replace HO1049 := Aside0.mk (Kd.R_mono (Kd.R_told (Kd.R_told (Kd.R_old (kr_ HO1049.out) hb) (Kd.R_base ho0)) (Kd.R_base ho1)) (fun _ h_ => h_.1))
         replace HO1053 := Aside0.mk (Kd.R_mono (Kd.R_told (Kd.R_told (Kd.R_old (kr_ HO1053.out) hb) (Kd.R_base ho0)) (Kd.R_base ho1)) (fun _ h_ => h_.1))
         replace HO1057 := Aside0.mk (Kd.R_mono (Kd.R_told (Kd.R_told (Kd.R_old (kr_ HO1057.out) hb) (Kd.R_base ho0)) (Kd.R_base ho1)) (fun _ h_ => h_.1))
         replace BK1041 := bb_ BK1041 hb
         replace BK1067 := bb_ BK1067 hb
         replace HB := hb_ hb
         clear hb ho0 ho1
         refine hK.out _ _ ⟨(blk_cell BK1041.out 0).trans rfl, (blk_cell BK1041.out 1).trans rfl⟩ (fun hHeld => ?_)
         clear hK K
         refine np_ 19 (h := ?_)
         refine pu_ 10 9 HT_.out (h := ?_)
         refine pu_ 11 20 HT_.out (h := ?_)
         refine pu_ 12 21 HT_.out (h := ?_)
         exact nm_ (hJ2_4_5_8_9_14 (v1044, v1048, .slice Ao19 t1051.length co19, .slice Ao20 t1055.length co20, v1060, v1064, gb1067) _ ⟨hHeld, (by refine kr_ ?_; exact Kd.R_mono HO1045.out (fun _ hk => ⟨hk.1.1.1, ⟨hk.1.1.2.1, ⟨hk.1.1.2.2, ⟨hk.1.2, hk.2⟩⟩⟩⟩)), (by refine kr_ ?_; exact Kd.R_mono HO1049.out (fun _ hk => ⟨hk.1.1.1, ⟨hk.1.1.2.1, ⟨hk.1.1.2.2, ⟨hk.1.2, hk.2⟩⟩⟩⟩)), (by refine kr_ ?_; exact Kd.R_mono HO1053.out (fun _ hk => ⟨hk.1.1.1, ⟨hk.1.1.2.1, ⟨hk.1.1.2.2, ⟨hk.1.2, hk.2⟩⟩⟩⟩)), (by refine kr_ ?_; exact Kd.R_mono HO1057.out (fun _ hk => ⟨hk.1.1.1, ⟨hk.1.1.2.1, ⟨hk.1.1.2.2, ⟨hk.1.2, hk.2⟩⟩⟩⟩)), (by refine kr_ ?_; exact Kd.R_mono HO1061.out (fun _ hk => ⟨hk.1.1.1.2, ⟨hk.1.1.2, ⟨hk.1.2, ⟨hk.2, hk.1.1.1.1⟩⟩⟩⟩)), (by refine kr_ ?_; exact Kd.R_mono HO1065.out (fun _ hk => ⟨hk.1.1.1.2, ⟨hk.1.1.2, ⟨hk.1.2, ⟨hk.2, hk.1.1.1.1⟩⟩⟩⟩)), (bk_ BK1041.out), (bk_ BK1067.out), GW1067.out, GE1067.out, NB1041_1067.out, NB1067_1041.out, (bl_)⟩)
        ·skip
         refine box_step ?hg (N := 5) ?hd (cs := #[.bool false, .slice none 0 0]) (t := 91) ?hr ?_; (case hd => rfl); (case hg => rfl); (case hr => first | (go_simp; done) | (go_simp; rfl))
         intro gb1066 hg w19 hbox hb
         replace HO1045 := rb_ HO1045 hb
         replace HO1049 := rb_ HO1049 hb
         replace HO1053 := rb_ HO1053 hb
         replace HO1057 := rb_ HO1057 hb
         have BK1066 := Aside0.mk (hbox)
         have GW1066 := gw_ hg
         have GE1066 := gw_ hg
         replace HB := hb_ hb
         have NB1041_1066 := nl_ hg BK1041
         have NB1066_1041 := sy_ NB1041_1066
         replace BK1041 := bb_ BK1041 hb
         have NB1067_1066 := nl_ hg BK1067
         have NB1066_1067 := sy_ NB1067_1066
         replace BK1067 := bb_ BK1067 hb
         clear hb hbox hg
         refine hK.out _ _ ⟨(blk_cell BK1041.out 0).trans rfl, (blk_cell BK1041.out 1).trans rfl⟩ (fun hHeld => ?_)
         clear hK K
         refine np_ 5 (h := ?_)
         exact nm_ (hJ2_4_5_8_13_14 (_, _, _, _, gb1066, gb1067) _ ⟨hHeld, (kr_ HO1045.out), (kr_ HO1049.out), (kr_ HO1053.out), (kr_ HO1057.out), (bk_ BK1041.out), (bk_ BK1066.out), (bk_ BK1067.out), GW1066.out, GE1066.out, NB1041_1066.out, NB1066_1041.out, NB1067_1066.out, NB1066_1067.out, GW1067.out, GE1067.out, NB1041_1067.out, NB1067_1041.out, (bl_)⟩)
      ·skip
       rintro ⟨v1044, v1048, v1052, v1056, gb1066⟩ w18 ⟨hS_, h0_, h1_, h2_, h3_, h4_, h5_, h6_, h7_, h8_, h9_, h10_⟩
       have HO1045 : Aside0 (Kd.R (Kd.int .i64) 3 w18 w.heap.size (fun k_ => some k_ ≠ (v1048 : Value).ownBlock ∧ some k_ ≠ (v1052 : Value).ownBlock ∧ some k_ ≠ (v1056 : Value).ownBlock) v1044 t1043) := ⟨h0_⟩
       have HO1049 : Aside0 (Kd.R (Kd.int .i64) 3 w18 w.heap.size (fun k_ => some k_ ≠ (v1044 : Value).ownBlock ∧ some k_ ≠ (v1052 : Value).ownBlock ∧ some k_ ≠ (v1056 : Value).ownBlock) v1048 t1047) := ⟨h1_⟩
       have HO1053 : Aside0 (Kd.R (Kd.int .i64) 3 w18 w.heap.size (fun k_ => some k_ ≠ (v1044 : Value).ownBlock ∧ some k_ ≠ (v1048 : Value).ownBlock ∧ some k_ ≠ (v1056 : Value).ownBlock) v1052 t1051) := ⟨h2_⟩
       have HO1057 : Aside0 (Kd.R (Kd.int .i64) 3 w18 w.heap.size (fun k_ => some k_ ≠ (v1044 : Value).ownBlock ∧ some k_ ≠ (v1048 : Value).ownBlock ∧ some k_ ≠ (v1052 : Value).ownBlock) v1056 t1055) := ⟨h3_⟩
       replace BK1041 : Aside0 (w18.heap[gb1041]? = some (.cells #[.int .i64 a0_0, .int .i64 a0_1] 26 (0, 0))) := ⟨h4_⟩
       have BK1066 : Aside0 (w18.heap[gb1066]? = some (.cells #[.bool false, .slice none 0 0] 91 (0, 0))) := ⟨h5_⟩
       have GW1066 : Aside0 (w.heap.size ≤ gb1066) := ⟨h6_⟩
       have GE1066 : Aside0 (w.heap.size ≤ gb1066) := ⟨h7_⟩
       have NB1041_1066 : Aside0 (gb1041 ≠ gb1066) := ⟨h8_⟩
       have NB1066_1041 : Aside0 (gb1066 ≠ gb1041) := ⟨h9_⟩
       replace HB : Aside0 (Below w.heap.size w w18) := ⟨h10_⟩
       clear h0_ h1_ h2_ h3_ h4_ h5_ h6_ h7_ h8_ h9_ h10_
       have hHeld : w18.cell? ⟨gb1041, 0, none⟩ = some (.int .i64 a0_0) ∧ w18.cell? ⟨gb1041, 1, none⟩ = some (.int .i64 a0_1) := hS_
       obtain ⟨Ao19, co19, eo19⟩ := Kd.R_slice HO1053.out
       (first | subst eo19 | (injection eo19 with f1_ f2_ f3_; have f4_ := f1_.symm; have f5_ := f3_.symm; clear f1_ f2_ f3_; subst f4_; subst f5_))
       obtain ⟨Ao20, co20, eo20⟩ := Kd.R_slice HO1057.out
       (first | subst eo20 | (injection eo20 with f1_ f2_ f3_; have f4_ := f1_.symm; have f5_ := f3_.symm; clear f1_ f2_ f3_; subst f4_; subst f5_))
       refine norm_ (a' := ?_) ?_ ?_
       rotate_left
       ·simp only [putAll, Act.put, List.setIfInBounds_toArray, List.set_cons_zero, List.set_cons_succ]
        rfl
       refine two_ (i := 9) (j := 14) (Ni := some 19) (Nj := some 6) #[true, true, true, true, true, true, true, true, true, true, false, false, false, true, false, false, false] #[true, true, true, true, true, true, true, true, true, false, false, false, false, true, true, false, false] rfl rfl rfl rfl (two_of HT_.out (by kernel_rfl)) (by decide) (by decide) (fun K hK => ?_) (fun K hK => ?_)
       ·skip
        refine goes_ Tryd.func79 (by kernel_rfl) rfl #[.agg #[.bool t1050, .slice Ao19 t1051.length co19], .agg #[.bool t1054, .slice Ao20 t1055.length co20]] (by rfl) rfl rfl (as_) ?_
        with_reducible refine (trishawref01_Over.calls k t1050 _ _ t1051 t1054 _ _ t1055 t1058 t1059 t1062 t1063 _ ?side1 ?side2 ?side3 ?side4 A7.out).mono ?_
        (case side1 => exact cr_ HO1053.out)
        (case side2 => exact (Kd.R_reads' HO1053.out).2.1)
        (case side3 => exact cr_ HO1057.out)
        (case side4 => exact (Kd.R_reads' HO1057.out).2.1)
        rintro e w21 ⟨v1060, v1064, rfl, ho0, ho1, hb⟩
        refine ⟨_, rfl, ?_⟩
        have HO1061 := rl_ (rn_ (rn_ (rn_ (rn_ ho0 HO1045) HO1049) HO1053) HO1057)
        have HO1065 := rl_ (rn_ (rn_ (rn_ (rn_ ho1 HO1045) HO1049) HO1053) HO1057)
        replace HO1045 := Aside0.mk (Kd.R_mono (Kd.R_told (Kd.R_told (Kd.R_old (kr_ HO1045.out) hb) (Kd.R_base ho0)) (Kd.R_base ho1)) (fun _ h_ => h_.1))
        replace HO1049 := Aside0.mk (Kd.R_mono (Kd.R_told (Kd.R_told (Kd.R_old (kr_ HO1049.out) hb) (Kd.R_base ho0)) (Kd.R_base ho1)) (fun _ h_ => h_.1))
        replace HO1053 := Aside0.mk (Kd.R_mono (Kd.R_told (Kd.R_told (Kd.R_old (kr_ HO1053.out) hb) (Kd.R_base ho0)) (Kd.R_base ho1)) (fun _ h_ => h_.1))
        replace HO1057 := Aside0.mk (Kd.R_mono (Kd.R_told (Kd.R_told (Kd.R_old (kr_ HO1057.out) hb) (Kd.R_base ho0)) (Kd.R_base ho1)) (fun _ h_ => h_.1))
        replace BK1041 := bb_ BK1041 hb
        replace BK1066 := bb_ BK1066 hb
        replace HB := hb_ hb
        clear hb ho0 ho1
        refine hK.out _ _ ⟨(blk_cell BK1041.out 0).trans rfl, (blk_cell BK1041.out 1).trans rfl⟩ (fun hHeld => ?_)
        clear hK K
        refine np_ 19 (h := ?_)
        refine pu_ 10 9 HT_.out (h := ?_)
        refine pu_ 11 20 HT_.out (h := ?_)
        refine pu_ 12 21 HT_.out (h := ?_)
        exact nm_ (hJ2_4_5_8_9_13 (v1044, v1048, .slice Ao19 t1051.length co19, .slice Ao20 t1055.length co20, v1060, v1064, gb1066) _ ⟨hHeld, (by refine kr_ ?_; exact Kd.R_mono HO1045.out (fun _ hk => ⟨hk.1.1.1, ⟨hk.1.1.2.1, ⟨hk.1.1.2.2, ⟨hk.1.2, hk.2⟩⟩⟩⟩)), (by refine kr_ ?_; exact Kd.R_mono HO1049.out (fun _ hk => ⟨hk.1.1.1, ⟨hk.1.1.2.1, ⟨hk.1.1.2.2, ⟨hk.1.2, hk.2⟩⟩⟩⟩)), (by refine kr_ ?_; exact Kd.R_mono HO1053.out (fun _ hk => ⟨hk.1.1.1, ⟨hk.1.1.2.1, ⟨hk.1.1.2.2, ⟨hk.1.2, hk.2⟩⟩⟩⟩)), (by refine kr_ ?_; exact Kd.R_mono HO1057.out (fun _ hk => ⟨hk.1.1.1, ⟨hk.1.1.2.1, ⟨hk.1.1.2.2, ⟨hk.1.2, hk.2⟩⟩⟩⟩)), (by refine kr_ ?_; exact Kd.R_mono HO1061.out (fun _ hk => ⟨hk.1.1.1.2, ⟨hk.1.1.2, ⟨hk.1.2, ⟨hk.2, hk.1.1.1.1⟩⟩⟩⟩)), (by refine kr_ ?_; exact Kd.R_mono HO1065.out (fun _ hk => ⟨hk.1.1.1.2, ⟨hk.1.1.2, ⟨hk.1.2, ⟨hk.2, hk.1.1.1.1⟩⟩⟩⟩)), (bk_ BK1041.out), (bk_ BK1066.out), GW1066.out, GE1066.out, NB1041_1066.out, NB1066_1041.out, (bl_)⟩)
       ·skip
        refine box_step ?hg (N := 6) ?hd (cs := #[.bool false, .slice none 0 0]) (t := 91) ?hr ?_; (case hd => rfl); (case hg => rfl); (case hr => first | (go_simp; done) | (go_simp; rfl))
        intro gb1067 hg w19 hbox hb
        replace HO1045 := rb_ HO1045 hb
        replace HO1049 := rb_ HO1049 hb
        replace HO1053 := rb_ HO1053 hb
        replace HO1057 := rb_ HO1057 hb
        have BK1067 := Aside0.mk (hbox)
        have GW1067 := gw_ hg
        have GE1067 := gw_ hg
        replace HB := hb_ hb
        have NB1041_1067 := nl_ hg BK1041
        have NB1067_1041 := sy_ NB1041_1067
        replace BK1041 := bb_ BK1041 hb
        have NB1066_1067 := nl_ hg BK1066
        have NB1067_1066 := sy_ NB1066_1067
        replace BK1066 := bb_ BK1066 hb
        clear hb hbox hg
        refine hK.out _ _ ⟨(blk_cell BK1041.out 0).trans rfl, (blk_cell BK1041.out 1).trans rfl⟩ (fun hHeld => ?_)
        clear hK K
        refine np_ 6 (h := ?_)
        exact nm_ (hJ2_4_5_8_13_14 (_, _, _, _, gb1066, gb1067) _ ⟨hHeld, (kr_ HO1045.out), (kr_ HO1049.out), (kr_ HO1053.out), (kr_ HO1057.out), (bk_ BK1041.out), (bk_ BK1066.out), (bk_ BK1067.out), GW1066.out, GE1066.out, NB1041_1066.out, NB1066_1041.out, NB1067_1066.out, NB1066_1067.out, GW1067.out, GE1067.out, NB1041_1067.out, NB1067_1041.out, (bl_)⟩)
     ·skip
      rintro ⟨v1044, v1048, v1052, v1056, v1060, v1064⟩ w20 ⟨hS_, h0_, h1_, h2_, h3_, h4_, h5_, h6_, h7_⟩
      have HO1045 : Aside0 (Kd.R (Kd.int .i64) 3 w20 w.heap.size (fun k_ => some k_ ≠ (v1048 : Value).ownBlock ∧ some k_ ≠ (v1052 : Value).ownBlock ∧ some k_ ≠ (v1056 : Value).ownBlock ∧ some k_ ≠ (v1060 : Value).ownBlock ∧ some k_ ≠ (v1064 : Value).ownBlock) v1044 t1043) := ⟨h0_⟩
      have HO1049 : Aside0 (Kd.R (Kd.int .i64) 3 w20 w.heap.size (fun k_ => some k_ ≠ (v1044 : Value).ownBlock ∧ some k_ ≠ (v1052 : Value).ownBlock ∧ some k_ ≠ (v1056 : Value).ownBlock ∧ some k_ ≠ (v1060 : Value).ownBlock ∧ some k_ ≠ (v1064 : Value).ownBlock) v1048 t1047) := ⟨h1_⟩
      have HO1053 : Aside0 (Kd.R (Kd.int .i64) 3 w20 w.heap.size (fun k_ => some k_ ≠ (v1044 : Value).ownBlock ∧ some k_ ≠ (v1048 : Value).ownBlock ∧ some k_ ≠ (v1056 : Value).ownBlock ∧ some k_ ≠ (v1060 : Value).ownBlock ∧ some k_ ≠ (v1064 : Value).ownBlock) v1052 t1051) := ⟨h2_⟩
      have HO1057 : Aside0 (Kd.R (Kd.int .i64) 3 w20 w.heap.size (fun k_ => some k_ ≠ (v1044 : Value).ownBlock ∧ some k_ ≠ (v1048 : Value).ownBlock ∧ some k_ ≠ (v1052 : Value).ownBlock ∧ some k_ ≠ (v1060 : Value).ownBlock ∧ some k_ ≠ (v1064 : Value).ownBlock) v1056 t1055) := ⟨h3_⟩
      have HO1061 : Aside0 (Kd.R (Kd.int .i64) 3 w20 w.heap.size (fun k_ => some k_ ≠ (v1044 : Value).ownBlock ∧ some k_ ≠ (v1048 : Value).ownBlock ∧ some k_ ≠ (v1052 : Value).ownBlock ∧ some k_ ≠ (v1056 : Value).ownBlock ∧ some k_ ≠ (v1064 : Value).ownBlock) v1060 t1059) := ⟨h4_⟩
      have HO1065 : Aside0 (Kd.R (Kd.int .i64) 3 w20 w.heap.size (fun k_ => some k_ ≠ (v1044 : Value).ownBlock ∧ some k_ ≠ (v1048 : Value).ownBlock ∧ some k_ ≠ (v1052 : Value).ownBlock ∧ some k_ ≠ (v1056 : Value).ownBlock ∧ some k_ ≠ (v1060 : Value).ownBlock) v1064 t1063) := ⟨h5_⟩
      replace BK1041 : Aside0 (w20.heap[gb1041]? = some (.cells #[.int .i64 a0_0, .int .i64 a0_1] 26 (0, 0))) := ⟨h6_⟩
      replace HB : Aside0 (Below w.heap.size w w20) := ⟨h7_⟩
      clear h0_ h1_ h2_ h3_ h4_ h5_ h6_ h7_
      have hHeld : w20.cell? ⟨gb1041, 0, none⟩ = some (.int .i64 a0_0) ∧ w20.cell? ⟨gb1041, 1, none⟩ = some (.int .i64 a0_1) := hS_
      refine norm_ (a' := ?_) ?_ ?_
      rotate_left
      ·simp only [putAll, Act.put, List.setIfInBounds_toArray, List.set_cons_zero, List.set_cons_succ]
       rfl
      refine two_ (i := 13) (j := 14) (Ni := some 5) (Nj := some 6) #[true, true, true, true, true, true, true, true, true, true, true, true, true, true, false, false, false] #[true, true, true, true, true, true, true, true, true, true, true, true, true, false, true, false, false] rfl rfl rfl rfl (two_of HT_.out (by kernel_rfl)) (by decide) (by decide) (fun K hK => ?_) (fun K hK => ?_)
      ·skip
       refine box_step ?hg (N := 5) ?hd (cs := #[.bool false, .slice none 0 0]) (t := 91) ?hr ?_; (case hd => rfl); (case hg => rfl); (case hr => first | (go_simp; done) | (go_simp; rfl))
       intro gb1066 hg w21 hbox hb
       replace HO1045 := rb_ HO1045 hb
       replace HO1049 := rb_ HO1049 hb
       replace HO1053 := rb_ HO1053 hb
       replace HO1057 := rb_ HO1057 hb
       replace HO1061 := rb_ HO1061 hb
       replace HO1065 := rb_ HO1065 hb
       have BK1066 := Aside0.mk (hbox)
       have GW1066 := gw_ hg
       have GE1066 := gw_ hg
       replace HB := hb_ hb
       have NB1041_1066 := nl_ hg BK1041
       have NB1066_1041 := sy_ NB1041_1066
       replace BK1041 := bb_ BK1041 hb
       clear hb hbox hg
       refine hK.out _ _ ⟨(blk_cell BK1041.out 0).trans rfl, (blk_cell BK1041.out 1).trans rfl⟩ (fun hHeld => ?_)
       clear hK K
       refine np_ 5 (h := ?_)
       exact nm_ (hJ2_4_5_8_9_13 (_, _, _, _, _, _, gb1066) _ ⟨hHeld, (kr_ HO1045.out), (kr_ HO1049.out), (kr_ HO1053.out), (kr_ HO1057.out), (kr_ HO1061.out), (kr_ HO1065.out), (bk_ BK1041.out), (bk_ BK1066.out), GW1066.out, GE1066.out, NB1041_1066.out, NB1066_1041.out, (bl_)⟩)
      ·skip
       refine box_step ?hg (N := 6) ?hd (cs := #[.bool false, .slice none 0 0]) (t := 91) ?hr ?_; (case hd => rfl); (case hg => rfl); (case hr => first | (go_simp; done) | (go_simp; rfl))
       intro gb1067 hg w21 hbox hb
       replace HO1045 := rb_ HO1045 hb
       replace HO1049 := rb_ HO1049 hb
       replace HO1053 := rb_ HO1053 hb
       replace HO1057 := rb_ HO1057 hb
       replace HO1061 := rb_ HO1061 hb
       replace HO1065 := rb_ HO1065 hb
       have BK1067 := Aside0.mk (hbox)
       have GW1067 := gw_ hg
       have GE1067 := gw_ hg
       replace HB := hb_ hb
       have NB1041_1067 := nl_ hg BK1041
       have NB1067_1041 := sy_ NB1041_1067
       replace BK1041 := bb_ BK1041 hb
       clear hb hbox hg
       refine hK.out _ _ ⟨(blk_cell BK1041.out 0).trans rfl, (blk_cell BK1041.out 1).trans rfl⟩ (fun hHeld => ?_)
       clear hK K
       refine np_ 6 (h := ?_)
       exact nm_ (hJ2_4_5_8_9_14 (_, _, _, _, _, _, gb1067) _ ⟨hHeld, (kr_ HO1045.out), (kr_ HO1049.out), (kr_ HO1053.out), (kr_ HO1057.out), (kr_ HO1061.out), (kr_ HO1065.out), (bk_ BK1041.out), (bk_ BK1067.out), GW1067.out, GE1067.out, NB1041_1067.out, NB1067_1041.out, (bl_)⟩)
    ·skip
     rintro ⟨v1044, v1048, v1052, v1056, gb1066, gb1067⟩ w19 ⟨hS_, h0_, h1_, h2_, h3_, h4_, h5_, h6_, h7_, h8_, h9_, h10_, h11_, h12_, h13_, h14_, h15_, h16_, h17_⟩
     have HO1045 : Aside0 (Kd.R (Kd.int .i64) 3 w19 w.heap.size (fun k_ => some k_ ≠ (v1048 : Value).ownBlock ∧ some k_ ≠ (v1052 : Value).ownBlock ∧ some k_ ≠ (v1056 : Value).ownBlock) v1044 t1043) := ⟨h0_⟩
     have HO1049 : Aside0 (Kd.R (Kd.int .i64) 3 w19 w.heap.size (fun k_ => some k_ ≠ (v1044 : Value).ownBlock ∧ some k_ ≠ (v1052 : Value).ownBlock ∧ some k_ ≠ (v1056 : Value).ownBlock) v1048 t1047) := ⟨h1_⟩
     have HO1053 : Aside0 (Kd.R (Kd.int .i64) 3 w19 w.heap.size (fun k_ => some k_ ≠ (v1044 : Value).ownBlock ∧ some k_ ≠ (v1048 : Value).ownBlock ∧ some k_ ≠ (v1056 : Value).ownBlock) v1052 t1051) := ⟨h2_⟩
     have HO1057 : Aside0 (Kd.R (Kd.int .i64) 3 w19 w.heap.size (fun k_ => some k_ ≠ (v1044 : Value).ownBlock ∧ some k_ ≠ (v1048 : Value).ownBlock ∧ some k_ ≠ (v1052 : Value).ownBlock) v1056 t1055) := ⟨h3_⟩
     replace BK1041 : Aside0 (w19.heap[gb1041]? = some (.cells #[.int .i64 a0_0, .int .i64 a0_1] 26 (0, 0))) := ⟨h4_⟩
     have BK1066 : Aside0 (w19.heap[gb1066]? = some (.cells #[.bool false, .slice none 0 0] 91 (0, 0))) := ⟨h5_⟩
     have BK1067 : Aside0 (w19.heap[gb1067]? = some (.cells #[.bool false, .slice none 0 0] 91 (0, 0))) := ⟨h6_⟩
     have GW1066 : Aside0 (w.heap.size ≤ gb1066) := ⟨h7_⟩
     have GE1066 : Aside0 (w.heap.size ≤ gb1066) := ⟨h8_⟩
     have NB1041_1066 : Aside0 (gb1041 ≠ gb1066) := ⟨h9_⟩
     have NB1066_1041 : Aside0 (gb1066 ≠ gb1041) := ⟨h10_⟩
     have NB1067_1066 : Aside0 (gb1067 ≠ gb1066) := ⟨h11_⟩
     have NB1066_1067 : Aside0 (gb1066 ≠ gb1067) := ⟨h12_⟩
     have GW1067 : Aside0 (w.heap.size ≤ gb1067) := ⟨h13_⟩
     have GE1067 : Aside0 (w.heap.size ≤ gb1067) := ⟨h14_⟩
     have NB1041_1067 : Aside0 (gb1041 ≠ gb1067) := ⟨h15_⟩
     have NB1067_1041 : Aside0 (gb1067 ≠ gb1041) := ⟨h16_⟩
     replace HB : Aside0 (Below w.heap.size w w19) := ⟨h17_⟩
     clear h0_ h1_ h2_ h3_ h4_ h5_ h6_ h7_ h8_ h9_ h10_ h11_ h12_ h13_ h14_ h15_ h16_ h17_
     have hHeld : w19.cell? ⟨gb1041, 0, none⟩ = some (.int .i64 a0_0) ∧ w19.cell? ⟨gb1041, 1, none⟩ = some (.int .i64 a0_1) := hS_
     obtain ⟨Ao20, co20, eo20⟩ := Kd.R_slice HO1053.out
     (first | subst eo20 | (injection eo20 with f1_ f2_ f3_; have f4_ := f1_.symm; have f5_ := f3_.symm; clear f1_ f2_ f3_; subst f4_; subst f5_))
     obtain ⟨Ao21, co21, eo21⟩ := Kd.R_slice HO1057.out
     (first | subst eo21 | (injection eo21 with f1_ f2_ f3_; have f4_ := f1_.symm; have f5_ := f3_.symm; clear f1_ f2_ f3_; subst f4_; subst f5_))
     refine norm_ (a' := ?_) ?_ ?_
     rotate_left
     ·simp only [putAll, Act.put, List.setIfInBounds_toArray, List.set_cons_zero, List.set_cons_succ]
      rfl
     refine one_ (i := 9) (N := some 19) #[true, true, true, true, true, true, true, true, true, true, false, false, false, true, true, false, false] rfl rfl (one_of HT_.out (by kernel_rfl)) (by decide) (fun K hK => ?_)
     refine goes_ Tryd.func79 (by kernel_rfl) rfl #[.agg #[.bool t1050, .slice Ao20 t1051.length co20], .agg #[.bool t1054, .slice Ao21 t1055.length co21]] (by rfl) rfl rfl (as_) ?_
     with_reducible refine (trishawref01_Over.calls k t1050 _ _ t1051 t1054 _ _ t1055 t1058 t1059 t1062 t1063 _ ?side1 ?side2 ?side3 ?side4 A7.out).mono ?_
     (case side1 => exact cr_ HO1053.out)
     (case side2 => exact (Kd.R_reads' HO1053.out).2.1)
     (case side3 => exact cr_ HO1057.out)
     (case side4 => exact (Kd.R_reads' HO1057.out).2.1)
     rintro e w22 ⟨v1060, v1064, rfl, ho0, ho1, hb⟩
     refine ⟨_, rfl, ?_⟩
     have HO1061 := rl_ (rn_ (rn_ (rn_ (rn_ ho0 HO1045) HO1049) HO1053) HO1057)
     have HO1065 := rl_ (rn_ (rn_ (rn_ (rn_ ho1 HO1045) HO1049) HO1053) HO1057)
     replace HO1045 := Aside0.mk (Kd.R_mono (Kd.R_told (Kd.R_told (Kd.R_old (kr_ HO1045.out) hb) (Kd.R_base ho0)) (Kd.R_base ho1)) (fun _ h_ => h_.1))
     replace HO1049 := Aside0.mk (Kd.R_mono (Kd.R_told (Kd.R_told (Kd.R_old (kr_ HO1049.out) hb) (Kd.R_base ho0)) (Kd.R_base ho1)) (fun _ h_ => h_.1))
     replace HO1053 := Aside0.mk (Kd.R_mono (Kd.R_told (Kd.R_told (Kd.R_old (kr_ HO1053.out) hb) (Kd.R_base ho0)) (Kd.R_base ho1)) (fun _ h_ => h_.1))
     replace HO1057 := Aside0.mk (Kd.R_mono (Kd.R_told (Kd.R_told (Kd.R_old (kr_ HO1057.out) hb) (Kd.R_base ho0)) (Kd.R_base ho1)) (fun _ h_ => h_.1))
     replace BK1041 := bb_ BK1041 hb
     replace BK1066 := bb_ BK1066 hb
     replace BK1067 := bb_ BK1067 hb
     replace HB := hb_ hb
     clear hb ho0 ho1
     refine hK.out _ _ ⟨(blk_cell BK1041.out 0).trans rfl, (blk_cell BK1041.out 1).trans rfl⟩ (fun hHeld => ?_)
     clear hK K
     refine np_ 19 (h := ?_)
     refine pu_ 10 9 HT_.out (h := ?_)
     refine pu_ 11 20 HT_.out (h := ?_)
     refine pu_ 12 21 HT_.out (h := ?_)
     exact nm_ (hJ2_4_5_8_9_13_14 (v1044, v1048, .slice Ao20 t1051.length co20, .slice Ao21 t1055.length co21, v1060, v1064, gb1066, gb1067) _ ⟨hHeld, (by refine kr_ ?_; exact Kd.R_mono HO1045.out (fun _ hk => ⟨hk.1.1.1, ⟨hk.1.1.2.1, ⟨hk.1.1.2.2, ⟨hk.1.2, hk.2⟩⟩⟩⟩)), (by refine kr_ ?_; exact Kd.R_mono HO1049.out (fun _ hk => ⟨hk.1.1.1, ⟨hk.1.1.2.1, ⟨hk.1.1.2.2, ⟨hk.1.2, hk.2⟩⟩⟩⟩)), (by refine kr_ ?_; exact Kd.R_mono HO1053.out (fun _ hk => ⟨hk.1.1.1, ⟨hk.1.1.2.1, ⟨hk.1.1.2.2, ⟨hk.1.2, hk.2⟩⟩⟩⟩)), (by refine kr_ ?_; exact Kd.R_mono HO1057.out (fun _ hk => ⟨hk.1.1.1, ⟨hk.1.1.2.1, ⟨hk.1.1.2.2, ⟨hk.1.2, hk.2⟩⟩⟩⟩)), (by refine kr_ ?_; exact Kd.R_mono HO1061.out (fun _ hk => ⟨hk.1.1.1.2, ⟨hk.1.1.2, ⟨hk.1.2, ⟨hk.2, hk.1.1.1.1⟩⟩⟩⟩)), (by refine kr_ ?_; exact Kd.R_mono HO1065.out (fun _ hk => ⟨hk.1.1.1.2, ⟨hk.1.1.2, ⟨hk.1.2, ⟨hk.2, hk.1.1.1.1⟩⟩⟩⟩)), (bk_ BK1041.out), (bk_ BK1066.out), (bk_ BK1067.out), GW1066.out, GE1066.out, NB1041_1066.out, NB1066_1041.out, NB1067_1066.out, NB1066_1067.out, GW1067.out, GE1067.out, NB1041_1067.out, NB1067_1041.out, (bl_)⟩)
   ·skip
    rintro ⟨v1044, v1048, v1052, v1056, v1060, v1064, gb1067⟩ w21 ⟨hS_, h0_, h1_, h2_, h3_, h4_, h5_, h6_, h7_, h8_, h9_, h10_, h11_, h12_⟩
    have HO1045 : Aside0 (Kd.R (Kd.int .i64) 3 w21 w.heap.size (fun k_ => some k_ ≠ (v1048 : Value).ownBlock ∧ some k_ ≠ (v1052 : Value).ownBlock ∧ some k_ ≠ (v1056 : Value).ownBlock ∧ some k_ ≠ (v1060 : Value).ownBlock ∧ some k_ ≠ (v1064 : Value).ownBlock) v1044 t1043) := ⟨h0_⟩
    have HO1049 : Aside0 (Kd.R (Kd.int .i64) 3 w21 w.heap.size (fun k_ => some k_ ≠ (v1044 : Value).ownBlock ∧ some k_ ≠ (v1052 : Value).ownBlock ∧ some k_ ≠ (v1056 : Value).ownBlock ∧ some k_ ≠ (v1060 : Value).ownBlock ∧ some k_ ≠ (v1064 : Value).ownBlock) v1048 t1047) := ⟨h1_⟩
    have HO1053 : Aside0 (Kd.R (Kd.int .i64) 3 w21 w.heap.size (fun k_ => some k_ ≠ (v1044 : Value).ownBlock ∧ some k_ ≠ (v1048 : Value).ownBlock ∧ some k_ ≠ (v1056 : Value).ownBlock ∧ some k_ ≠ (v1060 : Value).ownBlock ∧ some k_ ≠ (v1064 : Value).ownBlock) v1052 t1051) := ⟨h2_⟩
    have HO1057 : Aside0 (Kd.R (Kd.int .i64) 3 w21 w.heap.size (fun k_ => some k_ ≠ (v1044 : Value).ownBlock ∧ some k_ ≠ (v1048 : Value).ownBlock ∧ some k_ ≠ (v1052 : Value).ownBlock ∧ some k_ ≠ (v1060 : Value).ownBlock ∧ some k_ ≠ (v1064 : Value).ownBlock) v1056 t1055) := ⟨h3_⟩
    have HO1061 : Aside0 (Kd.R (Kd.int .i64) 3 w21 w.heap.size (fun k_ => some k_ ≠ (v1044 : Value).ownBlock ∧ some k_ ≠ (v1048 : Value).ownBlock ∧ some k_ ≠ (v1052 : Value).ownBlock ∧ some k_ ≠ (v1056 : Value).ownBlock ∧ some k_ ≠ (v1064 : Value).ownBlock) v1060 t1059) := ⟨h4_⟩
    have HO1065 : Aside0 (Kd.R (Kd.int .i64) 3 w21 w.heap.size (fun k_ => some k_ ≠ (v1044 : Value).ownBlock ∧ some k_ ≠ (v1048 : Value).ownBlock ∧ some k_ ≠ (v1052 : Value).ownBlock ∧ some k_ ≠ (v1056 : Value).ownBlock ∧ some k_ ≠ (v1060 : Value).ownBlock) v1064 t1063) := ⟨h5_⟩
    replace BK1041 : Aside0 (w21.heap[gb1041]? = some (.cells #[.int .i64 a0_0, .int .i64 a0_1] 26 (0, 0))) := ⟨h6_⟩
    have BK1067 : Aside0 (w21.heap[gb1067]? = some (.cells #[.bool false, .slice none 0 0] 91 (0, 0))) := ⟨h7_⟩
    have GW1067 : Aside0 (w.heap.size ≤ gb1067) := ⟨h8_⟩
    have GE1067 : Aside0 (w.heap.size ≤ gb1067) := ⟨h9_⟩
    have NB1041_1067 : Aside0 (gb1041 ≠ gb1067) := ⟨h10_⟩
    have NB1067_1041 : Aside0 (gb1067 ≠ gb1041) := ⟨h11_⟩
    replace HB : Aside0 (Below w.heap.size w w21) := ⟨h12_⟩
    clear h0_ h1_ h2_ h3_ h4_ h5_ h6_ h7_ h8_ h9_ h10_ h11_ h12_
    have hHeld : w21.cell? ⟨gb1041, 0, none⟩ = some (.int .i64 a0_0) ∧ w21.cell? ⟨gb1041, 1, none⟩ = some (.int .i64 a0_1) := hS_
    refine norm_ (a' := ?_) ?_ ?_
    rotate_left
    ·simp only [putAll, Act.put, List.setIfInBounds_toArray, List.set_cons_zero, List.set_cons_succ]
     rfl
    refine one_ (i := 13) (N := some 5) #[true, true, true, true, true, true, true, true, true, true, true, true, true, true, true, false, false] rfl rfl (one_of HT_.out (by kernel_rfl)) (by decide) (fun K hK => ?_)
    refine box_step ?hg (N := 5) ?hd (cs := #[.bool false, .slice none 0 0]) (t := 91) ?hr ?_; (case hd => rfl); (case hg => rfl); (case hr => first | (go_simp; done) | (go_simp; rfl))
    intro gb1066 hg w22 hbox hb
    replace HO1045 := rb_ HO1045 hb
    replace HO1049 := rb_ HO1049 hb
    replace HO1053 := rb_ HO1053 hb
    replace HO1057 := rb_ HO1057 hb
    replace HO1061 := rb_ HO1061 hb
    replace HO1065 := rb_ HO1065 hb
    have BK1066 := Aside0.mk (hbox)
    have GW1066 := gw_ hg
    have GE1066 := gw_ hg
    replace HB := hb_ hb
    have NB1041_1066 := nl_ hg BK1041
    have NB1066_1041 := sy_ NB1041_1066
    replace BK1041 := bb_ BK1041 hb
    have NB1067_1066 := nl_ hg BK1067
    have NB1066_1067 := sy_ NB1067_1066
    replace BK1067 := bb_ BK1067 hb
    clear hb hbox hg
    refine hK.out _ _ ⟨(blk_cell BK1041.out 0).trans rfl, (blk_cell BK1041.out 1).trans rfl⟩ (fun hHeld => ?_)
    clear hK K
    refine np_ 5 (h := ?_)
    exact nm_ (hJ2_4_5_8_9_13_14 (_, _, _, _, _, _, gb1066, gb1067) _ ⟨hHeld, (kr_ HO1045.out), (kr_ HO1049.out), (kr_ HO1053.out), (kr_ HO1057.out), (kr_ HO1061.out), (kr_ HO1065.out), (bk_ BK1041.out), (bk_ BK1066.out), (bk_ BK1067.out), GW1066.out, GE1066.out, NB1041_1066.out, NB1066_1041.out, NB1067_1066.out, NB1066_1067.out, GW1067.out, GE1067.out, NB1041_1067.out, NB1067_1041.out, (bl_)⟩)
  ·skip
   rintro ⟨v1044, v1048, v1052, v1056, v1060, v1064, gb1066⟩ w21 ⟨hS_, h0_, h1_, h2_, h3_, h4_, h5_, h6_, h7_, h8_, h9_, h10_, h11_, h12_⟩
   have HO1045 : Aside0 (Kd.R (Kd.int .i64) 3 w21 w.heap.size (fun k_ => some k_ ≠ (v1048 : Value).ownBlock ∧ some k_ ≠ (v1052 : Value).ownBlock ∧ some k_ ≠ (v1056 : Value).ownBlock ∧ some k_ ≠ (v1060 : Value).ownBlock ∧ some k_ ≠ (v1064 : Value).ownBlock) v1044 t1043) := ⟨h0_⟩
   have HO1049 : Aside0 (Kd.R (Kd.int .i64) 3 w21 w.heap.size (fun k_ => some k_ ≠ (v1044 : Value).ownBlock ∧ some k_ ≠ (v1052 : Value).ownBlock ∧ some k_ ≠ (v1056 : Value).ownBlock ∧ some k_ ≠ (v1060 : Value).ownBlock ∧ some k_ ≠ (v1064 : Value).ownBlock) v1048 t1047) := ⟨h1_⟩
   have HO1053 : Aside0 (Kd.R (Kd.int .i64) 3 w21 w.heap.size (fun k_ => some k_ ≠ (v1044 : Value).ownBlock ∧ some k_ ≠ (v1048 : Value).ownBlock ∧ some k_ ≠ (v1056 : Value).ownBlock ∧ some k_ ≠ (v1060 : Value).ownBlock ∧ some k_ ≠ (v1064 : Value).ownBlock) v1052 t1051) := ⟨h2_⟩
   have HO1057 : Aside0 (Kd.R (Kd.int .i64) 3 w21 w.heap.size (fun k_ => some k_ ≠ (v1044 : Value).ownBlock ∧ some k_ ≠ (v1048 : Value).ownBlock ∧ some k_ ≠ (v1052 : Value).ownBlock ∧ some k_ ≠ (v1060 : Value).ownBlock ∧ some k_ ≠ (v1064 : Value).ownBlock) v1056 t1055) := ⟨h3_⟩
   have HO1061 : Aside0 (Kd.R (Kd.int .i64) 3 w21 w.heap.size (fun k_ => some k_ ≠ (v1044 : Value).ownBlock ∧ some k_ ≠ (v1048 : Value).ownBlock ∧ some k_ ≠ (v1052 : Value).ownBlock ∧ some k_ ≠ (v1056 : Value).ownBlock ∧ some k_ ≠ (v1064 : Value).ownBlock) v1060 t1059) := ⟨h4_⟩
   have HO1065 : Aside0 (Kd.R (Kd.int .i64) 3 w21 w.heap.size (fun k_ => some k_ ≠ (v1044 : Value).ownBlock ∧ some k_ ≠ (v1048 : Value).ownBlock ∧ some k_ ≠ (v1052 : Value).ownBlock ∧ some k_ ≠ (v1056 : Value).ownBlock ∧ some k_ ≠ (v1060 : Value).ownBlock) v1064 t1063) := ⟨h5_⟩
   replace BK1041 : Aside0 (w21.heap[gb1041]? = some (.cells #[.int .i64 a0_0, .int .i64 a0_1] 26 (0, 0))) := ⟨h6_⟩
   have BK1066 : Aside0 (w21.heap[gb1066]? = some (.cells #[.bool false, .slice none 0 0] 91 (0, 0))) := ⟨h7_⟩
   have GW1066 : Aside0 (w.heap.size ≤ gb1066) := ⟨h8_⟩
   have GE1066 : Aside0 (w.heap.size ≤ gb1066) := ⟨h9_⟩
   have NB1041_1066 : Aside0 (gb1041 ≠ gb1066) := ⟨h10_⟩
   have NB1066_1041 : Aside0 (gb1066 ≠ gb1041) := ⟨h11_⟩
   replace HB : Aside0 (Below w.heap.size w w21) := ⟨h12_⟩
   clear h0_ h1_ h2_ h3_ h4_ h5_ h6_ h7_ h8_ h9_ h10_ h11_ h12_
   have hHeld : w21.cell? ⟨gb1041, 0, none⟩ = some (.int .i64 a0_0) ∧ w21.cell? ⟨gb1041, 1, none⟩ = some (.int .i64 a0_1) := hS_
   refine norm_ (a' := ?_) ?_ ?_
   rotate_left
   ·simp only [putAll, Act.put, List.setIfInBounds_toArray, List.set_cons_zero, List.set_cons_succ]
    rfl
   refine one_ (i := 14) (N := some 6) #[true, true, true, true, true, true, true, true, true, true, true, true, true, true, true, false, false] rfl rfl (one_of HT_.out (by kernel_rfl)) (by decide) (fun K hK => ?_)
   refine box_step ?hg (N := 6) ?hd (cs := #[.bool false, .slice none 0 0]) (t := 91) ?hr ?_; (case hd => rfl); (case hg => rfl); (case hr => first | (go_simp; done) | (go_simp; rfl))
   intro gb1067 hg w22 hbox hb
   replace HO1045 := rb_ HO1045 hb
   replace HO1049 := rb_ HO1049 hb
   replace HO1053 := rb_ HO1053 hb
   replace HO1057 := rb_ HO1057 hb
   replace HO1061 := rb_ HO1061 hb
   replace HO1065 := rb_ HO1065 hb
   have BK1067 := Aside0.mk (hbox)
   have GW1067 := gw_ hg
   have GE1067 := gw_ hg
   replace HB := hb_ hb
   have NB1041_1067 := nl_ hg BK1041
   have NB1067_1041 := sy_ NB1041_1067
   replace BK1041 := bb_ BK1041 hb
   have NB1066_1067 := nl_ hg BK1066
   have NB1067_1066 := sy_ NB1066_1067
   replace BK1066 := bb_ BK1066 hb
   clear hb hbox hg
   refine hK.out _ _ ⟨(blk_cell BK1041.out 0).trans rfl, (blk_cell BK1041.out 1).trans rfl⟩ (fun hHeld => ?_)
   clear hK K
   refine np_ 6 (h := ?_)
   exact nm_ (hJ2_4_5_8_9_13_14 (_, _, _, _, _, _, gb1066, gb1067) _ ⟨hHeld, (kr_ HO1045.out), (kr_ HO1049.out), (kr_ HO1053.out), (kr_ HO1057.out), (kr_ HO1061.out), (kr_ HO1065.out), (bk_ BK1041.out), (bk_ BK1066.out), (bk_ BK1067.out), GW1066.out, GE1066.out, NB1041_1066.out, NB1066_1041.out, NB1067_1066.out, NB1066_1067.out, GW1067.out, GE1067.out, NB1041_1067.out, NB1067_1041.out, (bl_)⟩)
 rintro ⟨v1044, v1048, v1052, v1056, v1060, v1064, gb1066, gb1067⟩ w22 ⟨hS_, h0_, h1_, h2_, h3_, h4_, h5_, h6_, h7_, h8_, h9_, h10_, h11_, h12_, h13_, h14_, h15_, h16_, h17_, h18_, h19_⟩
 have HO1045 : Aside0 (Kd.R (Kd.int .i64) 3 w22 w.heap.size (fun k_ => some k_ ≠ (v1048 : Value).ownBlock ∧ some k_ ≠ (v1052 : Value).ownBlock ∧ some k_ ≠ (v1056 : Value).ownBlock ∧ some k_ ≠ (v1060 : Value).ownBlock ∧ some k_ ≠ (v1064 : Value).ownBlock) v1044 t1043) := ⟨h0_⟩
 have HO1049 : Aside0 (Kd.R (Kd.int .i64) 3 w22 w.heap.size (fun k_ => some k_ ≠ (v1044 : Value).ownBlock ∧ some k_ ≠ (v1052 : Value).ownBlock ∧ some k_ ≠ (v1056 : Value).ownBlock ∧ some k_ ≠ (v1060 : Value).ownBlock ∧ some k_ ≠ (v1064 : Value).ownBlock) v1048 t1047) := ⟨h1_⟩
 have HO1053 : Aside0 (Kd.R (Kd.int .i64) 3 w22 w.heap.size (fun k_ => some k_ ≠ (v1044 : Value).ownBlock ∧ some k_ ≠ (v1048 : Value).ownBlock ∧ some k_ ≠ (v1056 : Value).ownBlock ∧ some k_ ≠ (v1060 : Value).ownBlock ∧ some k_ ≠ (v1064 : Value).ownBlock) v1052 t1051) := ⟨h2_⟩
 have HO1057 : Aside0 (Kd.R (Kd.int .i64) 3 w22 w.heap.size (fun k_ => some k_ ≠ (v1044 : Value).ownBlock ∧ some k_ ≠ (v1048 : Value).ownBlock ∧ some k_ ≠ (v1052 : Value).ownBlock ∧ some k_ ≠ (v1060 : Value).ownBlock ∧ some k_ ≠ (v1064 : Value).ownBlock) v1056 t1055) := ⟨h3_⟩
 have HO1061 : Aside0 (Kd.R (Kd.int .i64) 3 w22 w.heap.size (fun k_ => some k_ ≠ (v1044 : Value).ownBlock ∧ some k_ ≠ (v1048 : Value).ownBlock ∧ some k_ ≠ (v1052 : Value).ownBlock ∧ some k_ ≠ (v1056 : Value).ownBlock ∧ some k_ ≠ (v1064 : Value).ownBlock) v1060 t1059) := ⟨h4_⟩
 have HO1065 : Aside0 (Kd.R (Kd.int .i64) 3 w22 w.heap.size (fun k_ => some k_ ≠ (v1044 : Value).ownBlock ∧ some k_ ≠ (v1048 : Value).ownBlock ∧ some k_ ≠ (v1052 : Value).ownBlock ∧ some k_ ≠ (v1056 : Value).ownBlock ∧ some k_ ≠ (v1060 : Value).ownBlock) v1064 t1063) := ⟨h5_⟩
 replace BK1041 : Aside0 (w22.heap[gb1041]? = some (.cells #[.int .i64 a0_0, .int .i64 a0_1] 26 (0, 0))) := ⟨h6_⟩
 have BK1066 : Aside0 (w22.heap[gb1066]? = some (.cells #[.bool false, .slice none 0 0] 91 (0, 0))) := ⟨h7_⟩
 have BK1067 : Aside0 (w22.heap[gb1067]? = some (.cells #[.bool false, .slice none 0 0] 91 (0, 0))) := ⟨h8_⟩
 have GW1066 : Aside0 (w.heap.size ≤ gb1066) := ⟨h9_⟩
 have GE1066 : Aside0 (w.heap.size ≤ gb1066) := ⟨h10_⟩
 have NB1041_1066 : Aside0 (gb1041 ≠ gb1066) := ⟨h11_⟩
 have NB1066_1041 : Aside0 (gb1066 ≠ gb1041) := ⟨h12_⟩
 have NB1067_1066 : Aside0 (gb1067 ≠ gb1066) := ⟨h13_⟩
 have NB1066_1067 : Aside0 (gb1066 ≠ gb1067) := ⟨h14_⟩
 have GW1067 : Aside0 (w.heap.size ≤ gb1067) := ⟨h15_⟩
 have GE1067 : Aside0 (w.heap.size ≤ gb1067) := ⟨h16_⟩
 have NB1041_1067 : Aside0 (gb1041 ≠ gb1067) := ⟨h17_⟩
 have NB1067_1041 : Aside0 (gb1067 ≠ gb1041) := ⟨h18_⟩
 replace HB : Aside0 (Below w.heap.size w w22) := ⟨h19_⟩
 clear h0_ h1_ h2_ h3_ h4_ h5_ h6_ h7_ h8_ h9_ h10_ h11_ h12_ h13_ h14_ h15_ h16_ h17_ h18_ h19_
 have hHeld : w22.cell? ⟨gb1041, 0, none⟩ = some (.int .i64 a0_0) ∧ w22.cell? ⟨gb1041, 1, none⟩ = some (.int .i64 a0_1) := hS_
 obtain ⟨Ao24, co24, eo24⟩ := Kd.R_slice HO1061.out
 (first | subst eo24 | (injection eo24 with f1_ f2_ f3_; have f4_ := f1_.symm; have f5_ := f3_.symm; clear f1_ f2_ f3_; subst f4_; subst f5_))
 obtain ⟨Ao27, co27, eo27⟩ := Kd.R_slice HO1065.out
 (first | subst eo27 | (injection eo27 with f1_ f2_ f3_; have f4_ := f1_.symm; have f5_ := f3_.symm; clear f1_ f2_ f3_; subst f4_; subst f5_))
 refine norm_ (a' := ?_) ?_ ?_
 rotate_left
 ·simp only [putAll, Act.put, List.setIfInBounds_toArray, List.set_cons_zero, List.set_cons_succ]
  rfl
 refine one_ (i := 15) (N := none) #[true, true, true, true, true, true, true, true, true, true, true, true, true, true, true, true, false] rfl rfl (one_of HT_.out (by kernel_rfl)) (by decide) (fun K hK => ?_)
 have hs23 : w22.cell? ⟨gb1066, 0, none⟩ = some (.bool false) := (blk_cell BK1066.out 0).trans rfl
 have hfs23 := bz_ BK1066 0
 have hns23_0 := NB1041_1066.out
 have hns23_2 := NB1067_1066.out
 have hms23_0 := NB1066_1041.out
 have hms23_2 := NB1066_1067.out
 have hs25 : w22.cell? ⟨gb1066, 1, none⟩ = some (.slice none 0 0) := (blk_cell BK1066.out 1).trans rfl
 have hfs25 := bz_ BK1066 1
 have hns25_0 := NB1041_1066.out
 have hns25_2 := NB1067_1066.out
 have hms25_0 := NB1066_1041.out
 have hms25_2 := NB1066_1067.out
 refine skip_ (w1 := ?_) (by rfl) rfl ?_ ?_
 rotate_left
 ·go_simp
  rfl
 refine hK.out _ _ ⟨((cell_far (p := ⟨gb1066, _, none⟩) NB1041_1066.out _).trans (((cell_far (p := ⟨gb1066, _, none⟩) NB1041_1066.out _).trans (hHeld.1)))), ((cell_far (p := ⟨gb1066, _, none⟩) NB1041_1066.out _).trans (((cell_far (p := ⟨gb1066, _, none⟩) NB1041_1066.out _).trans (hHeld.2))))⟩ (fun hHeld => ?_)
 clear hK K
 refine one_ (i := 16) (N := none) #[true, true, true, true, true, true, true, true, true, true, true, true, true, true, true, true, true] rfl rfl (one_of HT_.out (by kernel_rfl)) (by decide) (fun K hK => ?_)
 have hs26 : w22.cell? ⟨gb1067, 0, none⟩ = some (.bool false) := (blk_cell BK1067.out 0).trans rfl
 have hfs26 := bz_ BK1067 0
 have hns26_0 := NB1041_1067.out
 have hns26_1 := NB1066_1067.out
 have hms26_0 := NB1067_1041.out
 have hms26_1 := NB1067_1066.out
 have hs28 : w22.cell? ⟨gb1067, 1, none⟩ = some (.slice none 0 0) := (blk_cell BK1067.out 1).trans rfl
 have hfs28 := bz_ BK1067 1
 have hns28_0 := NB1041_1067.out
 have hns28_1 := NB1066_1067.out
 have hms28_0 := NB1067_1041.out
 have hms28_1 := NB1067_1066.out
 refine skip_ (w1 := ?_) (by rfl) rfl ?_ ?_
 rotate_left
 ·go_simp
  rfl
 refine hK.out _ _ ⟨((cell_far (p := ⟨gb1067, _, none⟩) NB1041_1067.out _).trans (((cell_far (p := ⟨gb1067, _, none⟩) NB1041_1067.out _).trans (hHeld.1)))), ((cell_far (p := ⟨gb1067, _, none⟩) NB1041_1067.out _).trans (((cell_far (p := ⟨gb1067, _, none⟩) NB1041_1067.out _).trans (hHeld.2))))⟩ (fun hHeld => ?_)
 clear hK K
 refine done_ (done_of HT_.out (by kernel_rfl)) ?_
 have hnb29 := NB1066_1041.out
 have hnc29 := NB1041_1066.out
 have hnb30 := NB1066_1067.out
 have hnc30 := NB1067_1066.out
 have hcz31_0 := bc_ BK1066 0 (.bool false)
 have hcz31_1 := bc_ BK1066 1 (.slice none 0 0)
 have hfz31_0 := bz_ BK1066 0
 have hfz31_1 := bz_ BK1066 1
 try go_wp2_with (first | ((with_reducible refine gate_callee (f := 82) rfl ?_); refine goesL_ (some 25) rfl rfl Tryd.func82 (by kernel_rfl) rfl #[.agg #[.bool t1058, .slice Ao24 t1059.length co24], .int .i64 a1] rfl (as_) ?_; (with_reducible refine (trishawref01_Within.calls k t1058 _ _ t1059 a1 t1068 t1069 _ ?side1 ?side2 A8.out).mono ?_); (case side1 => refine (Kd.R_reads' (e := 3) (base := w.heap.size) (ok := fun k_ => (some k_ ≠ (v1044 : Value).ownBlock ∧ (some k_ ≠ (v1048 : Value).ownBlock ∧ (some k_ ≠ (v1052 : Value).ownBlock ∧ (some k_ ≠ (v1056 : Value).ownBlock ∧ some k_ ≠ (.slice Ao27 t1063.length co27 : Value).ownBlock))))) (n := t1059.length) (c := co24) ?_).2.2; exact (by refine kr_ ?_; exact (Kd.R_mono (Kd.R_mono (Kd.R_far (p := ⟨gb1067, 1, none⟩) (Kd.R_far (p := ⟨gb1067, 0, none⟩) (Kd.R_far (p := ⟨gb1066, 1, none⟩) (Kd.R_far (p := ⟨gb1066, 0, none⟩) (Kd.R_types (Kd.R_types HO1061.out BK1066.out (by decide)) BK1067.out (by decide)) (fun _ hk => hk.1.2) (.bool t1058)) (fun _ hk => hk.1.2) (.slice Ao24 t1059.length co24)) (fun _ hk => hk.2) (.bool t1062)) (fun _ hk => hk.2) (.slice Ao27 t1063.length co27)) (fun _ h_ => h_.1)) (fun _ h_ => h_.1)))); (case side2 => exact (Kd.R_reads' HO1061.out).2.1); rintro e w32 ⟨rfl, hb⟩; refine ⟨_, rfl, ?_⟩; replace HO1045 := Aside0.mk (Kd.R_below (by refine kr_ ?_; exact (Kd.R_mono (Kd.R_mono (Kd.R_far (p := ⟨gb1067, 1, none⟩) (Kd.R_far (p := ⟨gb1067, 0, none⟩) (Kd.R_far (p := ⟨gb1066, 1, none⟩) (Kd.R_far (p := ⟨gb1066, 0, none⟩) (Kd.R_types (Kd.R_types HO1045.out BK1066.out (by decide)) BK1067.out (by decide)) (fun _ hk => hk.1.2) (.bool t1058)) (fun _ hk => hk.1.2) (.slice Ao24 t1059.length co24)) (fun _ hk => hk.2) (.bool t1062)) (fun _ hk => hk.2) (.slice Ao27 t1063.length co27)) (fun _ h_ => h_.1)) (fun _ h_ => h_.1))) hb); replace HO1049 := Aside0.mk (Kd.R_below (by refine kr_ ?_; exact (Kd.R_mono (Kd.R_mono (Kd.R_far (p := ⟨gb1067, 1, none⟩) (Kd.R_far (p := ⟨gb1067, 0, none⟩) (Kd.R_far (p := ⟨gb1066, 1, none⟩) (Kd.R_far (p := ⟨gb1066, 0, none⟩) (Kd.R_types (Kd.R_types HO1049.out BK1066.out (by decide)) BK1067.out (by decide)) (fun _ hk => hk.1.2) (.bool t1058)) (fun _ hk => hk.1.2) (.slice Ao24 t1059.length co24)) (fun _ hk => hk.2) (.bool t1062)) (fun _ hk => hk.2) (.slice Ao27 t1063.length co27)) (fun _ h_ => h_.1)) (fun _ h_ => h_.1))) hb); replace HO1053 := Aside0.mk (Kd.R_below (by refine kr_ ?_; exact (Kd.R_mono (Kd.R_mono (Kd.R_far (p := ⟨gb1067, 1, none⟩) (Kd.R_far (p := ⟨gb1067, 0, none⟩) (Kd.R_far (p := ⟨gb1066, 1, none⟩) (Kd.R_far (p := ⟨gb1066, 0, none⟩) (Kd.R_types (Kd.R_types HO1053.out BK1066.out (by decide)) BK1067.out (by decide)) (fun _ hk => hk.1.2) (.bool t1058)) (fun _ hk => hk.1.2) (.slice Ao24 t1059.length co24)) (fun _ hk => hk.2) (.bool t1062)) (fun _ hk => hk.2) (.slice Ao27 t1063.length co27)) (fun _ h_ => h_.1)) (fun _ h_ => h_.1))) hb); replace HO1057 := Aside0.mk (Kd.R_below (by refine kr_ ?_; exact (Kd.R_mono (Kd.R_mono (Kd.R_far (p := ⟨gb1067, 1, none⟩) (Kd.R_far (p := ⟨gb1067, 0, none⟩) (Kd.R_far (p := ⟨gb1066, 1, none⟩) (Kd.R_far (p := ⟨gb1066, 0, none⟩) (Kd.R_types (Kd.R_types HO1057.out BK1066.out (by decide)) BK1067.out (by decide)) (fun _ hk => hk.1.2) (.bool t1058)) (fun _ hk => hk.1.2) (.slice Ao24 t1059.length co24)) (fun _ hk => hk.2) (.bool t1062)) (fun _ hk => hk.2) (.slice Ao27 t1063.length co27)) (fun _ h_ => h_.1)) (fun _ h_ => h_.1))) hb); replace HO1061 := Aside0.mk (Kd.R_below (by refine kr_ ?_; exact (Kd.R_mono (Kd.R_mono (Kd.R_far (p := ⟨gb1067, 1, none⟩) (Kd.R_far (p := ⟨gb1067, 0, none⟩) (Kd.R_far (p := ⟨gb1066, 1, none⟩) (Kd.R_far (p := ⟨gb1066, 0, none⟩) (Kd.R_types (Kd.R_types HO1061.out BK1066.out (by decide)) BK1067.out (by decide)) (fun _ hk => hk.1.2) (.bool t1058)) (fun _ hk => hk.1.2) (.slice Ao24 t1059.length co24)) (fun _ hk => hk.2) (.bool t1062)) (fun _ hk => hk.2) (.slice Ao27 t1063.length co27)) (fun _ h_ => h_.1)) (fun _ h_ => h_.1))) hb); replace HO1065 := Aside0.mk (Kd.R_below (by refine kr_ ?_; exact (Kd.R_mono (Kd.R_mono (Kd.R_far (p := ⟨gb1067, 1, none⟩) (Kd.R_far (p := ⟨gb1067, 0, none⟩) (Kd.R_far (p := ⟨gb1066, 1, none⟩) (Kd.R_far (p := ⟨gb1066, 0, none⟩) (Kd.R_types (Kd.R_types HO1065.out BK1066.out (by decide)) BK1067.out (by decide)) (fun _ hk => hk.1.2) (.bool t1058)) (fun _ hk => hk.1.2) (.slice Ao24 t1059.length co24)) (fun _ hk => hk.2) (.bool t1062)) (fun _ hk => hk.2) (.slice Ao27 t1063.length co27)) (fun _ h_ => h_.1)) (fun _ h_ => h_.1))) hb); replace BK1041 := Aside0.mk (blk_below (g := gb1041) (o := .cells #[.int .i64 a0_0, .int .i64 a0_1] 26 (0, 0)) (by refine bk_ ?_; refine blk_far ?_ NB1041_1067.out _; refine bk_ ?_; refine blk_far ?_ NB1041_1067.out _; refine bk_ ?_; refine blk_far ?_ NB1041_1066.out _; refine bk_ ?_; refine blk_far ?_ NB1041_1066.out _; refine bk_ ?_; exact BK1041.out) hb); replace BK1066 := Aside0.mk (blk_below (g := gb1066) (o := .cells #[.bool t1058, .slice Ao24 t1059.length co24] 91 (0, 0)) (by refine bk_ ?_; refine blk_far ?_ NB1066_1067.out _; refine bk_ ?_; refine blk_far ?_ NB1066_1067.out _; refine bk_ ?_; refine blk_put (cs := #[.bool t1058, .slice none 0 0]) ?_ 1 _ rfl; refine bk_ ?_; refine blk_put (cs := #[.bool false, .slice none 0 0]) ?_ 0 _ rfl; refine bk_ ?_; exact BK1066.out) hb); replace BK1067 := Aside0.mk (blk_below (g := gb1067) (o := .cells #[.bool t1062, .slice Ao27 t1063.length co27] 91 (0, 0)) (by refine bk_ ?_; refine blk_put (cs := #[.bool t1062, .slice none 0 0]) ?_ 1 _ rfl; refine bk_ ?_; refine blk_put (cs := #[.bool false, .slice none 0 0]) ?_ 0 _ rfl; refine bk_ ?_; refine blk_far ?_ NB1067_1066.out _; refine bk_ ?_; refine blk_far ?_ NB1067_1066.out _; refine bk_ ?_; exact BK1067.out) hb); replace HB := hb_ hb; clear hb))
 go_ret
 exact ⟨er_, bl_⟩

end Go.Proofs.YtgobffgogmnmpaaDoor.P
