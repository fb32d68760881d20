-- Written by wip/tools/myprint.py of this session's repo, over the kit's printer and hand texts.
import Derived.Test.YtlcgoacmlbeliaaDoorPx0
import Derived.Test.YtlcgoacmlbeliaaDoorPre
namespace Go.Proofs.YtlcgoacmlbeliaaDoor.P
open Go.RowKit Go.Proofs.YtlcgoacmlbeliaaDoorW.PrintWords Go.Proofs.YtlcgoacmlbeliaaDoorW.PrintLast Go.Proofs.YtlcgoacmlbeliaaDoorW.PrintMore
attribute [local go_sem] max2_int min2_int max_two min_two max_three min_three max_four min_four   -- for this text's walks alone
set_option linter.unusedVariables false
set_option linter.unusedSimpArgs false

/-! ### strings_trimRightByte: function 42 -/
def strings_trimRightByte.l0 : Nat → ByteArray → Int → Option (ByteArray)
  | 0, _, _ => none
  | k + 1, x0, x1 => if (x0.size : Int) > 0 then (if 0 ≤ (wrap64 ((x0.size : Int) - 1)) then (if (wrap64 ((x0.size : Int) - 1)) < (x0.size : Int) then (if (bt x0 (wrap64 ((x0.size : Int) - 1))) = x1 then (if (wrap64 ((x0.size : Int) - 1)) ≤ (x0.size : Int) then (strings_trimRightByte.l0 k (x0.extract 0 ((wrap64 ((x0.size : Int) - 1)) : Int).toNat) x1) else (none)) else (some x0)) else (none)) else (none)) else (some x0)
def strings_trimRightByte.f (k : Nat) (a0 : ByteArray) (a1 : Int) : Option (ByteArray) := strings_trimRightByte.l0 k a0 a1
theorem strings_trimRightByte.mono_l : ∀ k, (∀ y0 y1, LeO (strings_trimRightByte.l0 k y0 y1) (strings_trimRightByte.l0 (k + 1) y0 y1))
  | 0 => fun _ _ r h => by simp [strings_trimRightByte.l0] at h
  | k + 1 => by
    have ih0 := strings_trimRightByte.mono_l k
    · intro y0 y1
      unfold strings_trimRightByte.l0
      with_reducible repeat' first | exact ih0 _ _ | exact LeO.refl _ | exact LeO.none _ | refine LeO.ite ?_ ?_ | refine LeO.bind ?_ (fun _ => ?_)
theorem strings_trimRightByte.mono : ∀ a0 a1 k, LeO (strings_trimRightByte.f k a0 a1) (strings_trimRightByte.f (k + 1) a0 a1) := by
  intro a0 a1 k
  have ih0 := strings_trimRightByte.mono_l k
  unfold strings_trimRightByte.f
  with_reducible repeat' first | exact ih0 _ _ | exact LeO.refl _ | exact LeO.none _ | refine LeO.ite ?_ ?_ | refine LeO.bind ?_ (fun _ => ?_)
set_option maxHeartbeats 8000000 in
set_option maxRecDepth 100000 in
theorem strings_trimRightByte.calls (k : Nat) (a0 : ByteArray) (a1 : Int) (r : ByteArray) (w : World) (h : strings_trimRightByte.f k a0 a1 = some r) :
    Calls Tryd.prog 42 #[.string a0, .int .u8 a1] w fun e w' => e = .returned (.string r) ∧ Drawn0 w w' := by
 have H : (strings_trimRightByte.l0 k a0 a1) = some r := h
 clear h
 have H' := Aside0.mk H
 clear H
 go_enter Tryd.func42, Tryd.ntmps42
 go_wp2
 go_loopg [0] k (fun kq v0 w' => ∃ (x0_1 : ByteArray), v0 = .string x0_1 ∧ Aside0 (strings_trimRightByte.l0 kq x0_1 a1 = some r) ∧ Aside0 (kq ≤ k) ∧ Drawn0 w w')
 case atStart => exact ⟨(a0), rs_, H', ⟨Nat.le_refl _⟩, by repeat (first | exact Drawn0.refl _ | apply Drawn0.step)⟩
 case round =>
  clear H'
  try clear p2
  obtain ⟨x0_1, rfl, HA, HK1, ⟨m1, rfl⟩⟩ := hrel
  cases gk with
  | zero => exact absurd HA.out (by simp [strings_trimRightByte.l0])
  | succ k1 =>
   have H := HA.out
   clear HA
   simp only [strings_trimRightByte.l0] at H
   by_cases c3 : (x0_1.size : Int) > 0
   ·rw [if_pos c3] at H
    have c3b0 : decide (0 < (x0_1.size : Int)) = true := decide_eq_true c3
    have c3b1 : decide (0 < x0_1.size) = true := decide_eq_true (by omega)
    clear c3
    obtain ⟨ji4, hji4⟩ : ∃ j_ : Int, (wrap64 ((x0_1.size : Int) - 1)) = j_ := ⟨_, rfl⟩
    replace H : (if 0 ≤ (ji4) then (if (ji4) < (x0_1.size : Int) then (if (bt x0_1 (ji4)) = a1 then (if (ji4) ≤ (x0_1.size : Int) then (strings_trimRightByte.l0 k1 (x0_1.extract 0 ((ji4) : Int).toNat) a1) else (none)) else (some x0_1)) else (none)) else (none)) = some r := by first | (rw [hji4] at H; exact H) | (simp only [hji4] at H ⊢; exact H)
    have hji4w : (IntKind.i64.wrap ((x0_1.size : Int) - 1)) = ji4 := (i64_w _).trans hji4
    obtain ⟨c5b0, H⟩ := fp_ H
    obtain ⟨c6b0, H⟩ := fp_ H
    by_cases c8 : (bt x0_1 (ji4)) = a1
    ·rw [if_pos c8] at H
     have c8b0 : ((bt x0_1 (ji4)) == a1) = true := beq_iff_eq.mpr c8
     have c8b1 : ((bt x0_1 (ji4)) != a1) = false := bne_eq_false_iff_eq.mpr c8
     clear c8
     have c9b0 := eq_true (od_ : 0 ≤ (ji4))
     have c10 : (ji4) ≤ (x0_1.size : Int) := fl_ fun c10 => by rw [if_neg c10] at H; exact absurd H (by simp)
     rw [if_pos c10] at H
     have c10b0 := eq_true c10
     have c10b1 : decide ((ji4) ≤ (x0_1.size : Int)) = true := decide_eq_true c10
     clear c10
     have H' := Aside0.mk H
     clear H
     have p7 : 0 ≤ ((ji4) : Int) := od_
     have q7 : (ji4) < (x0_1.size : Int) := od_
     have hx7 := bt_at x0_1 (ji4)
     replace p7 := eq_true p7
     replace q7 := eq_true q7
     go_wp2
     go_roundg k1
     case measure => have := HK1.out; omega
     case rel => exact ⟨(x0_1.extract 0 ((ji4) : Int).toNat), (by first | rfl | (simp; done) | (simp only [← hji4] <;> (first | rfl | simp)) | (simp [*]; done)), H', ⟨by have := HK1.out; omega⟩, by repeat (first | exact Drawn0.refl _ | apply Drawn0.step)⟩
    ·rw [if_neg c8] at H
     have c8b0 : ((bt x0_1 (ji4)) == a1) = false := beq_eq_false_iff_ne.mpr c8
     have c8b1 : ((bt x0_1 (ji4)) != a1) = true := bne_iff_ne.mpr c8
     obtain rfl := Option.some.inj H
     have p7 : 0 ≤ ((ji4) : Int) := od_
     have q7 : (ji4) < (x0_1.size : Int) := od_
     have hx7 := bt_at x0_1 (ji4)
     replace p7 := eq_true p7
     replace q7 := eq_true q7
     go_wp2
     go_ret
     exact ⟨by first | rfl | (simp; done) | (simp only [← hji4] <;> (first | rfl | simp)) | (simp [*]; done), by repeat (first | exact Drawn0.refl _ | apply Drawn0.step)⟩
   ·rw [if_neg c3] at H
    have c3b0 : decide (0 < (x0_1.size : Int)) = false := decide_eq_false c3
    have c3b1 : decide (0 < x0_1.size) = false := decide_eq_false (by omega)
    clear c3
    obtain rfl := Option.some.inj H
    go_wp2
    go_ret
    exact ⟨by first | rfl | (simp; done) | (simp [*]; done), by repeat (first | exact Drawn0.refl _ | apply Drawn0.step)⟩

/-! ### strings_Trim: function 31 -/
def trim_ren : Go.Shelf.Ren := ⟨fun | 160 => 31 | 232 => 42 | 231 => 41 | 227 => 43 | 234 => 45 | 233 => 44 | 236 => 47 | 235 => 46 | 228 => 51 | 271 => 54 | 151 => 53 | 197 => 52 | 120 => 58 | 152 => 57 | 260 => 56 | 137 => 59 | 119 => 60 | 224 => 61 | 225 => 62 | 217 => 63 | 266 => 64 | n => n, fun | 9 => 9 | 4 => 4 | 3 => 3 | 5 => 5 | 117 => 87 | 116 => 86 | 0 => 0 | 124 => 90 | 21 => 21 | 105 => 95 | 46 => 100 | 119 => 99 | 139 => 103 | 138 => 102 | n => n, fun | 3 => 0 | 4 => 1 | n => n⟩
theorem trim_lays : Go.Proofs.Lays.n160 Tryd.prog trim_ren where
  mixed := by kernel_rfl
  f119 := Tryd.func60.trans (congrArg some (by kernel_rfl))
  f120 := Tryd.func58.trans (congrArg some (by kernel_rfl))
  f137 := Tryd.func59.trans (congrArg some (by kernel_rfl))
  f151 := Tryd.func53.trans (congrArg some (by kernel_rfl))
  f152 := Tryd.func57.trans (congrArg some (by kernel_rfl))
  f160 := Tryd.func31.trans (congrArg some (by kernel_rfl))
  f197 := Tryd.func52.trans (congrArg some (by kernel_rfl))
  f217 := Tryd.func63.trans (congrArg some (by kernel_rfl))
  f224 := Tryd.func61.trans (congrArg some (by kernel_rfl))
  f225 := Tryd.func62.trans (congrArg some (by kernel_rfl))
  f227 := Tryd.func43.trans (congrArg some (by kernel_rfl))
  f228 := Tryd.func51.trans (congrArg some (by kernel_rfl))
  f231 := Tryd.func41.trans (congrArg some (by kernel_rfl))
  f232 := Tryd.func42.trans (congrArg some (by kernel_rfl))
  f233 := Tryd.func44.trans (congrArg some (by kernel_rfl))
  f234 := Tryd.func45.trans (congrArg some (by kernel_rfl))
  f235 := Tryd.func46.trans (congrArg some (by kernel_rfl))
  f236 := Tryd.func47.trans (congrArg some (by kernel_rfl))
  f260 := Tryd.func56.trans (congrArg some (by kernel_rfl))
  f266 := Tryd.func64.trans (congrArg some (by kernel_rfl))
  f271 := Tryd.func54.trans (congrArg some (by kernel_rfl))
  t0 := Tryd.underlying0
  a0 := Tryd.isAgg0
  z0 := Tryd.sizeOf0
  v0 := Tryd.zeroValue0
  t3 := Tryd.underlying3
  a3 := Tryd.isAgg3
  z3 := Tryd.sizeOf3
  v3 := Tryd.zeroValue3
  t4 := Tryd.underlying4
  a4 := Tryd.isAgg4
  z4 := Tryd.sizeOf4
  v4 := Tryd.zeroValue4
  t5 := Tryd.underlying5
  a5 := Tryd.isAgg5
  z5 := Tryd.sizeOf5
  v5 := Tryd.zeroValue5
  t9 := Tryd.underlying9
  a9 := Tryd.isAgg9
  z9 := Tryd.sizeOf9
  v9 := Tryd.zeroValue9
  t21 := Tryd.underlying21
  a21 := Tryd.isAgg21
  z21 := Tryd.sizeOf21
  v21 := Tryd.zeroValue21
  t46 := Tryd.underlying100
  a46 := Tryd.isAgg100
  z46 := Tryd.sizeOf100
  v46 := Tryd.zeroValue100
  t105 := Tryd.underlying95
  a105 := Tryd.isAgg95
  z105 := Tryd.sizeOf95
  v105 := Tryd.zeroValue95
  t116 := Tryd.underlying86
  a116 := Tryd.isAgg86
  z116 := Tryd.sizeOf86
  t117 := Tryd.underlying87
  a117 := Tryd.isAgg87
  z117 := Tryd.sizeOf87
  v117 := Tryd.zeroValue87
  t119 := Tryd.underlying99
  a119 := Tryd.isAgg99
  z119 := Tryd.sizeOf99
  t124 := Tryd.underlying90
  a124 := Tryd.isAgg90
  z124 := Tryd.sizeOf90
  v124 := Tryd.zeroValue90
  t138 := Tryd.underlying102
  a138 := Tryd.isAgg102
  z138 := Tryd.sizeOf102
  v138 := Tryd.zeroValue102
  t139 := Tryd.underlying103
  a139 := Tryd.isAgg103
  z139 := Tryd.sizeOf103
  v139 := Tryd.zeroValue103
  g3 := by kernel_rfl
  g4 := by kernel_rfl
def strings_Trim.f (a0 a1 : ByteArray) : Option ByteArray := if a0.size ≤ 9223372036854775807 ∧ a1.size < 4294967281 ∧ a1.data.toList.all (fun b => decide (b.toNat < 128)) = true then some ⟨(Lib.trimS a0.data.toList a1.data.toList).toArray⟩ else none
theorem strings_Trim.calls (a0 a1 : ByteArray) (r : ByteArray) (w : World) (h : strings_Trim.f a0 a1 = some r) :
    Calls Tryd.prog 31 #[.string a0, .string a1] w fun e w' => e = .returned (.string r) ∧ Below w.heap.size w w' := by
 unfold strings_Trim.f at h
 split at h
 ·rename_i hc
  obtain rfl := Option.some.inj h
  exact Any.strings_Trim_laid trim_lays (by kernel_rfl) a0 a1 w hc.1 hc.2.1 (ascii_of_all hc.2.2)
 ·exact absurd h (by simp)

/-! ### api_Pair: function 32 -/
def api_Pair.f (l0 : List S39) : Option (List S39) := if l0.length < 8796093022208 then (some l0) else (none)
set_option maxHeartbeats 400000 in
set_option maxRecDepth 100000 in
theorem api_Pair.calls (A0 : Option Addr) (c0 : Nat) (l0 : List S39) (r : List S39) (w : World) (hr0 : Kd.C k39 w A0 l0.length l0) (hc0 : l0.length ≤ c0) (h : api_Pair.f l0 = some r) :
    Calls Tryd.prog 32 #[.slice A0 l0.length c0] w fun e w' => ∃ v0_ : Value, e = .returned (v0_) ∧ Kd.R k39 39 w' w.heap.size (fun _ => True) v0_ r ∧ Below w.heap.size w w' := by
 unfold api_Pair.f at h
 by_cases hl : l0.length < 8796093022208
 ·rw [if_pos hl] at h
  obtain rfl := Option.some.inj h
  clear h
  have hu1 := Tryd.underlying45
  have HR0 := Aside0.mk hr0
  have HC0 := Aside0.mk hc0
  have HL := Aside0.mk hl
  clear hr0 hc0 hl
  cases A0 with
  | none =>
   have he := fun w => Lib.run_eql_slice_nil (P := Tryd.prog) w 45 39 none l0.length c0 0 0 Tryd.underlying45
   go_enter Tryd.func32, Tryd.ntmps32
   go_wp2_with fail
   go_ret
   refine ⟨_, rfl, ?_, Below.refl _ _⟩
   have h0 : l0 = [] := by
    have := HR0.out.2.2
    cases l0 with
    | nil => rfl
    | cons x xs => exact absurd (this (by simp)) (by simp)
   rw [h0]
   exact Kd.R_nil _ _ _ _ _
  | some ad =>
   have he := fun w => Lib.run_eql_slice_nil (P := Tryd.prog) w 45 39 (some ad) l0.length c0 0 0 Tryd.underlying45
   have HB := Aside0.mk (Below.refl w.heap.size w)
   go_enter Tryd.func32, Tryd.ntmps32
   go_wp2_with (first | ((with_reducible refine gate_dst (N := 5) rfl ?_); refine Kd.R_lit k39 (w0 := w) w.heap.size 39 ?hg (N := 5) ?hd (xs := ([] : List S39)) (inner := []) (ok := fun _ => True) (okp := fun _ => True) ?hr ?hp (fun _ hk => hk) trivial (bl_) (Nat.le_refl _) (by simp) ?_; (case hd => rfl); (case hg => rfl); (case hr => first | (go_simp; done) | (go_simp; rfl)); (case hp => exact Reps.none _ _); intro v5 w5 ho5 hb5 hg5 hn5; have HO5 := Aside0.mk ho5; have HR5 := Aside0.mk (Kd.C_below HR0.out hb5); replace HB := Aside0.mk hb5; clear ho5 hb5 hg5 hn5) | ((with_reducible refine gate_builtin (b := .append) (xs := #[.tmp 5, .tmp 6]) rfl ?_); at_builtin; refine Kd.R_append_rows k39 (w0 := w) w.heap.size rfl (.tmp 5) (.tmp 6) 45 39 (.agg #[(.int .i64 0), (.int .i64 0)]) 16 rfl Tryd.underlying45 info39 rfl (by decide) (by omega) v5 ([] : List S39) l0 (some ad) l0.length c0 (fun _ => True) (fun _ => False) rfl rfl HO5.out HR5.out (fun x cs h_ => by rw [k39_open h_]; exact k39_mkM _ _ _ x) (fun _ h => h.elim) (fun _ _ => trivial) (bl_) (below_size (bl_)) (by have := HL.out; simp; omega) ?_; intro v1 w1 hR hb hg hat))
   go_ret
   exact ⟨_, rfl, hR, hb⟩
 ·rw [if_neg hl] at h
  exact absurd h (by simp)

/-! ### oneway_quarter_signed: function 21 -/
mutual
def oneway_quarter_signed.j0 : Nat → ByteArray → Bool → Int → List (S39) → Option ((List (S39)) × Bool)
  | 0, _, _, _, _ => none
  | k + 1, x1, x19, x238000, x238001 => if x19 = true then (some (([] : List (S39)), false)) else ((api_Pair.f x238001).bind fun t239 => (oneway_quarter_signed.l0 k t239 x1 0 (x1.size : Int)))
def oneway_quarter_signed.l0 : Nat → List (S39) → ByteArray → Int → Int → Option ((List (S39)) × Bool)
  | 0, _, _, _, _ => none
  | k + 1, x6, x23, x24, x50 => if x24 < x50 then (if 0 ≤ x24 then (if x24 < (x23.size : Int) then (if (bt x23 x24) = 60 then (if x24 < (x6.length : Int) then ((some (x6.set (x24 : Int).toNat (⟨(rd_T39 x6 x24).f1, (rd_T39 x6 x24).f1⟩ : S39) : List (S39))).bind fun y244 => (oneway_quarter_signed.l0 k (y244.set (x24 : Int).toNat (⟨(rd_T39 y244 x24).f0, (rd_T39 x6 x24).f0⟩ : S39)) x23 (wrap64 (x24 + 1)) x50)) else (none)) else (oneway_quarter_signed.l0 k x6 x23 (wrap64 (x24 + 1)) x50)) else (none)) else (none)) else (some (x6, true))
end
def oneway_quarter_signed.f (k : Nat) (a0_0 : Int) (l0_1 : List (S39)) (a1 : ByteArray) : Option ((List (S39)) × Bool) := if (a1.size : Int) = (l0_1.length : Int) then ((strings_Trim.f a1 (⟨#[60, 62]⟩ : ByteArray)).bind fun t238 => (oneway_quarter_signed.j0 k a1 (t238.toList != ([] : List UInt8)) a0_0 l0_1)) else (oneway_quarter_signed.j0 k a1 true a0_0 l0_1)
theorem oneway_quarter_signed.mono_l : ∀ k, (∀ y0 y1 y2 y3, LeO (oneway_quarter_signed.j0 k y0 y1 y2 y3) (oneway_quarter_signed.j0 (k + 1) y0 y1 y2 y3)) ∧ (∀ y0 y1 y2 y3, LeO (oneway_quarter_signed.l0 k y0 y1 y2 y3) (oneway_quarter_signed.l0 (k + 1) y0 y1 y2 y3))
  | 0 => ⟨fun _ _ _ _ r h => by simp [oneway_quarter_signed.j0] at h, fun _ _ _ _ r h => by simp [oneway_quarter_signed.l0] at h⟩
  | k + 1 => by
    obtain ⟨ih0, ih1⟩ := oneway_quarter_signed.mono_l k
    refine ⟨?_, ?_⟩
    · intro y0 y1 y2 y3
      unfold oneway_quarter_signed.j0
      with_reducible repeat' first | exact ih0 _ _ _ _ | exact ih1 _ _ _ _ | exact LeO.refl _ | exact LeO.none _ | refine LeO.ite ?_ ?_ | refine LeO.bind ?_ (fun _ => ?_)
    · intro y0 y1 y2 y3
      unfold oneway_quarter_signed.l0
      with_reducible repeat' first | exact ih0 _ _ _ _ | exact ih1 _ _ _ _ | exact LeO.refl _ | exact LeO.none _ | refine LeO.ite ?_ ?_ | refine LeO.bind ?_ (fun _ => ?_)
theorem oneway_quarter_signed.mono : ∀ a0 a1 a2 k, LeO (oneway_quarter_signed.f k a0 a1 a2) (oneway_quarter_signed.f (k + 1) a0 a1 a2) := by
  intro a0 a1 a2 k
  obtain ⟨ih0, ih1⟩ := oneway_quarter_signed.mono_l k
  unfold oneway_quarter_signed.f
  with_reducible repeat' first | exact ih0 _ _ _ _ | exact ih1 _ _ _ _ | exact LeO.refl _ | exact LeO.none _ | refine LeO.ite ?_ ?_ | refine LeO.bind ?_ (fun _ => ?_)
theorem signed_all {p : UInt8 → Bool} : ∀ l : List UInt8, (∀ x, x ∈ l.dropWhile p → p x = true) → ∀ x, x ∈ l → p x = true
  | [], _, x, hx => by simp at hx
  | a :: l, h, x, hx => by
    rw [List.dropWhile_cons] at h
    cases hp : p a with
    | false =>
      rw [hp] at h
      have := h a (by simp)
      rw [hp] at this
      exact absurd this (by decide)
    | true =>
      rw [hp] at h
      rcases List.mem_cons.mp hx with rfl | hx
      · exact hp
      · exact signed_all l (by simpa using h) x hx
theorem signed_trim (l cs : List UInt8) (h : Lib.trimS l cs = []) : ∀ x, x ∈ l → cs.contains x = true := by
  intro x hx
  have h1 : ∀ y, y ∈ Lib.trimRightS l cs → cs.contains y = true := by
    have h2 : (Lib.trimRightS l cs).dropWhile (cs.contains ·) = [] := h
    exact signed_all _ (by rw [h2]; intro y hy; simp at hy)
  refine signed_all (p := (cs.contains ·)) l.reverse (fun y hy => h1 y ?_) x (List.mem_reverse.mpr hx)
  unfold Lib.trimRightS
  exact List.mem_reverse.mpr hy
theorem signed_lt {a1 t : ByteArray} (h : strings_Trim.f a1 (⟨#[60, 62]⟩ : ByteArray) = some t) (ht : (t.toList != ([] : List UInt8)) = false) : a1.size ≤ 9223372036854775807 ∧ ∀ i : Int, 0 ≤ i → i < a1.size → bt a1 i = 60 ∨ bt a1 i = 62 := by
  unfold strings_Trim.f at h
  split at h
  · rename_i hc
    obtain rfl := Option.some.inj h
    rw [Lib.toList_data] at ht
    have h0 : Lib.trimS a1.data.toList [60, 62] = [] := by simpa using ht
    refine ⟨hc.1, fun i h1 h2 => ?_⟩
    have hi : i.toNat < a1.size := by omega
    have hm : a1[i.toNat]'hi ∈ a1.data.toList := Array.getElem_mem_toList _
    have hx := signed_trim _ _ h0 _ hm
    have hx2 : a1[i.toNat]'hi = 60 ∨ a1[i.toNat]'hi = 62 := by simpa using hx
    rw [← bt_at a1 i hi]
    rcases hx2 with h3 | h3 <;> rw [h3] <;> decide
  · exact absurd h (by simp)
theorem signed_next (w : World) (it : Nat) (s : ByteArray) (x : Int) (hk : w.heap[it]? = some (.stringIter s x.toNat)) (h0 : 0 ≤ x) (h1 : x < s.size) (ha : bt s x = 60 ∨ bt s x = 62) (ty : TypeId) :
    (Instr.next (.pointer (some ⟨it, 0, none⟩)) true ty).run Tryd.prog w = .ok (.tuple #[.bool true, .int .i64 x, .int .i32 (bt s x)]) (w.iterAt it s (x.toNat + 1)) := by
  have hi : x.toNat < s.size := by omega
  have hb := bt_at s x hi
  rw [Lib.run_next_ascii_at w it s x.toNat ty hk hi (by omega), hb, Int.toNat_of_nonneg h0]
theorem signed_keep {w : World} {it : Nat} {s : ByteArray} (q : Nat) : KeepBut w (w.iterAt it s q) it none :=
  ⟨by rw [Lib.iterAt_size]; exact Nat.le_refl _, fun i _ hi _ => Lib.iterAt_other w it i s q hi⟩
theorem signed_ne {w : World} {it g t : Nat} {s : ByteArray} {x : Nat} {cs : Array Value} (hk : w.heap[it]? = some (.stringIter s x)) (hg : w.heap[g]? = some (.cells cs t (0, 0))) : g ≠ it := by
  rintro rfl
  rw [hk] at hg
  exact absurd hg (by simp)
def oneway_quarter_signed.T8 : Bool × List (List Nat × List Nat) := (true, [([], []), ([], []), ([], []), ([], []), ([], []), ([], []), ([4, 5], [4, 5]), ([6], [6]), ([7], [7]), ([], []), ([], []), ([9, 10], [9, 10]), ([11], [11]), ([12], [12]), ([0, 1, 0, 1, 4, 5, 6, 7, 8, 13], [0, 1]), ([14, 0, 1, 4, 5, 6, 7, 8, 13], [14]), ([15, 8, 0, 1, 4, 5, 6, 7, 8, 13], [8, 15]), ([2, 3, 0, 1, 2, 3, 4, 5, 6, 7, 8, 9, 10, 11, 12, 13, 14, 15, 16], [2, 3]), ([17, 0, 1, 2, 3, 4, 5, 6, 7, 8, 9, 10, 11, 12, 13, 14, 15, 16], [17]), ([18, 13, 16, 0, 1, 2, 3, 4, 5, 6, 7, 8, 9, 10, 11, 12, 13, 14, 15, 16], [13, 18])])
def oneway_quarter_signed.B8 : List Nat := [0, 0, 0, 0, 0, 0, 48, 112, 240, 0, 0, 1536, 3584, 7680, 16371, 32755, 65523, 131071, 262143, 524287]
theorem oneway_quarter_signed.tab8 : rtab .any (opsOf Tryd.f21 8) = oneway_quarter_signed.T8 := by kernel_rfl
theorem oneway_quarter_signed.bits8 : waitsOk oneway_quarter_signed.T8.2 oneway_quarter_signed.B8 = true := by kernel_rfl
set_option maxHeartbeats 8000000 in
set_option maxRecDepth 100000 in
theorem oneway_quarter_signed.calls (k : Nat) (a0_0 : Int) (A0_1 : Option Addr) (c0_1 : Nat) (l0_1 : List (S39)) (a1 : ByteArray) (r1 : List (S39)) (r2 : Bool) (w : World) (hr0_1 : Kd.C k39 w A0_1 l0_1.length l0_1) (hc0_1 : l0_1.length ≤ c0_1) (h : oneway_quarter_signed.f k a0_0 l0_1 a1 = some (r1, r2)) :
    Calls Tryd.prog 21 #[.agg #[.int .i64 a0_0, .slice A0_1 l0_1.length c0_1], .string a1] w fun e w' => ∃ v0_ : Value, e = .returned (.tuple #[v0_, .bool r2]) ∧ Kd.R k39 39 w' w.heap.size (fun _ => True) v0_ r1 ∧ Below w.heap.size w w' := by
 have hu41 := Tryd.underlying41
 have HR0_1 := Aside0.mk hr0_1
 have HC0_1 := Aside0.mk hc0_1
 clear hr0_1 hc0_1
 have HB := Aside0.mk (Below.refl w.heap.size w)
 have H : (if (a1.size : Int) = (l0_1.length : Int) then ((strings_Trim.f a1 (⟨#[60, 62]⟩ : ByteArray)).bind fun t238 => (oneway_quarter_signed.j0 k a1 (t238.toList != ([] : List UInt8)) a0_0 l0_1)) else (oneway_quarter_signed.j0 k a1 true a0_0 l0_1)) = some (r1, r2) := h
 clear h
 have HC3 := Aside0.mk H
 clear H
 go_enter Tryd.func21, Tryd.ntmps21
 go_upto_region 1 with (first | ((with_reducible refine gate_dst (N := 2) rfl ?_); refine be_ #[.int .i64 a0_0, .slice A0_1 l0_1.length c0_1] 41 ?_; intro gb237 hg w4 hbox hb; have BK237 := Aside0.mk (hbox); have GW237 := gw_ hg; have GE237 := gw_ hg; replace HB := hb_ hb; clear hb hbox hg))
 (try simp only [Act.put, List.setIfInBounds_toArray, List.set_cons_zero, List.set_cons_succ])
 go_cut [19] (fun v19 wc => ∃ (kq : Nat) (x19_2 : Bool), v19 = .bool x19_2 ∧ Aside0 (oneway_quarter_signed.j0 kq a1 x19_2 a0_0 l0_1 = some (r1, r2)) ∧ Aside0 (kq ≤ k) ∧ Aside0 (wc.heap[gb237]? = some (.cells #[.int .i64 a0_0, (.slice A0_1 l0_1.length c0_1)] 41 (0, 0))) ∧ Aside0 (Below w.heap.size w wc) ∧ Aside0 (x19_2 = false → (a1.size ≤ 9223372036854775807 ∧ ∀ i : Int, 0 ≤ i → i < a1.size → bt a1 i = 60 ∨ bt a1 i = 62)))
 case first =>
  have H := HC3.out
  clear HC3
  by_cases c5 : (a1.size : Int) = (l0_1.length : Int)
  ·rw [if_pos c5] at H
   have c5b0 : ((a1.size : Int) == (l0_1.length : Int)) = true := beq_iff_eq.mpr c5
   have c5b1 : ((a1.size : Int) != (l0_1.length : Int)) = false := bne_eq_false_iff_eq.mpr c5
   have c5b2 : (a1.size == l0_1.length) = true := by first | simpa using c5 | (simp at c5 ⊢; omega)
   clear c5
   (first | rw [c5b0] | (simp only [i64_w, i32_w]; rw [c5b0]) | skip)
   obtain ⟨t238, A6, H⟩ := bi_ H
   replace H : (oneway_quarter_signed.j0 k a1 (t238.toList != ([] : List UInt8)) a0_0 l0_1) = some (r1, r2) := H
   have H' := Aside0.mk H
   clear H
   have hcz7_0 := bc_ BK237 0 (.int .i64 a0_0)
   have hcz7_1 := bc_ BK237 1 (.slice A0_1 l0_1.length c0_1)
   have hfz7_0 := bz_ BK237 0
   have hfz7_1 := bz_ BK237 1
   go_wp2_with (first | (go_at_call 31; (with_reducible refine (strings_Trim.calls a1 (⟨#[60, 62]⟩ : ByteArray) t238 _ A6.out).mono ?_); rintro e w8 ⟨rfl, hb⟩; replace BK237 := bb_ BK237 hb; replace HB := hb_ hb; clear hb))
   go_meet
   case rel => exact ⟨_, ((t238.toList != ([] : List UInt8))), (by (try simp only [Value.bool.injEq]); generalize t238.toList = q_; cases q_ <;> rfl), H', ⟨by first | omega | exact Nat.le_refl _⟩, ⟨bk_ BK237.out⟩, ⟨bl_⟩, ⟨fun h_ => signed_lt A6.out h_⟩⟩
  ·rw [if_neg c5] at H
   have c5b0 : ((a1.size : Int) == (l0_1.length : Int)) = false := beq_eq_false_iff_ne.mpr c5
   have c5b1 : ((a1.size : Int) != (l0_1.length : Int)) = true := bne_iff_ne.mpr c5
   have c5b2 : (a1.size == l0_1.length) = false := by first | simpa using c5 | (simp at c5 ⊢; omega)
   (first | rw [c5b0] | (simp only [i64_w, i32_w]; rw [c5b0]) | skip)
   have H' := Aside0.mk H
   clear H
   have hcz9_0 := bc_ BK237 0 (.int .i64 a0_0)
   have hcz9_1 := bc_ BK237 1 (.slice A0_1 l0_1.length c0_1)
   have hfz9_0 := bz_ BK237 0
   have hfz9_1 := bz_ BK237 1
   go_wp2
   go_meet
   case rel => exact ⟨_, (true), rs_, H', ⟨by first | omega | exact Nat.le_refl _⟩, ⟨bk_ BK237.out⟩, ⟨bl_⟩, ⟨fun h_ => absurd h_ (by decide)⟩⟩
 case rest =>
  clear HC3
  try clear c2
  try clear p2
  try clear c5
  try clear c5b0
  try clear c5b1
  try clear c5b2
  try clear hcz7_0
  try clear hcz7_1
  try clear hcz9_0
  try clear hcz9_1
  try clear hfz7_0
  try clear hfz7_1
  try clear hfz9_0
  try clear hfz9_1
  obtain ⟨kq, x19_2, rfl, HA, HJ2, BK237, HB, HLT0⟩ := hcut
  cases kq with
  | zero => exact absurd HA.out (by simp [oneway_quarter_signed.j0])
  | succ kj2 =>
   have H := HA.out
   clear HA
   simp only [oneway_quarter_signed.j0] at H
   by_cases c10 : x19_2 = true
   ·subst c10
    have H1 : (some (([] : List (S39)), false)) = some (r1, r2) := by rw [if_pos rfl] at H; exact H
    clear H
    have H := H1
    clear H1
    simp only [Option.some.injEq, Prod.mk.injEq] at H
    obtain ⟨rfl, rfl⟩ := H
    go_wp2
    go_ret2
    exact ⟨_, er_, by first | exact Kd.R_nil _ _ _ _ _ | exact Kd.N_nil _ _ _ _ _ | exact Kd.V_nil _ _ _ _ _ | exact Kd.Q_nil _ _ _ _ _ | exact Kd.S_nil _ _ _ _ _, bl_⟩
   ·replace c10 := Bool.eq_false_iff.mpr c10
    subst c10
    have H1 : ((api_Pair.f l0_1).bind fun t239 => (oneway_quarter_signed.l0 kj2 t239 a1 0 (a1.size : Int))) = some (r1, r2) := by rw [if_neg (show ¬ (false = true) by decide)] at H; exact H
    clear H
    have H := H1
    clear H1
    obtain ⟨t239, A11, H⟩ := bi_ H
    replace H : (oneway_quarter_signed.l0 kj2 t239 a1 0 (a1.size : Int)) = some (r1, r2) := H
    have H' := Aside0.mk H
    clear H
    have hcz12_0 := bc_ BK237 0 (.int .i64 a0_0)
    have hcz12_1 := bc_ BK237 1 (.slice A0_1 l0_1.length c0_1)
    have hfz12_0 := bz_ BK237 0
    have hfz12_1 := bz_ BK237 1
    go_wp2_with (first | ((with_reducible refine gate_callee (f := 32) rfl ?_); refine goesL_ (some 22) rfl rfl Tryd.func32 (by kernel_rfl) rfl #[.slice A0_1 l0_1.length c0_1] rfl (as_) ?_; (with_reducible refine (api_Pair.calls _ _ l0_1 t239 _ ?side1 ?side2 A11.out).mono ?_); (case side1 => exact cb_ HR0_1.out); (case side2 => exact HC0_1.out); rintro e w13 ⟨v240, rfl, ho0, hb⟩; refine ⟨_, rfl, ?_⟩; have HO241 := rl_ ho0; replace BK237 := bb_ BK237 hb; replace HB := hb_ hb; clear hb ho0))
    have HLT := Aside0.mk (show (a1.size ≤ 9223372036854775807 ∧ ∀ i : Int, 0 ≤ i → i < a1.size → bt a1 i = 60 ∨ bt a1 i = 62) by first | exact HLT0.out rfl | exact HLT0.out trivial | simpa using HLT0.out)
    clear HLT0
    have hsz_ := below_size HB.out
    have n0_ : Aside0 (Kd.R k39 39 (w13.iter a1 0) w.heap.size (fun k_ => k_ ≠ w13.heap.size) v240 t239) := ⟨Kd.R_alloc (Kd.R_mono (Kd.R_bound HO241.out) (fun k_ h_ => by have h1_ := h_.2.2.1; omega)) _⟩
    have n1_ : Aside0 ((w13.iter a1 0).heap[gb237]? = some (.cells #[.int .i64 a0_0, (.slice A0_1 l0_1.length c0_1)] 41 (0, 0))) := ⟨blk_alloc BK237.out _⟩
    have n2_ : Aside0 (Below w.heap.size w (w13.iter a1 0)) := ⟨below_alloc HB.out _⟩
    have n3_ : Aside0 ((w13.iter a1 0).heap[w13.heap.size]? = some (.stringIter a1 (0 : Int).toNat)) := ⟨World.iter_heap w13 a1 0⟩
    have GIT := Aside0.mk hsz_
    clear HO241 BK237 HB hsz_
    generalize w13.iter a1 0 = w14 at n0_ n1_ n2_ n3_ ⊢
    generalize w13.heap.size = it at n0_ n3_ GIT ⊢
    go_loopg [] kj2 (fun kq w' => ∃ (x6_2 : List (S39)) (x24_2 : Int), Aside0 (oneway_quarter_signed.l0 kq x6_2 a1 x24_2 (a1.size : Int) = some (r1, r2)) ∧ Aside0 (kq ≤ kj2) ∧ Aside0 (Kd.R k39 39 w' w.heap.size (fun k_ => k_ ≠ it) v240 x6_2) ∧ Aside0 (w'.heap[gb237]? = some (.cells #[.int .i64 a0_0, (.slice A0_1 l0_1.length c0_1)] 41 (0, 0))) ∧ Aside0 (Below w.heap.size w w') ∧ Aside0 (w'.heap[it]? = some (.stringIter a1 x24_2.toNat)))
    case atStart => exact ⟨t239, 0, H', ⟨Nat.le_refl _⟩, n0_, n1_, n2_, n3_⟩
    case round =>
     clear H'
     try clear c1
     try clear c2
     try clear p2
     try clear c3
     try clear c5
     try clear c5b0
     try clear c5b1
     try clear c5b2
     try clear c10
     try clear hcz12_0
     try clear hcz12_1
     try clear hcz7_0
     try clear hcz7_1
     try clear hcz9_0
     try clear hcz9_1
     try clear hfz12_0
     try clear hfz12_1
     try clear hfz7_0
     try clear hfz7_1
     try clear hfz9_0
     try clear hfz9_1
     try clear p2
     clear n0_ n1_ n2_ n3_
     obtain ⟨x6_2, x24_2, HA, HK2, HO_6, BK237, HB, HIT⟩ := hrel
     cases gk with
     | zero => exact absurd HA.out (by simp [oneway_quarter_signed.l0])
     | succ k2 =>
      have H := HA.out
      clear HA
      simp only [oneway_quarter_signed.l0] at H
      by_cases c14 : x24_2 < (a1.size : Int)
      ·rw [if_pos c14] at H
       have c14b0 : decide (x24_2 < (a1.size : Int)) = true := decide_eq_true c14
       clear c14
       obtain ⟨c15b0, H⟩ := fp_ H
       obtain ⟨c16b0, H⟩ := fp_ H
       by_cases c18 : (bt a1 x24_2) = 60
       ·rw [if_pos c18] at H
        have c18b0 : ((bt a1 x24_2) == 60) = true := beq_iff_eq.mpr c18
        have c18b1 : ((bt a1 x24_2) != 60) = false := bne_eq_false_iff_eq.mpr c18
        clear c18
        obtain ⟨c19b0, H⟩ := fp_ H
        obtain ⟨y244, hy244⟩ : ∃ y_ : List (S39), y_ = (x6_2.set (x24_2 : Int).toNat (⟨(rd_T39 x6_2 x24_2).f1, (rd_T39 x6_2 x24_2).f1⟩ : S39)) := ⟨_, rfl⟩
        replace H : (oneway_quarter_signed.l0 k2 (y244.set (x24_2 : Int).toNat (⟨(rd_T39 y244 x24_2).f0, (rd_T39 x6_2 x24_2).f0⟩ : S39)) a1 (wrap64 (x24_2 + 1)) (a1.size : Int)) = some (r1, r2) := by first | (rw [hy244]; with_reducible exact H) | (have H2_ := (Option.bind_some _ _).symm.trans H; rw [hy244]; with_reducible exact H2_) | (have H2_ := (Option.bind_some _ _).symm.trans H; with_reducible exact H2_) | with_reducible exact H | (rw [hy244]; exact H) | exact H
        have Ny244 := Aside0.mk hy244
        clear hy244
        obtain ⟨y245, hy245⟩ : ∃ y_ : List (S39), y_ = (y244.set (x24_2 : Int).toNat (⟨(rd_T39 y244 x24_2).f0, (rd_T39 x6_2 x24_2).f0⟩ : S39)) := ⟨_, rfl⟩
        replace H : (oneway_quarter_signed.l0 k2 y245 a1 (wrap64 (x24_2 + 1)) (a1.size : Int)) = some (r1, r2) := by first | (rw [hy245]; with_reducible exact H) | (have H2_ := (Option.bind_some _ _).symm.trans H; rw [hy245]; with_reducible exact H2_) | (have H2_ := (Option.bind_some _ _).symm.trans H; with_reducible exact H2_) | with_reducible exact H | (rw [hy245]; exact H) | exact H
        have Ny245 := Aside0.mk hy245
        clear hy245
        have H' := Aside0.mk H
        clear H
        have p17 : 0 ≤ (x24_2 : Int) := od_
        have q17 : x24_2 < (a1.size : Int) := od_
        have hx17 := bt_at a1 x24_2
        have hnx_ := signed_next wr it a1 x24_2 HIT.out p17 q17 (HLT.out.2 x24_2 p17 q17)
        have hw_ : (wrap64 (x24_2 + 1)).toNat = x24_2.toNat + 1 := by have h_ := HLT.out.1; unfold wrap64; omega
        have HWR_ := Aside0.mk hw_
        clear hw_
        replace p17 := eq_true p17
        replace q17 := eq_true q17
        try go_wp2
        replace HO_6 : Aside0 (Kd.R k39 39 (wr.iterAt it a1 (x24_2.toNat + 1)).drew w.heap.size (fun k_ => k_ ≠ it) v240 x6_2) := ⟨Kd.R_drew (Kd.R_keep HO_6.out (signed_keep _) (fun _ h_ => h_))⟩
        replace BK237 : Aside0 ((wr.iterAt it a1 (x24_2.toNat + 1)).drew.heap[gb237]? = some (.cells #[.int .i64 a0_0, (.slice A0_1 l0_1.length c0_1)] 41 (0, 0))) := ⟨(Lib.iterAt_other wr it gb237 a1 _ (signed_ne HIT.out BK237.out)).trans BK237.out⟩
        replace HB : Aside0 (Below w.heap.size w (wr.iterAt it a1 (x24_2.toNat + 1)).drew) := ⟨below_drew1 (Lib.below_iterAt HB.out GIT.out a1 _)⟩
        replace HIT : Aside0 ((wr.iterAt it a1 (x24_2.toNat + 1)).drew.heap[it]? = some (.stringIter a1 (x24_2.toNat + 1))) := ⟨Lib.iterAt_heap wr it a1 _ _ HIT.out⟩
        clear hnx_
        obtain ⟨Ao23, co23, eo23⟩ := Kd.R_slice HO_6.out
        (first | subst eo23 | (injection eo23 with f1_ f2_ f3_; have f4_ := f1_.symm; have f5_ := f3_.symm; clear f1_ f2_ f3_; subst f4_; subst f5_))
        have p242 : 0 ≤ (x24_2 : Int) := od_
        have q242 : x24_2 < (x6_2.length : Int) := od_
        obtain ⟨ad242, e242, hx242_0, hx242_1⟩ := at_T39 (Kd.R_reads' HO_6.out).2.2 x24_2 p242 q242
        cases e242
        replace p242 := eq_true p242
        replace q242 := eq_true q242
        have p243 : 0 ≤ (x24_2 : Int) := od_
        have q243 : x24_2 < (x6_2.length : Int) := od_
        obtain ⟨ad243, e243, hx243_0, hx243_1⟩ := at_T39 (Kd.R_reads' HO_6.out).2.2 x24_2 p243 q243
        obtain rfl : ad242 = ad243 := (by injection e243)
        replace p243 := eq_true p243
        replace q243 := eq_true q243
        have p20 : 0 ≤ (x24_2 : Int) := od_
        have q20 : (x24_2 : Int) < ((x6_2.length : Int) : Int) := od_
        obtain ⟨go20, co20, eo20, gb20, gl20, cl20, HG20⟩ := Kd.R_form HO_6.out (by omega)
        (first | cases eo20 | (injection eo20 with ea_ en_ ec_; (first | subst ea_ | (injection ea_ with ea_; subst ea_)); subst ec_; clear en_))
        have GB20 := Aside0.mk gb20
        have GG20 := Aside0.mk HG20
        clear gb20 gl20 HG20
        (first | simp only [add_plain] at hx242_0 | skip)
        (first | simp only [add_plain] at hx242_1 | skip)
        (first | simp only [add_plain] at hx243_0 | skip)
        (first | simp only [add_plain] at hx243_1 | skip)
        obtain ⟨ce20, hcl20, hM20, hcc20, hfr20⟩ := Kd.R_elem HO_6.out z39 (x24_2 : Int) p20 q20
        obtain rfl := k39_openM hM20
        have hx20_0 : World.cell? _ ⟨go20, (x24_2 : Int).toNat * 2, none⟩ = some (.int .i64 ((rd_T39 x6_2 x24_2).f0)) := hcc20 0 _ rfl
        have hx20_1 : World.cell? _ ⟨go20, (x24_2 : Int).toNat * 2 + 1, none⟩ = some (.int .i64 ((rd_T39 x6_2 x24_2).f1)) := hcc20 1 _ rfl
        have hf20_0 : World.frozen? _ ⟨go20, (x24_2 : Int).toNat * 2, none⟩ = false := hfr20 0
        have hf20_1 : World.frozen? _ ⟨go20, (x24_2 : Int).toNat * 2 + 1, none⟩ = false := hfr20 1
        clear hcl20 hcc20 hfr20; (try clear hM20)
        replace p20 := eq_true p20
        replace q20 := eq_true q20
        obtain ⟨ce24, hcl24, hM24, hcc24, hfr24⟩ := Kd.R_elem HO_6.out z39 (x24_2 : Int) (od_) (by have h_ : (x24_2 : Int) < ((x6_2.length : Int) : Int) := od_; first | exact h_ | (have e_ := (Kd.R_reads' HO_6.out).1; omega) | simpa using h_)
        obtain rfl := k39_openM hM24
        have HP24 := (Kd.R_seg HO_6.out (x24_2 : Int) (od_) (by have h_ : (x24_2 : Int) < ((x6_2.length : Int) : Int) := od_; first | exact h_ | (have e_ := (Kd.R_reads' HO_6.out).1; omega) | simpa using h_) (seg := [.int .i64 ((rd_T39 x6_2 x24_2).f1)]) (j := 0) hcl24 hcc24 (show 1 ≤ 2 from by decide) (x' := (⟨(rd_T39 x6_2 x24_2).f1, (rd_T39 x6_2 x24_2).f1⟩ : S39)) (k39_mkM _ _ _ (⟨(rd_T39 x6_2 x24_2).f1, (rd_T39 x6_2 x24_2).f1⟩ : S39) ) (fun _ hk => hk)).1
        rw [← Ny244.out] at HP24
        have HQ24 := Aside0.mk HP24
        clear hcl24 hcc24 hfr24 HP24; (try clear hM24)
        have p21 : 0 ≤ (x24_2 : Int) := od_
        have q21 : (x24_2 : Int) < ((x6_2.length : Int) : Int) := od_
        replace p21 := eq_true p21
        replace q21 := eq_true q21
        obtain ⟨ce25, hcl25, hM25, hcc25, hfr25⟩ := Kd.R_elem HQ24.out z39 (x24_2 : Int) (od_) (by have h_ : (x24_2 : Int) < ((x6_2.length : Int) : Int) := od_; first | exact h_ | (have e_ := (Kd.R_reads' HO_6.out).1; omega) | simpa using h_)
        obtain rfl := k39_openM hM25
        have HP25 := (Kd.R_seg HQ24.out (x24_2 : Int) (od_) (by have h_ : (x24_2 : Int) < ((x6_2.length : Int) : Int) := od_; first | exact h_ | (have e_ := (Kd.R_reads' HO_6.out).1; omega) | simpa using h_) (seg := [.int .i64 ((rd_T39 x6_2 x24_2).f0)]) (j := 1) hcl25 hcc25 (show 2 ≤ 2 from by decide) (x' := (⟨(rd_T39 y244 x24_2).f0, (rd_T39 x6_2 x24_2).f0⟩ : S39)) (k39_mkM _ _ _ (⟨(rd_T39 y244 x24_2).f0, (rd_T39 x6_2 x24_2).f0⟩ : S39) ) (fun _ hk => hk)).1
        rw [← Ny245.out] at HP25
        have HQ25 := Aside0.mk HP25
        clear hcl25 hcc25 hfr25 HP25; (try clear hM25)
        refine start_ (n := 20) (S := fun w' => w'.cell? ⟨go20, ((x24_2).toNat * 2), none⟩ = some (.int .i64 ((rd_T39 x6_2 x24_2).f0)) ∧ w'.cell? ⟨go20, ((x24_2).toNat * 2) + 1, none⟩ = some (.int .i64 ((rd_T39 x6_2 x24_2).f1)) ∧ w'.cell? ⟨go20, ((x24_2).toNat * 2), none⟩ = some (.int .i64 ((rd_T39 x6_2 x24_2).f0)) ∧ w'.cell? ⟨go20, ((x24_2).toNat * 2) + 1, none⟩ = some (.int .i64 ((rd_T39 x6_2 x24_2).f1))) (ds := [16, 19]) #[false, false, false, false, false, false, false, false, false, false, false, false, false, false, false, false, false, false, false, false] (by kernel_rfl) rfl rfl ⟨hx242_0, hx242_1, hx243_0, hx243_1⟩ (fun hHeld => ?_); refine with_tabW oneway_quarter_signed.tab8 oneway_quarter_signed.bits8 (fun HT_ HW_ => ?_)
        have HGI_ := Aside0.mk (HO_6.out.1 go20 rfl)
        generalize (wr.iterAt it a1 (x24_2.toNat + 1)).drew = w22 at HIT HO_6 BK237 HB GG20 HQ24 HQ25 hf20_0 hf20_1 hx20_0 hx20_1 hx242_0 hx242_1 hx243_0 hx243_1 hHeld ⊢
        refine pu_ 0 31 HT_.out (h := ?_)
        refine pu_ 1 32 HT_.out (h := ?_)
        refine pu_ 2 33 HT_.out (h := ?_)
        refine pu_ 3 34 HT_.out (h := ?_)
        refine pu_ 4 35 HT_.out (h := ?_)
        refine pu_ 5 36 HT_.out (h := ?_)
        refine pu_ 6 37 HT_.out (h := ?_)
        refine pu_ 7 38 HT_.out (h := ?_)
        refine pu_ 9 40 HT_.out (h := ?_)
        refine pu_ 10 41 HT_.out (h := ?_)
        refine pu_ 11 42 HT_.out (h := ?_)
        refine pu_ 12 43 HT_.out (h := ?_)
        refine ta_ 8 39 HT_.out HW_.out hHeld (h := ?_)
        refine ta_ 13 44 HT_.out HW_.out hHeld (h := ?_)
        refine pu_ 14 45 HT_.out (h := ?_)
        refine pu_ 15 46 HT_.out (h := ?_)
        refine last_ (i := 16) (N := none) #[true, true, true, true, true, true, true, true, true, true, true, true, true, true, true, true, true, false, false, false] rfl rfl (one_of HT_.out (by kernel_rfl)) (by decide) (fun K hK => ?_)
        refine skip_ (w1 := ?_) (by rfl) rfl ?_ ?_
        rotate_left
        ·go_simp
         rfl
        refine hK.out _ _ ?_
        clear hK K
        refine pu_ 17 47 HT_.out (h := ?_)
        refine pu_ 18 48 HT_.out (h := ?_)
        refine last_ (i := 19) (N := none) #[true, true, true, true, true, true, true, true, true, true, true, true, true, true, true, true, true, true, true, true] rfl rfl (one_of HT_.out (by kernel_rfl)) (by decide) (fun K hK => ?_)
        refine skip_ (w1 := ?_) (by rfl) rfl ?_ ?_
        rotate_left
        ·go_simp
         rfl
        refine hK.out _ _ ?_
        clear hK K
        refine done_ (done_of HT_.out (by kernel_rfl)) ?_
        try go_wp2
        go_roundg k2
        case measure => have := HJ2.out; have := HK2.out; omega
        case rel => exact ⟨(y245), (wrap64 (x24_2 + 1)), H', ⟨by have := HJ2.out; have := HK2.out; omega⟩, ⟨kr_ HQ25.out⟩, ⟨by refine bk_ ?_; refine blk_far ?_ (by have h_ := Kd.R_ne HO_6.out BK237.out (by decide); intro e_; exact h_ (by rw [e_]; rfl)) _; refine bk_ ?_; refine blk_far ?_ (by have h_ := Kd.R_ne HO_6.out BK237.out (by decide); intro e_; exact h_ (by rw [e_]; rfl)) _; refine bk_ ?_; exact BK237.out⟩, ⟨bl_⟩, ⟨by rw [HWR_.out]; exact (Below.heap_setCell _ _ _ _ (Ne.symm HGI_.out)).trans ((Below.heap_setCell _ _ _ _ (Ne.symm HGI_.out)).trans HIT.out)⟩⟩
       ·rw [if_neg c18] at H
        have c18b0 : ((bt a1 x24_2) == 60) = false := beq_eq_false_iff_ne.mpr c18
        have c18b1 : ((bt a1 x24_2) != 60) = true := bne_iff_ne.mpr c18
        have H' := Aside0.mk H
        clear H
        have p17 : 0 ≤ (x24_2 : Int) := od_
        have q17 : x24_2 < (a1.size : Int) := od_
        have hx17 := bt_at a1 x24_2
        have hnx_ := signed_next wr it a1 x24_2 HIT.out p17 q17 (HLT.out.2 x24_2 p17 q17)
        have hw_ : (wrap64 (x24_2 + 1)).toNat = x24_2.toNat + 1 := by have h_ := HLT.out.1; unfold wrap64; omega
        have HWR_ := Aside0.mk hw_
        clear hw_
        replace p17 := eq_true p17
        replace q17 := eq_true q17
        go_wp2
        go_roundg k2
        case measure => have := HJ2.out; have := HK2.out; omega
        case rel => exact ⟨x6_2, (wrap64 (x24_2 + 1)), H', ⟨by have := HJ2.out; have := HK2.out; omega⟩, ⟨Kd.R_keep HO_6.out (signed_keep _) (fun _ h_ => h_)⟩, ⟨(Lib.iterAt_other wr it gb237 a1 _ (signed_ne HIT.out BK237.out)).trans BK237.out⟩, ⟨Lib.below_iterAt HB.out GIT.out a1 _⟩, ⟨by rw [HWR_.out]; exact Lib.iterAt_heap wr it a1 _ _ HIT.out⟩⟩
      ·rw [if_neg c14] at H
       have c14b0 : decide (x24_2 < (a1.size : Int)) = false := decide_eq_false c14
       have hnx_ := fun ty => Lib.run_next_end_at (P := Tryd.prog) wr it a1 x24_2.toNat ty HIT.out (by omega)
       clear c14
       simp only [Option.some.injEq, Prod.mk.injEq] at H
       obtain ⟨rfl, rfl⟩ := H
       go_wp2
       go_ret2
       exact ⟨_, er_, by refine kr_ ?_; exact Kd.R_mono HO_6.out (fun _ _ => trivial), bl_⟩

end Go.Proofs.YtlcgoacmlbeliaaDoor.P
