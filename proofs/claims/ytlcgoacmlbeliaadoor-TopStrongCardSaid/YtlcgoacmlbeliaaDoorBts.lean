/- Bits of small whole numbers as the program reckons them; a word for 'from some bound on'. Conditions: as each says. -/
import Derived.Test.YtlcgoacmlbeliaaDoorPx11
import Derived.Test.YtlcgoacmlbeliaaDoorNet
import Derived.Laws.BitsLemmas
namespace Go.Proofs.YtlcgoacmlbeliaaDoor.Str
set_option linter.unusedVariables false
set_option linter.unusedSimpArgs false
open Go.RowKit Go.Proofs.YtlcgoacmlbeliaaDoorW.PrintWords Go.Proofs.YtlcgoacmlbeliaaDoorW.PrintLast Go.Proofs.YtlcgoacmlbeliaaDoorW.PrintMore P
theorem wrap_id {n : Int} (h : -9223372036854775808 ≤ n ∧ n < 9223372036854775808) : wrap64 n = n := by unfold wrap64; omega
theorem succ_is {j : Nat} (h : j < 100000) : wrap64 ((j : Int) + 1) = ((j + 1 : Nat) : Int) := by rw [wrap_id (by omega)]; omega
/-- From some bound on, g hands out r. -/
def Ev {α : Type} (g : Nat → Option α) (r : α) : Prop := ∃ K, ∀ k, K ≤ k → g k = some r
theorem Ev.const {α : Type} (r : α) : Ev (fun _ => some r) r := ⟨0, fun _ _ => rfl⟩
theorem Ev.eq {α : Type} {g h : Nat → Option α} {r : α} (he : Ev h r) (e : ∀ k, g k = h k) : Ev g r := by
  obtain ⟨K, hK⟩ := he; exact ⟨K, fun k hk => by rw [e, hK k hk]⟩
theorem Ev.succ {α : Type} {g h : Nat → Option α} {r : α} (he : Ev h r) (e : ∀ k, g (k + 1) = h k) : Ev g r := by
  obtain ⟨K, hK⟩ := he
  refine ⟨K + 1, fun k hk => ?_⟩
  match k, hk with
  | k + 1, hk => rw [e, hK k (by omega)]
theorem Ev.bind {α β : Type} {g : Nat → Option α} {f : Nat → α → Option β} {a : α} {r : β} (h1 : Ev g a) (h2 : Ev (fun k => f k a) r) : Ev (fun k => (g k).bind (f k)) r := by
  obtain ⟨K1, h1⟩ := h1; obtain ⟨K2, h2⟩ := h2
  exact ⟨max K1 K2, fun k hk => by show (g k).bind (f k) = some r; rw [h1 k (by omega)]; exact h2 k (by omega)⟩
/-! ### Bits -/
theorem wraps62 (n : Int) (h0 : 0 ≤ n) (h1 : n < 2 ^ 62) : IntKind.i64.wrap n = n := by rw [IntKind.wrap_i64]; omega
theorem lt62 {x m : Nat} (h : x < 2 ^ m) (hm : m ≤ 62) : x < 2 ^ 62 := Nat.lt_of_lt_of_le h (Nat.pow_le_pow_right (by decide) hm)
theorem or_is {x y : Nat} (hx : x < 2 ^ 62) (hy : y < 2 ^ 62) : Go.bits .or .i64 (x : Int) (y : Int) = ((x ||| y : Nat) : Int) :=
  (bits_nat .i64 62 (by decide) wraps62 x y hx hy).2
theorem and_is {x y : Nat} (hx : x < 2 ^ 62) (hy : y < 2 ^ 62) : Go.bits .and .i64 (x : Int) (y : Int) = ((x &&& y : Nat) : Int) :=
  (bits_nat .i64 62 (by decide) wraps62 x y hx hy).1
theorem shl_is {c : Nat} (hc : c < 62) : shl .i64 1 (c : Int) = ((2 ^ c : Nat) : Int) := by
  unfold shl
  have h1 : min (c : Int).toNat IntKind.i64.bits = c := by
    have : IntKind.i64.bits = 64 := rfl
    rw [this, Int.toNat_natCast]; omega
  rw [h1, Int.one_mul]
  have e : ((2 : Int) ^ c) = ((2 ^ c : Nat) : Int) := by simp
  rw [e]
  refine wraps62 _ (Int.natCast_nonneg _) ?_
  have : 2 ^ c < 2 ^ 62 := Nat.pow_lt_pow_right (by decide) hc
  exact_mod_cast this
theorem shr_is {x c : Nat} (hx : x < 2 ^ 62) : shr .i64 (x : Int) (c : Int) = ((x >>> c : Nat) : Int) := by
  unfold shr
  have hb : IntKind.i64.bits = 64 := rfl
  rw [hb, Int.toNat_natCast, Nat.shiftRight_eq_div_pow]
  by_cases h : c ≤ 64
  · rw [Nat.min_eq_left h]; simp
  · rw [Nat.min_eq_right (by omega)]
    have h1 : x / 2 ^ c = 0 := Nat.div_eq_of_lt (Nat.lt_of_lt_of_le hx (Nat.pow_le_pow_right (by decide) (by omega)))
    have h2 : x / 2 ^ 64 = 0 := Nat.div_eq_of_lt (Nat.lt_of_lt_of_le hx (Nat.pow_le_pow_right (by decide) (by omega)))
    rw [h1]
    have : ((x : Int) / 2 ^ 64) = ((x / 2 ^ 64 : Nat) : Int) := by simp
    rw [this, h2]
theorem bit_is {x c : Nat} (hx : x < 2 ^ 62) : Go.bits .and .i64 (shr .i64 (x : Int) (c : Int)) 1 = if x.testBit c = true then 1 else 0 := by
  rw [shr_is hx]
  have h1 : x >>> c < 2 ^ 62 := by rw [Nat.shiftRight_eq_div_pow]; exact Nat.lt_of_le_of_lt (Nat.div_le_self _ _) hx
  have e := and_is h1 (y := 1) (by decide)
  have e1 : ((1 : Nat) : Int) = 1 := rfl
  rw [e1] at e
  rw [e, Nat.and_one_is_mod, Nat.testBit, Nat.shiftRight_eq_div_pow]
  rw [Nat.one_and_eq_mod_two]
  have : (x / 2 ^ c) % 2 = 0 ∨ (x / 2 ^ c) % 2 = 1 := by omega
  rcases this with h | h <;> rw [h] <;> simp
theorem bit1 {x c : Nat} (hx : x < 2 ^ 62) : Go.bits .and .i64 (shr .i64 (x : Int) (c : Int)) 1 = 1 ↔ x.testBit c = true := by
  rw [bit_is hx]; split <;> simp [*]
theorem bit0 {x c : Nat} (hx : x < 2 ^ 62) : Go.bits .and .i64 (shr .i64 (x : Int) (c : Int)) 1 = 0 ↔ x.testBit c = false := by
  rw [bit_is hx]; split <;> simp [*]
/-! ### Pairs -/
def s39 (e : Nat × Nat) : S39 := ⟨e.1, e.2⟩
theorem rd39 {ws : List (Nat × Nat)} {j : Nat} (h : j < ws.length) : rd_T39 (ws.map s39) (j : Int) = s39 ws[j] := by
  unfold rd_T39
  rw [Int.toNat_natCast, List.getD_eq_getElem?_getD, List.getElem?_eq_getElem (by rw [List.length_map]; exact h), Option.getD_some, List.getElem_map]
theorem rd39_0 {ws : List (Nat × Nat)} {j : Nat} (h : j < ws.length) : (rd_T39 (ws.map s39) (j : Int)).f0 = (ws[j].1 : Int) := by rw [rd39 h]; rfl
theorem rd39_1 {ws : List (Nat × Nat)} {j : Nat} (h : j < ws.length) : (rd_T39 (ws.map s39) (j : Int)).f1 = (ws[j].2 : Int) := by rw [rd39 h]; rfl
end Go.Proofs.YtlcgoacmlbeliaaDoor.Str
