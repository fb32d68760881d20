/-
  No cell of these rows narrows 'for every input' (looked for: loops, veiled, ifaces, maps, wideKeys, modest, calm, conditions, laid).
  DERIVED. THE GIVEN ROWS OF THIS SEAT. 12 by the template 'for every input the law returns true; each argument reads behind the call as it read before'; 0 by the template 'total and deterministic' (their statements: YtfopdfolbdmnjaaTotals.lean).
  GIVEN WITH THE SEED: the statements are not yours to turn. If you find one false, say at which input.
  Laid BY PROGRAM, IN A SANDBOX (cutbox-rows.mjs): the forced cells as the released guide's own fill.sh prints them over the translation cc6c28160c0106a7… (all of the seat's roots in one cut). By AI agents, Wed Nov 11 2026. No macro, syntax, notation, axiom, sorry.
-/
import Derived.Test.YtfopdfolbdmnjaaChecked
import GoSem.Claim
import GoSem.ClaimJoined
import GoSem.ClaimMapViews
import Derived.JoinedTies
import Derived.KernelRfl
namespace Go.Proofs.Ytfopdfolbdmnjaa
/- THE CELL 'sum', in the pinned program and in every row, IS THE sha256 OF THE DUMP (.gsa) THAT YtfopdfolbdmnjaaProg.lean LOADS. Nothing in Lean hashes anything: it is a label: what it is worth is what the hold of that sum in a sandbox is worth. -/
noncomputable def Try.pinned : Pinned := { name := "ytfopdfolbdmnjaa", sum := "cc6c28160c0106a79f15eeaf42125e5a306ddecf0a249d76b9e59a284ffdb4c4", checked := Try.checked }
namespace Rows
def none {H : Type} : Left H := { results := [], args := [] }

/-- 'trishawlaw07.ShiftLeast': WHATEVER THE INPUT: true; the input reads as it did. -/
def shiftLeastSpec : ChangeSpec := { name := "shiftLeast", fn := fun _ => fun
  | [d1, d2] => { results := [.lit (.bool true)], args := [d1, d2] }
  | _ => none }
def shiftLeastRow : OpenClaim := { program := "ytfopdfolbdmnjaa", sum := "cc6c28160c0106a79f15eeaf42125e5a306ddecf0a249d76b9e59a284ffdb4c4", func := "trishaw/trishawlaw07.ShiftLeast", spec := "shiftLeast", recurses := true, apart := false }
def ShiftLeastSaid : Prop := shiftLeastRow.holds Try.pinned (OpenSpec.ofChange shiftLeastSpec)

/-- ITS FALSE NEIGHBOUR: 'it returns false'. Refute it at one input. -/
def shiftLeastWrong : ChangeSpec := { name := "shiftLeast", fn := fun _ => fun
  | [d1, d2] => { results := [.lit (.bool false)], args := [d1, d2] }
  | _ => none }
def ShiftLeastWrongFalsely : Prop := shiftLeastRow.holds Try.pinned (OpenSpec.ofChange shiftLeastWrong)

/-- 'trishawlaw07.ShiftRounded': WHATEVER THE INPUT: true; the input reads as it did. -/
def shiftRoundedSpec : ChangeSpec := { name := "shiftRounded", fn := fun _ => fun
  | [d1, d2] => { results := [.lit (.bool true)], args := [d1, d2] }
  | _ => none }
def shiftRoundedRow : OpenClaim := { program := "ytfopdfolbdmnjaa", sum := "cc6c28160c0106a79f15eeaf42125e5a306ddecf0a249d76b9e59a284ffdb4c4", func := "trishaw/trishawlaw07.ShiftRounded", spec := "shiftRounded", recurses := true, apart := false }
def ShiftRoundedSaid : Prop := shiftRoundedRow.holds Try.pinned (OpenSpec.ofChange shiftRoundedSpec)

/-- ITS FALSE NEIGHBOUR: 'it returns false'. Refute it at one input. -/
def shiftRoundedWrong : ChangeSpec := { name := "shiftRounded", fn := fun _ => fun
  | [d1, d2] => { results := [.lit (.bool false)], args := [d1, d2] }
  | _ => none }
def ShiftRoundedWrongFalsely : Prop := shiftRoundedRow.holds Try.pinned (OpenSpec.ofChange shiftRoundedWrong)

/-- 'trishawlaw07.ShiftBounds': WHATEVER THE INPUT: true; the input reads as it did. -/
def shiftBoundsSpec : ChangeSpec := { name := "shiftBounds", fn := fun _ => fun
  | [d1, d2] => { results := [.lit (.bool true)], args := [d1, d2] }
  | _ => none }
def shiftBoundsRow : OpenClaim := { program := "ytfopdfolbdmnjaa", sum := "cc6c28160c0106a79f15eeaf42125e5a306ddecf0a249d76b9e59a284ffdb4c4", func := "trishaw/trishawlaw07.ShiftBounds", spec := "shiftBounds", recurses := true, apart := false }
def ShiftBoundsSaid : Prop := shiftBoundsRow.holds Try.pinned (OpenSpec.ofChange shiftBoundsSpec)

/-- ITS FALSE NEIGHBOUR: 'it returns false'. Refute it at one input. -/
def shiftBoundsWrong : ChangeSpec := { name := "shiftBounds", fn := fun _ => fun
  | [d1, d2] => { results := [.lit (.bool false)], args := [d1, d2] }
  | _ => none }
def ShiftBoundsWrongFalsely : Prop := shiftBoundsRow.holds Try.pinned (OpenSpec.ofChange shiftBoundsWrong)

/-- 'trishawlaw07.ShiftScaled': WHATEVER THE INPUT: true; the input reads as it did. -/
def shiftScaledSpec : ChangeSpec := { name := "shiftScaled", fn := fun _ => fun
  | [d1, d2, d3] => { results := [.lit (.bool true)], args := [d1, d2, d3] }
  | _ => none }
def shiftScaledRow : OpenClaim := { program := "ytfopdfolbdmnjaa", sum := "cc6c28160c0106a79f15eeaf42125e5a306ddecf0a249d76b9e59a284ffdb4c4", func := "trishaw/trishawlaw07.ShiftScaled", spec := "shiftScaled", recurses := true, apart := false }
def ShiftScaledSaid : Prop := shiftScaledRow.holds Try.pinned (OpenSpec.ofChange shiftScaledSpec)

/-- ITS FALSE NEIGHBOUR: 'it returns false'. Refute it at one input. -/
def shiftScaledWrong : ChangeSpec := { name := "shiftScaled", fn := fun _ => fun
  | [d1, d2, d3] => { results := [.lit (.bool false)], args := [d1, d2, d3] }
  | _ => none }
def ShiftScaledWrongFalsely : Prop := shiftScaledRow.holds Try.pinned (OpenSpec.ofChange shiftScaledWrong)

/-- 'trishawlaw07.ShiftProofs': WHATEVER THE INPUT: true; the input reads as it did. -/
def shiftProofsSpec : ChangeSpec := { name := "shiftProofs", fn := fun _ => fun
  | [d1, d2, d3] => { results := [.lit (.bool true)], args := [d1, d2, d3] }
  | _ => none }
def shiftProofsRow : OpenClaim := { program := "ytfopdfolbdmnjaa", sum := "cc6c28160c0106a79f15eeaf42125e5a306ddecf0a249d76b9e59a284ffdb4c4", func := "trishaw/trishawlaw07.ShiftProofs", spec := "shiftProofs", recurses := true, apart := false }
def ShiftProofsSaid : Prop := shiftProofsRow.holds Try.pinned (OpenSpec.ofChange shiftProofsSpec)

/-- ITS FALSE NEIGHBOUR: 'it returns false'. Refute it at one input. -/
def shiftProofsWrong : ChangeSpec := { name := "shiftProofs", fn := fun _ => fun
  | [d1, d2, d3] => { results := [.lit (.bool false)], args := [d1, d2, d3] }
  | _ => none }
def ShiftProofsWrongFalsely : Prop := shiftProofsRow.holds Try.pinned (OpenSpec.ofChange shiftProofsWrong)

/-- 'trishawlaw07.ShiftPlans': WHATEVER THE INPUT: true; the input reads as it did. -/
def shiftPlansSpec : ChangeSpec := { name := "shiftPlans", fn := fun _ => fun
  | [d1, d2, d3] => { results := [.lit (.bool true)], args := [d1, d2, d3] }
  | _ => none }
def shiftPlansRow : OpenClaim := { program := "ytfopdfolbdmnjaa", sum := "cc6c28160c0106a79f15eeaf42125e5a306ddecf0a249d76b9e59a284ffdb4c4", func := "trishaw/trishawlaw07.ShiftPlans", spec := "shiftPlans", recurses := true, apart := false }
def ShiftPlansSaid : Prop := shiftPlansRow.holds Try.pinned (OpenSpec.ofChange shiftPlansSpec)

/-- ITS FALSE NEIGHBOUR: 'it returns false'. Refute it at one input. -/
def shiftPlansWrong : ChangeSpec := { name := "shiftPlans", fn := fun _ => fun
  | [d1, d2, d3] => { results := [.lit (.bool false)], args := [d1, d2, d3] }
  | _ => none }
def ShiftPlansWrongFalsely : Prop := shiftPlansRow.holds Try.pinned (OpenSpec.ofChange shiftPlansWrong)

/-- 'trishawlaw07.ShiftTurns': WHATEVER THE INPUT: true; the input reads as it did. -/
def shiftTurnsSpec : ChangeSpec := { name := "shiftTurns", fn := fun _ => fun
  | [d1, d2] => { results := [.lit (.bool true)], args := [d1, d2] }
  | _ => none }
def shiftTurnsRow : OpenClaim := { program := "ytfopdfolbdmnjaa", sum := "cc6c28160c0106a79f15eeaf42125e5a306ddecf0a249d76b9e59a284ffdb4c4", func := "trishaw/trishawlaw07.ShiftTurns", spec := "shiftTurns", recurses := true, apart := false }
def ShiftTurnsSaid : Prop := shiftTurnsRow.holds Try.pinned (OpenSpec.ofChange shiftTurnsSpec)

/-- ITS FALSE NEIGHBOUR: 'it returns false'. Refute it at one input. -/
def shiftTurnsWrong : ChangeSpec := { name := "shiftTurns", fn := fun _ => fun
  | [d1, d2] => { results := [.lit (.bool false)], args := [d1, d2] }
  | _ => none }
def ShiftTurnsWrongFalsely : Prop := shiftTurnsRow.holds Try.pinned (OpenSpec.ofChange shiftTurnsWrong)

/-- 'trishawlaw07.ShiftTurned': WHATEVER THE INPUT: true; the input reads as it did. -/
def shiftTurnedSpec : ChangeSpec := { name := "shiftTurned", fn := fun _ => fun
  | [d1, d2, d3] => { results := [.lit (.bool true)], args := [d1, d2, d3] }
  | _ => none }
def shiftTurnedRow : OpenClaim := { program := "ytfopdfolbdmnjaa", sum := "cc6c28160c0106a79f15eeaf42125e5a306ddecf0a249d76b9e59a284ffdb4c4", func := "trishaw/trishawlaw07.ShiftTurned", spec := "shiftTurned", recurses := true, apart := false }
def ShiftTurnedSaid : Prop := shiftTurnedRow.holds Try.pinned (OpenSpec.ofChange shiftTurnedSpec)

/-- ITS FALSE NEIGHBOUR: 'it returns false'. Refute it at one input. -/
def shiftTurnedWrong : ChangeSpec := { name := "shiftTurned", fn := fun _ => fun
  | [d1, d2, d3] => { results := [.lit (.bool false)], args := [d1, d2, d3] }
  | _ => none }
def ShiftTurnedWrongFalsely : Prop := shiftTurnedRow.holds Try.pinned (OpenSpec.ofChange shiftTurnedWrong)

/-- 'trishawlaw07.ShiftEnough': WHATEVER THE INPUT: true; the input reads as it did. -/
def shiftEnoughSpec : ChangeSpec := { name := "shiftEnough", fn := fun _ => fun
  | [d1, d2, d3] => { results := [.lit (.bool true)], args := [d1, d2, d3] }
  | _ => none }
def shiftEnoughRow : OpenClaim := { program := "ytfopdfolbdmnjaa", sum := "cc6c28160c0106a79f15eeaf42125e5a306ddecf0a249d76b9e59a284ffdb4c4", func := "trishaw/trishawlaw07.ShiftEnough", spec := "shiftEnough", recurses := true, apart := false }
def ShiftEnoughSaid : Prop := shiftEnoughRow.holds Try.pinned (OpenSpec.ofChange shiftEnoughSpec)

/-- ITS FALSE NEIGHBOUR: 'it returns false'. Refute it at one input. -/
def shiftEnoughWrong : ChangeSpec := { name := "shiftEnough", fn := fun _ => fun
  | [d1, d2, d3] => { results := [.lit (.bool false)], args := [d1, d2, d3] }
  | _ => none }
def ShiftEnoughWrongFalsely : Prop := shiftEnoughRow.holds Try.pinned (OpenSpec.ofChange shiftEnoughWrong)

/-- 'trishawlaw07.ShiftPlanned': WHATEVER THE INPUT: true; the input reads as it did. -/
def shiftPlannedSpec : ChangeSpec := { name := "shiftPlanned", fn := fun _ => fun
  | [d1, d2, d3] => { results := [.lit (.bool true)], args := [d1, d2, d3] }
  | _ => none }
def shiftPlannedRow : OpenClaim := { program := "ytfopdfolbdmnjaa", sum := "cc6c28160c0106a79f15eeaf42125e5a306ddecf0a249d76b9e59a284ffdb4c4", func := "trishaw/trishawlaw07.ShiftPlanned", spec := "shiftPlanned", recurses := true, apart := false }
def ShiftPlannedSaid : Prop := shiftPlannedRow.holds Try.pinned (OpenSpec.ofChange shiftPlannedSpec)

/-- ITS FALSE NEIGHBOUR: 'it returns false'. Refute it at one input. -/
def shiftPlannedWrong : ChangeSpec := { name := "shiftPlanned", fn := fun _ => fun
  | [d1, d2, d3] => { results := [.lit (.bool false)], args := [d1, d2, d3] }
  | _ => none }
def ShiftPlannedWrongFalsely : Prop := shiftPlannedRow.holds Try.pinned (OpenSpec.ofChange shiftPlannedWrong)

/-- 'trishawlaw07.ShiftProves': WHATEVER THE INPUT: true; the input reads as it did. -/
def shiftProvesSpec : ChangeSpec := { name := "shiftProves", fn := fun _ => fun
  | [d1, d2, d3, d4] => { results := [.lit (.bool true)], args := [d1, d2, d3, d4] }
  | _ => none }
def shiftProvesRow : OpenClaim := { program := "ytfopdfolbdmnjaa", sum := "cc6c28160c0106a79f15eeaf42125e5a306ddecf0a249d76b9e59a284ffdb4c4", func := "trishaw/trishawlaw07.ShiftProves", spec := "shiftProves", recurses := true, apart := false }
def ShiftProvesSaid : Prop := shiftProvesRow.holds Try.pinned (OpenSpec.ofChange shiftProvesSpec)

/-- ITS FALSE NEIGHBOUR: 'it returns false'. Refute it at one input. -/
def shiftProvesWrong : ChangeSpec := { name := "shiftProves", fn := fun _ => fun
  | [d1, d2, d3, d4] => { results := [.lit (.bool false)], args := [d1, d2, d3, d4] }
  | _ => none }
def ShiftProvesWrongFalsely : Prop := shiftProvesRow.holds Try.pinned (OpenSpec.ofChange shiftProvesWrong)

/-- 'trishawlaw07.ShiftMore': WHATEVER THE INPUT: true; the input reads as it did. -/
def shiftMoreSpec : ChangeSpec := { name := "shiftMore", fn := fun _ => fun
  | [d1, d2, d3, d4, d5] => { results := [.lit (.bool true)], args := [d1, d2, d3, d4, d5] }
  | _ => none }
def shiftMoreRow : OpenClaim := { program := "ytfopdfolbdmnjaa", sum := "cc6c28160c0106a79f15eeaf42125e5a306ddecf0a249d76b9e59a284ffdb4c4", func := "trishaw/trishawlaw07.ShiftMore", spec := "shiftMore", recurses := true, apart := false }
def ShiftMoreSaid : Prop := shiftMoreRow.holds Try.pinned (OpenSpec.ofChange shiftMoreSpec)

/-- ITS FALSE NEIGHBOUR: 'it returns false'. Refute it at one input. -/
def shiftMoreWrong : ChangeSpec := { name := "shiftMore", fn := fun _ => fun
  | [d1, d2, d3, d4, d5] => { results := [.lit (.bool false)], args := [d1, d2, d3, d4, d5] }
  | _ => none }
def ShiftMoreWrongFalsely : Prop := shiftMoreRow.holds Try.pinned (OpenSpec.ofChange shiftMoreWrong)

/- THE SECOND FORM. 'bulk': how many values and letters a reading holds, each counted each time it is reached (what is shared counts as often as it is met; a slice's spare places count too). A statement '..UptoSaid' is the law's where the arguments, and the package variables that the reading takes, are together of bulk at most 1048576: NARROWER than '..Said'. Prove '..Said' where nothing that the law and all that it calls make is longer than what came in: it says more and counts as full. Else prove '..UptoSaid'. A law counts once. -/
mutual
def uptoBulk {H : Type} : DataW H → Nat
  | .lit (.string bytes) => bytes.length + 1
  | .lit _ => 1
  | .nil => 1
  | .ptr d => uptoBulk d + 1
  | .slice elems spare => uptoBulkAll elems + uptoBulkAll spare + 1
  | .agg parts => uptoBulkAll parts + 1
  | .iface _ d => uptoBulk d + 1
  | .map entries => uptoBulkEntries entries + 1
  | .held _ => 1
def uptoBulkAll {H : Type} : List (DataW H) → Nat
  | [] => 0
  | d :: r => uptoBulk d + uptoBulkAll r
def uptoBulkEntries {H : Type} : List (Lit × DataW H) → Nat
  | [] => 0
  | x :: r => uptoBulkEntry x + uptoBulkEntries r
def uptoBulkEntry {H : Type} : Lit × DataW H → Nat
  | (.string bytes, d) => bytes.length + uptoBulk d + 1
  | (_, d) => uptoBulk d + 1
 end
def uptoSmall : (H : Type) → List (DataW H) → Bool := fun _ ds => decide (uptoBulkAll ds ≤ 1048576)
def OpenSpec.upto (s : _root_.Go.ChangeSpec) : _root_.Go.OpenSpec := { _root_.Go.OpenSpec.ofChange s with cond := some uptoSmall }

/-- 'trishawlaw07.ShiftLeast', WHERE WHAT IT READS IS OF BULK AT MOST 1048576: true; the input reads as it did. -/
def shiftLeastUptoRow : OpenClaim := { program := "ytfopdfolbdmnjaa", sum := "cc6c28160c0106a79f15eeaf42125e5a306ddecf0a249d76b9e59a284ffdb4c4", func := "trishaw/trishawlaw07.ShiftLeast", spec := "shiftLeast", recurses := true, apart := false, narrowed := true }
def ShiftLeastUptoSaid : Prop := shiftLeastUptoRow.holds Try.pinned (OpenSpec.upto shiftLeastSpec)

/-- 'trishawlaw07.ShiftRounded', WHERE WHAT IT READS IS OF BULK AT MOST 1048576: true; the input reads as it did. -/
def shiftRoundedUptoRow : OpenClaim := { program := "ytfopdfolbdmnjaa", sum := "cc6c28160c0106a79f15eeaf42125e5a306ddecf0a249d76b9e59a284ffdb4c4", func := "trishaw/trishawlaw07.ShiftRounded", spec := "shiftRounded", recurses := true, apart := false, narrowed := true }
def ShiftRoundedUptoSaid : Prop := shiftRoundedUptoRow.holds Try.pinned (OpenSpec.upto shiftRoundedSpec)

/-- 'trishawlaw07.ShiftBounds', WHERE WHAT IT READS IS OF BULK AT MOST 1048576: true; the input reads as it did. -/
def shiftBoundsUptoRow : OpenClaim := { program := "ytfopdfolbdmnjaa", sum := "cc6c28160c0106a79f15eeaf42125e5a306ddecf0a249d76b9e59a284ffdb4c4", func := "trishaw/trishawlaw07.ShiftBounds", spec := "shiftBounds", recurses := true, apart := false, narrowed := true }
def ShiftBoundsUptoSaid : Prop := shiftBoundsUptoRow.holds Try.pinned (OpenSpec.upto shiftBoundsSpec)

/-- 'trishawlaw07.ShiftScaled', WHERE WHAT IT READS IS OF BULK AT MOST 1048576: true; the input reads as it did. -/
def shiftScaledUptoRow : OpenClaim := { program := "ytfopdfolbdmnjaa", sum := "cc6c28160c0106a79f15eeaf42125e5a306ddecf0a249d76b9e59a284ffdb4c4", func := "trishaw/trishawlaw07.ShiftScaled", spec := "shiftScaled", recurses := true, apart := false, narrowed := true }
def ShiftScaledUptoSaid : Prop := shiftScaledUptoRow.holds Try.pinned (OpenSpec.upto shiftScaledSpec)

/-- 'trishawlaw07.ShiftProofs', WHERE WHAT IT READS IS OF BULK AT MOST 1048576: true; the input reads as it did. -/
def shiftProofsUptoRow : OpenClaim := { program := "ytfopdfolbdmnjaa", sum := "cc6c28160c0106a79f15eeaf42125e5a306ddecf0a249d76b9e59a284ffdb4c4", func := "trishaw/trishawlaw07.ShiftProofs", spec := "shiftProofs", recurses := true, apart := false, narrowed := true }
def ShiftProofsUptoSaid : Prop := shiftProofsUptoRow.holds Try.pinned (OpenSpec.upto shiftProofsSpec)

/-- 'trishawlaw07.ShiftPlans', WHERE WHAT IT READS IS OF BULK AT MOST 1048576: true; the input reads as it did. -/
def shiftPlansUptoRow : OpenClaim := { program := "ytfopdfolbdmnjaa", sum := "cc6c28160c0106a79f15eeaf42125e5a306ddecf0a249d76b9e59a284ffdb4c4", func := "trishaw/trishawlaw07.ShiftPlans", spec := "shiftPlans", recurses := true, apart := false, narrowed := true }
def ShiftPlansUptoSaid : Prop := shiftPlansUptoRow.holds Try.pinned (OpenSpec.upto shiftPlansSpec)

/-- 'trishawlaw07.ShiftTurns', WHERE WHAT IT READS IS OF BULK AT MOST 1048576: true; the input reads as it did. -/
def shiftTurnsUptoRow : OpenClaim := { program := "ytfopdfolbdmnjaa", sum := "cc6c28160c0106a79f15eeaf42125e5a306ddecf0a249d76b9e59a284ffdb4c4", func := "trishaw/trishawlaw07.ShiftTurns", spec := "shiftTurns", recurses := true, apart := false, narrowed := true }
def ShiftTurnsUptoSaid : Prop := shiftTurnsUptoRow.holds Try.pinned (OpenSpec.upto shiftTurnsSpec)

/-- 'trishawlaw07.ShiftTurned', WHERE WHAT IT READS IS OF BULK AT MOST 1048576: true; the input reads as it did. -/
def shiftTurnedUptoRow : OpenClaim := { program := "ytfopdfolbdmnjaa", sum := "cc6c28160c0106a79f15eeaf42125e5a306ddecf0a249d76b9e59a284ffdb4c4", func := "trishaw/trishawlaw07.ShiftTurned", spec := "shiftTurned", recurses := true, apart := false, narrowed := true }
def ShiftTurnedUptoSaid : Prop := shiftTurnedUptoRow.holds Try.pinned (OpenSpec.upto shiftTurnedSpec)

/-- 'trishawlaw07.ShiftEnough', WHERE WHAT IT READS IS OF BULK AT MOST 1048576: true; the input reads as it did. -/
def shiftEnoughUptoRow : OpenClaim := { program := "ytfopdfolbdmnjaa", sum := "cc6c28160c0106a79f15eeaf42125e5a306ddecf0a249d76b9e59a284ffdb4c4", func := "trishaw/trishawlaw07.ShiftEnough", spec := "shiftEnough", recurses := true, apart := false, narrowed := true }
def ShiftEnoughUptoSaid : Prop := shiftEnoughUptoRow.holds Try.pinned (OpenSpec.upto shiftEnoughSpec)

/-- 'trishawlaw07.ShiftPlanned', WHERE WHAT IT READS IS OF BULK AT MOST 1048576: true; the input reads as it did. -/
def shiftPlannedUptoRow : OpenClaim := { program := "ytfopdfolbdmnjaa", sum := "cc6c28160c0106a79f15eeaf42125e5a306ddecf0a249d76b9e59a284ffdb4c4", func := "trishaw/trishawlaw07.ShiftPlanned", spec := "shiftPlanned", recurses := true, apart := false, narrowed := true }
def ShiftPlannedUptoSaid : Prop := shiftPlannedUptoRow.holds Try.pinned (OpenSpec.upto shiftPlannedSpec)

/-- 'trishawlaw07.ShiftProves', WHERE WHAT IT READS IS OF BULK AT MOST 1048576: true; the input reads as it did. -/
def shiftProvesUptoRow : OpenClaim := { program := "ytfopdfolbdmnjaa", sum := "cc6c28160c0106a79f15eeaf42125e5a306ddecf0a249d76b9e59a284ffdb4c4", func := "trishaw/trishawlaw07.ShiftProves", spec := "shiftProves", recurses := true, apart := false, narrowed := true }
def ShiftProvesUptoSaid : Prop := shiftProvesUptoRow.holds Try.pinned (OpenSpec.upto shiftProvesSpec)

/-- 'trishawlaw07.ShiftMore', WHERE WHAT IT READS IS OF BULK AT MOST 1048576: true; the input reads as it did. -/
def shiftMoreUptoRow : OpenClaim := { program := "ytfopdfolbdmnjaa", sum := "cc6c28160c0106a79f15eeaf42125e5a306ddecf0a249d76b9e59a284ffdb4c4", func := "trishaw/trishawlaw07.ShiftMore", spec := "shiftMore", recurses := true, apart := false, narrowed := true }
def ShiftMoreUptoSaid : Prop := shiftMoreUptoRow.holds Try.pinned (OpenSpec.upto shiftMoreSpec)

end Rows
end Go.Proofs.Ytfopdfolbdmnjaa
