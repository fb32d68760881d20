/-
  NARROWER THAN 'FOR EVERY INPUT', by the rows' own cells (each row's printed sentence says how): TurnRounds: laid · TurnTried: laid · TurnDeviates: laid · TurnTijdeman: laid · TurnRenumbered: laid · TurnCalls: laid · TurnAround: laid · TurnLags: laid · TurnInside: laid · TurnLeast: laid · TurnMerges: laid · TurnMerged: laid · TurnWindows: laid.
  DERIVED. THE GIVEN ROWS OF THIS SEAT. 13 by the template 'for every input the law returns true; each argument reads behind the call as it read before'; 0 by the template 'total and deterministic' (their statements: YtgobffgogmnmpaaDoorTotals.lean).
  GIVEN WITH THE SEED: the statements are not yours to turn. If you find one false, say at which input.
  Laid BY PROGRAM, IN A SANDBOX (cutbox-rows.mjs): the forced cells as the released guide's own fill.sh prints them over the translation efecd264a116c95d… (all of the seat's roots in one cut). By AI agents, Wed Nov 11 2026. No macro, syntax, notation, axiom, sorry.
-/
import Derived.Test.YtgobffgogmnmpaaDoorChecked
import GoSem.Claim
import GoSem.ClaimJoined
import GoSem.ClaimMapViews
import Derived.JoinedTies
import Derived.KernelRfl
namespace Go.Proofs.YtgobffgogmnmpaaDoor
/- THE CELL 'sum', in the pinned program and in every row, IS THE sha256 OF THE DUMP (.gsa) THAT YtgobffgogmnmpaaDoorProg.lean LOADS. Nothing in Lean hashes anything: it is a label: what it is worth is what the hold of that sum in a sandbox is worth. -/
noncomputable def Tryd.pinned : Pinned := { name := "ytgobffgogmnmpaadoor", sum := "efecd264a116c95d678292b690386ad75867fbf8ee193a49f166962e878848bf", checked := Tryd.checked }
namespace Rows
def none {H : Type} : Left H := { results := [], args := [] }

/- WHAT THE LISTED PACKAGE-LEVEL VARIABLES READ AS WHEN THE CALL BEGINS. Each datum BY PROGRAM (the guide's laid-datum.mjs) off the statement by which the dump's own 'gosem.cut.vars' lays the variable. In a bare row this is a premise. The card (YtgobffgogmnmpaaDoorCards.lean) ties it to the program's text. -/
def laid_trishaw_turn_none {H : Type} : DataW H := .agg [.lit (.int .i64 0), .lit (.int .i64 (-1))]

/-- 'trishawlaw01.TurnRounds': WHATEVER THE INPUT: true; the input reads as it did. -/
def turnRoundsSpec : ChangeSpec := { name := "turnRounds", fn := fun _ => fun
  | [d] => { results := [.lit (.bool true)], args := [d] }
  | _ => none }
def turnRoundsRow : OpenClaim := { program := "ytgobffgogmnmpaadoor", sum := "efecd264a116c95d678292b690386ad75867fbf8ee193a49f166962e878848bf", func := "trishaw/trishawlaw01.TurnRounds", spec := "turnRounds", unfollowed := true, recurses := true, named := ["trishaw/turn.none"], apart := false, laid := [("trishaw/turn.none", laid_trishaw_turn_none)] }
def TurnRoundsSaid : Prop := turnRoundsRow.holds Tryd.pinned (OpenSpec.ofChange turnRoundsSpec)

/-- ITS FALSE NEIGHBOUR: 'it returns false'. Refute it at one input. -/
def turnRoundsWrong : ChangeSpec := { name := "turnRounds", fn := fun _ => fun
  | [d] => { results := [.lit (.bool false)], args := [d] }
  | _ => none }
def TurnRoundsWrongFalsely : Prop := turnRoundsRow.holds Tryd.pinned (OpenSpec.ofChange turnRoundsWrong)

/-- 'trishawlaw01.TurnTried': WHATEVER THE INPUT: true; the input reads as it did. -/
def turnTriedSpec : ChangeSpec := { name := "turnTried", fn := fun _ => fun
  | [d1, d2] => { results := [.lit (.bool true)], args := [d1, d2] }
  | _ => none }
def turnTriedRow : OpenClaim := { program := "ytgobffgogmnmpaadoor", sum := "efecd264a116c95d678292b690386ad75867fbf8ee193a49f166962e878848bf", func := "trishaw/trishawlaw01.TurnTried", spec := "turnTried", unfollowed := true, recurses := true, named := ["trishaw/turn.none"], apart := false, laid := [("trishaw/turn.none", laid_trishaw_turn_none)] }
def TurnTriedSaid : Prop := turnTriedRow.holds Tryd.pinned (OpenSpec.ofChange turnTriedSpec)

/-- ITS FALSE NEIGHBOUR: 'it returns false'. Refute it at one input. -/
def turnTriedWrong : ChangeSpec := { name := "turnTried", fn := fun _ => fun
  | [d1, d2] => { results := [.lit (.bool false)], args := [d1, d2] }
  | _ => none }
def TurnTriedWrongFalsely : Prop := turnTriedRow.holds Tryd.pinned (OpenSpec.ofChange turnTriedWrong)

/-- 'trishawlaw01.TurnDeviates': WHATEVER THE INPUT: true; the input reads as it did. -/
def turnDeviatesSpec : ChangeSpec := { name := "turnDeviates", fn := fun _ => fun
  | [d1, d2] => { results := [.lit (.bool true)], args := [d1, d2] }
  | _ => none }
def turnDeviatesRow : OpenClaim := { program := "ytgobffgogmnmpaadoor", sum := "efecd264a116c95d678292b690386ad75867fbf8ee193a49f166962e878848bf", func := "trishaw/trishawlaw01.TurnDeviates", spec := "turnDeviates", unfollowed := true, recurses := true, named := ["trishaw/turn.none"], apart := false, laid := [("trishaw/turn.none", laid_trishaw_turn_none)] }
def TurnDeviatesSaid : Prop := turnDeviatesRow.holds Tryd.pinned (OpenSpec.ofChange turnDeviatesSpec)

/-- ITS FALSE NEIGHBOUR: 'it returns false'. Refute it at one input. -/
def turnDeviatesWrong : ChangeSpec := { name := "turnDeviates", fn := fun _ => fun
  | [d1, d2] => { results := [.lit (.bool false)], args := [d1, d2] }
  | _ => none }
def TurnDeviatesWrongFalsely : Prop := turnDeviatesRow.holds Tryd.pinned (OpenSpec.ofChange turnDeviatesWrong)

/-- 'trishawlaw01.TurnTijdeman': WHATEVER THE INPUT: true; the input reads as it did. -/
def turnTijdemanSpec : ChangeSpec := { name := "turnTijdeman", fn := fun _ => fun
  | [d1, d2] => { results := [.lit (.bool true)], args := [d1, d2] }
  | _ => none }
def turnTijdemanRow : OpenClaim := { program := "ytgobffgogmnmpaadoor", sum := "efecd264a116c95d678292b690386ad75867fbf8ee193a49f166962e878848bf", func := "trishaw/trishawlaw01.TurnTijdeman", spec := "turnTijdeman", unfollowed := true, recurses := true, named := ["trishaw/turn.none"], apart := false, laid := [("trishaw/turn.none", laid_trishaw_turn_none)] }
def TurnTijdemanSaid : Prop := turnTijdemanRow.holds Tryd.pinned (OpenSpec.ofChange turnTijdemanSpec)

/-- ITS FALSE NEIGHBOUR: 'it returns false'. Refute it at one input. -/
def turnTijdemanWrong : ChangeSpec := { name := "turnTijdeman", fn := fun _ => fun
  | [d1, d2] => { results := [.lit (.bool false)], args := [d1, d2] }
  | _ => none }
def TurnTijdemanWrongFalsely : Prop := turnTijdemanRow.holds Tryd.pinned (OpenSpec.ofChange turnTijdemanWrong)

/-- 'trishawlaw01.TurnRenumbered': WHATEVER THE INPUT: true; the input reads as it did. -/
def turnRenumberedSpec : ChangeSpec := { name := "turnRenumbered", fn := fun _ => fun
  | [d1, d2, d3] => { results := [.lit (.bool true)], args := [d1, d2, d3] }
  | _ => none }
def turnRenumberedRow : OpenClaim := { program := "ytgobffgogmnmpaadoor", sum := "efecd264a116c95d678292b690386ad75867fbf8ee193a49f166962e878848bf", func := "trishaw/trishawlaw01.TurnRenumbered", spec := "turnRenumbered", unfollowed := true, recurses := true, named := ["trishaw/turn.none"], apart := false, laid := [("trishaw/turn.none", laid_trishaw_turn_none)] }
def TurnRenumberedSaid : Prop := turnRenumberedRow.holds Tryd.pinned (OpenSpec.ofChange turnRenumberedSpec)

/-- ITS FALSE NEIGHBOUR: 'it returns false'. Refute it at one input. -/
def turnRenumberedWrong : ChangeSpec := { name := "turnRenumbered", fn := fun _ => fun
  | [d1, d2, d3] => { results := [.lit (.bool false)], args := [d1, d2, d3] }
  | _ => none }
def TurnRenumberedWrongFalsely : Prop := turnRenumberedRow.holds Tryd.pinned (OpenSpec.ofChange turnRenumberedWrong)

/-- 'trishawlaw01.TurnCalls': WHATEVER THE INPUT: true; the input reads as it did. -/
def turnCallsSpec : ChangeSpec := { name := "turnCalls", fn := fun _ => fun
  | [d1, d2] => { results := [.lit (.bool true)], args := [d1, d2] }
  | _ => none }
def turnCallsRow : OpenClaim := { program := "ytgobffgogmnmpaadoor", sum := "efecd264a116c95d678292b690386ad75867fbf8ee193a49f166962e878848bf", func := "trishaw/trishawlaw01.TurnCalls", spec := "turnCalls", unfollowed := true, recurses := true, named := ["trishaw/turn.none"], apart := false, laid := [("trishaw/turn.none", laid_trishaw_turn_none)] }
def TurnCallsSaid : Prop := turnCallsRow.holds Tryd.pinned (OpenSpec.ofChange turnCallsSpec)

/-- ITS FALSE NEIGHBOUR: 'it returns false'. Refute it at one input. -/
def turnCallsWrong : ChangeSpec := { name := "turnCalls", fn := fun _ => fun
  | [d1, d2] => { results := [.lit (.bool false)], args := [d1, d2] }
  | _ => none }
def TurnCallsWrongFalsely : Prop := turnCallsRow.holds Tryd.pinned (OpenSpec.ofChange turnCallsWrong)

/-- 'trishawlaw01.TurnAround': WHATEVER THE INPUT: true; the input reads as it did. -/
def turnAroundSpec : ChangeSpec := { name := "turnAround", fn := fun _ => fun
  | [d1, d2] => { results := [.lit (.bool true)], args := [d1, d2] }
  | _ => none }
def turnAroundRow : OpenClaim := { program := "ytgobffgogmnmpaadoor", sum := "efecd264a116c95d678292b690386ad75867fbf8ee193a49f166962e878848bf", func := "trishaw/trishawlaw01.TurnAround", spec := "turnAround", unfollowed := true, recurses := true, named := ["trishaw/turn.none"], apart := false, laid := [("trishaw/turn.none", laid_trishaw_turn_none)] }
def TurnAroundSaid : Prop := turnAroundRow.holds Tryd.pinned (OpenSpec.ofChange turnAroundSpec)

/-- ITS FALSE NEIGHBOUR: 'it returns false'. Refute it at one input. -/
def turnAroundWrong : ChangeSpec := { name := "turnAround", fn := fun _ => fun
  | [d1, d2] => { results := [.lit (.bool false)], args := [d1, d2] }
  | _ => none }
def TurnAroundWrongFalsely : Prop := turnAroundRow.holds Tryd.pinned (OpenSpec.ofChange turnAroundWrong)

/-- 'trishawlaw01.TurnLags': WHATEVER THE INPUT: true; the input reads as it did. -/
def turnLagsSpec : ChangeSpec := { name := "turnLags", fn := fun _ => fun
  | [d1, d2] => { results := [.lit (.bool true)], args := [d1, d2] }
  | _ => none }
def turnLagsRow : OpenClaim := { program := "ytgobffgogmnmpaadoor", sum := "efecd264a116c95d678292b690386ad75867fbf8ee193a49f166962e878848bf", func := "trishaw/trishawlaw01.TurnLags", spec := "turnLags", unfollowed := true, recurses := true, named := ["trishaw/turn.none"], apart := false, laid := [("trishaw/turn.none", laid_trishaw_turn_none)] }
def TurnLagsSaid : Prop := turnLagsRow.holds Tryd.pinned (OpenSpec.ofChange turnLagsSpec)

/-- ITS FALSE NEIGHBOUR: 'it returns false'. Refute it at one input. -/
def turnLagsWrong : ChangeSpec := { name := "turnLags", fn := fun _ => fun
  | [d1, d2] => { results := [.lit (.bool false)], args := [d1, d2] }
  | _ => none }
def TurnLagsWrongFalsely : Prop := turnLagsRow.holds Tryd.pinned (OpenSpec.ofChange turnLagsWrong)

/-- 'trishawlaw01.TurnInside': WHATEVER THE INPUT: true; the input reads as it did. -/
def turnInsideSpec : ChangeSpec := { name := "turnInside", fn := fun _ => fun
  | [d1, d2, d3, d4] => { results := [.lit (.bool true)], args := [d1, d2, d3, d4] }
  | _ => none }
def turnInsideRow : OpenClaim := { program := "ytgobffgogmnmpaadoor", sum := "efecd264a116c95d678292b690386ad75867fbf8ee193a49f166962e878848bf", func := "trishaw/trishawlaw01.TurnInside", spec := "turnInside", unfollowed := true, recurses := true, named := ["trishaw/turn.none"], apart := false, laid := [("trishaw/turn.none", laid_trishaw_turn_none)] }
def TurnInsideSaid : Prop := turnInsideRow.holds Tryd.pinned (OpenSpec.ofChange turnInsideSpec)

/-- ITS FALSE NEIGHBOUR: 'it returns false'. Refute it at one input. -/
def turnInsideWrong : ChangeSpec := { name := "turnInside", fn := fun _ => fun
  | [d1, d2, d3, d4] => { results := [.lit (.bool false)], args := [d1, d2, d3, d4] }
  | _ => none }
def TurnInsideWrongFalsely : Prop := turnInsideRow.holds Tryd.pinned (OpenSpec.ofChange turnInsideWrong)

/-- 'trishawlaw01.TurnLeast': WHATEVER THE INPUT: true; the input reads as it did. -/
def turnLeastSpec : ChangeSpec := { name := "turnLeast", fn := fun _ => fun
  | [d] => { results := [.lit (.bool true)], args := [d] }
  | _ => none }
def turnLeastRow : OpenClaim := { program := "ytgobffgogmnmpaadoor", sum := "efecd264a116c95d678292b690386ad75867fbf8ee193a49f166962e878848bf", func := "trishaw/trishawlaw01.TurnLeast", spec := "turnLeast", unfollowed := true, recurses := true, named := ["trishaw/turn.none"], apart := false, laid := [("trishaw/turn.none", laid_trishaw_turn_none)] }
def TurnLeastSaid : Prop := turnLeastRow.holds Tryd.pinned (OpenSpec.ofChange turnLeastSpec)

/-- ITS FALSE NEIGHBOUR: 'it returns false'. Refute it at one input. -/
def turnLeastWrong : ChangeSpec := { name := "turnLeast", fn := fun _ => fun
  | [d] => { results := [.lit (.bool false)], args := [d] }
  | _ => none }
def TurnLeastWrongFalsely : Prop := turnLeastRow.holds Tryd.pinned (OpenSpec.ofChange turnLeastWrong)

/-- 'trishawlaw01.TurnMerges': WHATEVER THE INPUT: true; the input reads as it did. -/
def turnMergesSpec : ChangeSpec := { name := "turnMerges", fn := fun _ => fun
  | [d1, d2, d3] => { results := [.lit (.bool true)], args := [d1, d2, d3] }
  | _ => none }
def turnMergesRow : OpenClaim := { program := "ytgobffgogmnmpaadoor", sum := "efecd264a116c95d678292b690386ad75867fbf8ee193a49f166962e878848bf", func := "trishaw/trishawlaw01.TurnMerges", spec := "turnMerges", unfollowed := true, recurses := true, named := ["trishaw/turn.none"], apart := false, laid := [("trishaw/turn.none", laid_trishaw_turn_none)] }
def TurnMergesSaid : Prop := turnMergesRow.holds Tryd.pinned (OpenSpec.ofChange turnMergesSpec)

/-- ITS FALSE NEIGHBOUR: 'it returns false'. Refute it at one input. -/
def turnMergesWrong : ChangeSpec := { name := "turnMerges", fn := fun _ => fun
  | [d1, d2, d3] => { results := [.lit (.bool false)], args := [d1, d2, d3] }
  | _ => none }
def TurnMergesWrongFalsely : Prop := turnMergesRow.holds Tryd.pinned (OpenSpec.ofChange turnMergesWrong)

/-- 'trishawlaw01.TurnMerged': WHATEVER THE INPUT: true; the input reads as it did. -/
def turnMergedSpec : ChangeSpec := { name := "turnMerged", fn := fun _ => fun
  | [d1, d2, d3, d4] => { results := [.lit (.bool true)], args := [d1, d2, d3, d4] }
  | _ => none }
def turnMergedRow : OpenClaim := { program := "ytgobffgogmnmpaadoor", sum := "efecd264a116c95d678292b690386ad75867fbf8ee193a49f166962e878848bf", func := "trishaw/trishawlaw01.TurnMerged", spec := "turnMerged", unfollowed := true, recurses := true, named := ["trishaw/turn.none"], apart := false, laid := [("trishaw/turn.none", laid_trishaw_turn_none)] }
def TurnMergedSaid : Prop := turnMergedRow.holds Tryd.pinned (OpenSpec.ofChange turnMergedSpec)

/-- ITS FALSE NEIGHBOUR: 'it returns false'. Refute it at one input. -/
def turnMergedWrong : ChangeSpec := { name := "turnMerged", fn := fun _ => fun
  | [d1, d2, d3, d4] => { results := [.lit (.bool false)], args := [d1, d2, d3, d4] }
  | _ => none }
def TurnMergedWrongFalsely : Prop := turnMergedRow.holds Tryd.pinned (OpenSpec.ofChange turnMergedWrong)

/-- 'trishawlaw01.TurnWindows': WHATEVER THE INPUT: true; the input reads as it did. -/
def turnWindowsSpec : ChangeSpec := { name := "turnWindows", fn := fun _ => fun
  | [d1, d2] => { results := [.lit (.bool true)], args := [d1, d2] }
  | _ => none }
def turnWindowsRow : OpenClaim := { program := "ytgobffgogmnmpaadoor", sum := "efecd264a116c95d678292b690386ad75867fbf8ee193a49f166962e878848bf", func := "trishaw/trishawlaw01.TurnWindows", spec := "turnWindows", unfollowed := true, recurses := true, named := ["trishaw/turn.none"], apart := false, laid := [("trishaw/turn.none", laid_trishaw_turn_none)] }
def TurnWindowsSaid : Prop := turnWindowsRow.holds Tryd.pinned (OpenSpec.ofChange turnWindowsSpec)

/-- ITS FALSE NEIGHBOUR: 'it returns false'. Refute it at one input. -/
def turnWindowsWrong : ChangeSpec := { name := "turnWindows", fn := fun _ => fun
  | [d1, d2] => { results := [.lit (.bool false)], args := [d1, d2] }
  | _ => none }
def TurnWindowsWrongFalsely : Prop := turnWindowsRow.holds Tryd.pinned (OpenSpec.ofChange turnWindowsWrong)

/- THE SECOND FORM. 'bulk': how many values and letters a reading holds, each counted each time it is reached (what is shared counts as often as it is met; a slice's spare places count too). A statement '..UptoSaid' is the law's where the arguments, and the package variables that the reading takes, are together of bulk at most 1048576: NARROWER than '..Said'. Prove '..Said' where nothing that the law and all that it calls make is longer than what came in: it says more and counts as full. Else prove '..UptoSaid'. A law counts once. -/
mutual
def uptoBulk {H : Type} : DataW H → Nat
  | .lit (.string bytes) => bytes.length + 1
  | .lit _ => 1
  | .nil => 1
  | .ptr d => uptoBulk d + 1
  | .slice elems spare => uptoBulkAll elems + uptoBulkAll spare + 1
  | .agg parts => uptoBulkAll parts + 1
  | .iface _ d => uptoBulk d + 1
  | .map entries => uptoBulkEntries entries + 1
  | .held _ => 1
def uptoBulkAll {H : Type} : List (DataW H) → Nat
  | [] => 0
  | d :: r => uptoBulk d + uptoBulkAll r
def uptoBulkEntries {H : Type} : List (Lit × DataW H) → Nat
  | [] => 0
  | x :: r => uptoBulkEntry x + uptoBulkEntries r
def uptoBulkEntry {H : Type} : Lit × DataW H → Nat
  | (.string bytes, d) => bytes.length + uptoBulk d + 1
  | (_, d) => uptoBulk d + 1
 end
def uptoSmall : (H : Type) → List (DataW H) → Bool := fun _ ds => decide (uptoBulkAll ds ≤ 1048576)
def OpenSpec.upto (s : _root_.Go.ChangeSpec) : _root_.Go.OpenSpec := { _root_.Go.OpenSpec.ofChange s with cond := some uptoSmall }

/-- 'trishawlaw01.TurnRounds', WHERE WHAT IT READS IS OF BULK AT MOST 1048576: true; the input reads as it did. -/
def turnRoundsUptoRow : OpenClaim := { program := "ytgobffgogmnmpaadoor", sum := "efecd264a116c95d678292b690386ad75867fbf8ee193a49f166962e878848bf", func := "trishaw/trishawlaw01.TurnRounds", spec := "turnRounds", unfollowed := true, recurses := true, named := ["trishaw/turn.none"], apart := false, laid := [("trishaw/turn.none", laid_trishaw_turn_none)], narrowed := true }
def TurnRoundsUptoSaid : Prop := turnRoundsUptoRow.holds Tryd.pinned (OpenSpec.upto turnRoundsSpec)

/-- 'trishawlaw01.TurnTried', WHERE WHAT IT READS IS OF BULK AT MOST 1048576: true; the input reads as it did. -/
def turnTriedUptoRow : OpenClaim := { program := "ytgobffgogmnmpaadoor", sum := "efecd264a116c95d678292b690386ad75867fbf8ee193a49f166962e878848bf", func := "trishaw/trishawlaw01.TurnTried", spec := "turnTried", unfollowed := true, recurses := true, named := ["trishaw/turn.none"], apart := false, laid := [("trishaw/turn.none", laid_trishaw_turn_none)], narrowed := true }
def TurnTriedUptoSaid : Prop := turnTriedUptoRow.holds Tryd.pinned (OpenSpec.upto turnTriedSpec)

/-- 'trishawlaw01.TurnDeviates', WHERE WHAT IT READS IS OF BULK AT MOST 1048576: true; the input reads as it did. -/
def turnDeviatesUptoRow : OpenClaim := { program := "ytgobffgogmnmpaadoor", sum := "efecd264a116c95d678292b690386ad75867fbf8ee193a49f166962e878848bf", func := "trishaw/trishawlaw01.TurnDeviates", spec := "turnDeviates", unfollowed := true, recurses := true, named := ["trishaw/turn.none"], apart := false, laid := [("trishaw/turn.none", laid_trishaw_turn_none)], narrowed := true }
def TurnDeviatesUptoSaid : Prop := turnDeviatesUptoRow.holds Tryd.pinned (OpenSpec.upto turnDeviatesSpec)

/-- 'trishawlaw01.TurnTijdeman', WHERE WHAT IT READS IS OF BULK AT MOST 1048576: true; the input reads as it did. -/
def turnTijdemanUptoRow : OpenClaim := { program := "ytgobffgogmnmpaadoor", sum := "efecd264a116c95d678292b690386ad75867fbf8ee193a49f166962e878848bf", func := "trishaw/trishawlaw01.TurnTijdeman", spec := "turnTijdeman", unfollowed := true, recurses := true, named := ["trishaw/turn.none"], apart := false, laid := [("trishaw/turn.none", laid_trishaw_turn_none)], narrowed := true }
def TurnTijdemanUptoSaid : Prop := turnTijdemanUptoRow.holds Tryd.pinned (OpenSpec.upto turnTijdemanSpec)

/-- 'trishawlaw01.TurnRenumbered', WHERE WHAT IT READS IS OF BULK AT MOST 1048576: true; the input reads as it did. -/
def turnRenumberedUptoRow : OpenClaim := { program := "ytgobffgogmnmpaadoor", sum := "efecd264a116c95d678292b690386ad75867fbf8ee193a49f166962e878848bf", func := "trishaw/trishawlaw01.TurnRenumbered", spec := "turnRenumbered", unfollowed := true, recurses := true, named := ["trishaw/turn.none"], apart := false, laid := [("trishaw/turn.none", laid_trishaw_turn_none)], narrowed := true }
def TurnRenumberedUptoSaid : Prop := turnRenumberedUptoRow.holds Tryd.pinned (OpenSpec.upto turnRenumberedSpec)

/-- 'trishawlaw01.TurnCalls', WHERE WHAT IT READS IS OF BULK AT MOST 1048576: true; the input reads as it did. -/
def turnCallsUptoRow : OpenClaim := { program := "ytgobffgogmnmpaadoor", sum := "efecd264a116c95d678292b690386ad75867fbf8ee193a49f166962e878848bf", func := "trishaw/trishawlaw01.TurnCalls", spec := "turnCalls", unfollowed := true, recurses := true, named := ["trishaw/turn.none"], apart := false, laid := [("trishaw/turn.none", laid_trishaw_turn_none)], narrowed := true }
def TurnCallsUptoSaid : Prop := turnCallsUptoRow.holds Tryd.pinned (OpenSpec.upto turnCallsSpec)

/-- 'trishawlaw01.TurnAround', WHERE WHAT IT READS IS OF BULK AT MOST 1048576: true; the input reads as it did. -/
def turnAroundUptoRow : OpenClaim := { program := "ytgobffgogmnmpaadoor", sum := "efecd264a116c95d678292b690386ad75867fbf8ee193a49f166962e878848bf", func := "trishaw/trishawlaw01.TurnAround", spec := "turnAround", unfollowed := true, recurses := true, named := ["trishaw/turn.none"], apart := false, laid := [("trishaw/turn.none", laid_trishaw_turn_none)], narrowed := true }
def TurnAroundUptoSaid : Prop := turnAroundUptoRow.holds Tryd.pinned (OpenSpec.upto turnAroundSpec)

/-- 'trishawlaw01.TurnLags', WHERE WHAT IT READS IS OF BULK AT MOST 1048576: true; the input reads as it did. -/
def turnLagsUptoRow : OpenClaim := { program := "ytgobffgogmnmpaadoor", sum := "efecd264a116c95d678292b690386ad75867fbf8ee193a49f166962e878848bf", func := "trishaw/trishawlaw01.TurnLags", spec := "turnLags", unfollowed := true, recurses := true, named := ["trishaw/turn.none"], apart := false, laid := [("trishaw/turn.none", laid_trishaw_turn_none)], narrowed := true }
def TurnLagsUptoSaid : Prop := turnLagsUptoRow.holds Tryd.pinned (OpenSpec.upto turnLagsSpec)

/-- 'trishawlaw01.TurnInside', WHERE WHAT IT READS IS OF BULK AT MOST 1048576: true; the input reads as it did. -/
def turnInsideUptoRow : OpenClaim := { program := "ytgobffgogmnmpaadoor", sum := "efecd264a116c95d678292b690386ad75867fbf8ee193a49f166962e878848bf", func := "trishaw/trishawlaw01.TurnInside", spec := "turnInside", unfollowed := true, recurses := true, named := ["trishaw/turn.none"], apart := false, laid := [("trishaw/turn.none", laid_trishaw_turn_none)], narrowed := true }
def TurnInsideUptoSaid : Prop := turnInsideUptoRow.holds Tryd.pinned (OpenSpec.upto turnInsideSpec)

/-- 'trishawlaw01.TurnLeast', WHERE WHAT IT READS IS OF BULK AT MOST 1048576: true; the input reads as it did. -/
def turnLeastUptoRow : OpenClaim := { program := "ytgobffgogmnmpaadoor", sum := "efecd264a116c95d678292b690386ad75867fbf8ee193a49f166962e878848bf", func := "trishaw/trishawlaw01.TurnLeast", spec := "turnLeast", unfollowed := true, recurses := true, named := ["trishaw/turn.none"], apart := false, laid := [("trishaw/turn.none", laid_trishaw_turn_none)], narrowed := true }
def TurnLeastUptoSaid : Prop := turnLeastUptoRow.holds Tryd.pinned (OpenSpec.upto turnLeastSpec)

/-- 'trishawlaw01.TurnMerges', WHERE WHAT IT READS IS OF BULK AT MOST 1048576: true; the input reads as it did. -/
def turnMergesUptoRow : OpenClaim := { program := "ytgobffgogmnmpaadoor", sum := "efecd264a116c95d678292b690386ad75867fbf8ee193a49f166962e878848bf", func := "trishaw/trishawlaw01.TurnMerges", spec := "turnMerges", unfollowed := true, recurses := true, named := ["trishaw/turn.none"], apart := false, laid := [("trishaw/turn.none", laid_trishaw_turn_none)], narrowed := true }
def TurnMergesUptoSaid : Prop := turnMergesUptoRow.holds Tryd.pinned (OpenSpec.upto turnMergesSpec)

/-- 'trishawlaw01.TurnMerged', WHERE WHAT IT READS IS OF BULK AT MOST 1048576: true; the input reads as it did. -/
def turnMergedUptoRow : OpenClaim := { program := "ytgobffgogmnmpaadoor", sum := "efecd264a116c95d678292b690386ad75867fbf8ee193a49f166962e878848bf", func := "trishaw/trishawlaw01.TurnMerged", spec := "turnMerged", unfollowed := true, recurses := true, named := ["trishaw/turn.none"], apart := false, laid := [("trishaw/turn.none", laid_trishaw_turn_none)], narrowed := true }
def TurnMergedUptoSaid : Prop := turnMergedUptoRow.holds Tryd.pinned (OpenSpec.upto turnMergedSpec)

/-- 'trishawlaw01.TurnWindows', WHERE WHAT IT READS IS OF BULK AT MOST 1048576: true; the input reads as it did. -/
def turnWindowsUptoRow : OpenClaim := { program := "ytgobffgogmnmpaadoor", sum := "efecd264a116c95d678292b690386ad75867fbf8ee193a49f166962e878848bf", func := "trishaw/trishawlaw01.TurnWindows", spec := "turnWindows", unfollowed := true, recurses := true, named := ["trishaw/turn.none"], apart := false, laid := [("trishaw/turn.none", laid_trishaw_turn_none)], narrowed := true }
def TurnWindowsUptoSaid : Prop := turnWindowsUptoRow.holds Tryd.pinned (OpenSpec.upto turnWindowsSpec)

end Rows
end Go.Proofs.YtgobffgogmnmpaaDoor
