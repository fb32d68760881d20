/-
  DERIVED. GIVEN WITH THE SEED: THE CARDS: each row of YtgobffgogmnmpaaDoorRows.lean that lists a variable, with what it lists TIED to the program's text (the seventh form; the later family's looks); each row that meets fmt, with fmt's text TOLD by the authors' own Lean function (tested against real Go, not proved from fmt's source: count such statements apart). THE CARD IS WHAT COUNTS. Prove the row's statement (the work); the ties are given (YtgobffgogmnmpaaDoorTie.lean); close each card by the builder's one call (the guide's Derived/Test/ToyasCard.lean, 'card_holds'). Laid BY PROGRAM, IN A SANDBOX (cutbox-door.mjs). By AI agents, Wed Nov 11 2026. No macro, syntax, notation, axiom, sorry.
-/
import Derived.Test.YtgobffgogmnmpaaDoorRows
import GoSem.ClaimSeven
namespace Go.Proofs.YtgobffgogmnmpaaDoor
namespace Rows

/-- THE TIED CARD OF 'trishawlaw01.TurnRounds'. -/
def turnRoundsCard : Claim7 := { stood := { row := turnRoundsRow, standIns := [], harness := (true, "549d573201cf0dfbb12715f726873a7f8acd68472dcdfd3ce7f14dc813327803"), looks := false }, kinds := [], alts := [], laidByText := true, laidKinds := [.data], laidTests := true, laidLooks := .later }
def TurnRoundsCardSaid : Prop := Claim7.holds Tryd.pinned (.plain (OpenSpec.ofChange turnRoundsSpec)) turnRoundsCard

/-- THE TIED CARD OF 'trishawlaw01.TurnTried'. -/
def turnTriedCard : Claim7 := { stood := { row := turnTriedRow, standIns := [], harness := (true, "549d573201cf0dfbb12715f726873a7f8acd68472dcdfd3ce7f14dc813327803"), looks := false }, kinds := [], alts := [], laidByText := true, laidKinds := [.data], laidTests := true, laidLooks := .later }
def TurnTriedCardSaid : Prop := Claim7.holds Tryd.pinned (.plain (OpenSpec.ofChange turnTriedSpec)) turnTriedCard

/-- THE TIED CARD OF 'trishawlaw01.TurnDeviates'. -/
def turnDeviatesCard : Claim7 := { stood := { row := turnDeviatesRow, standIns := [], harness := (true, "549d573201cf0dfbb12715f726873a7f8acd68472dcdfd3ce7f14dc813327803"), looks := false }, kinds := [], alts := [], laidByText := true, laidKinds := [.data], laidTests := true, laidLooks := .later }
def TurnDeviatesCardSaid : Prop := Claim7.holds Tryd.pinned (.plain (OpenSpec.ofChange turnDeviatesSpec)) turnDeviatesCard

/-- THE TIED CARD OF 'trishawlaw01.TurnTijdeman'. -/
def turnTijdemanCard : Claim7 := { stood := { row := turnTijdemanRow, standIns := [], harness := (true, "549d573201cf0dfbb12715f726873a7f8acd68472dcdfd3ce7f14dc813327803"), looks := false }, kinds := [], alts := [], laidByText := true, laidKinds := [.data], laidTests := true, laidLooks := .later }
def TurnTijdemanCardSaid : Prop := Claim7.holds Tryd.pinned (.plain (OpenSpec.ofChange turnTijdemanSpec)) turnTijdemanCard

/-- THE TIED CARD OF 'trishawlaw01.TurnRenumbered'. -/
def turnRenumberedCard : Claim7 := { stood := { row := turnRenumberedRow, standIns := [], harness := (true, "549d573201cf0dfbb12715f726873a7f8acd68472dcdfd3ce7f14dc813327803"), looks := false }, kinds := [], alts := [], laidByText := true, laidKinds := [.data], laidTests := true, laidLooks := .later }
def TurnRenumberedCardSaid : Prop := Claim7.holds Tryd.pinned (.plain (OpenSpec.ofChange turnRenumberedSpec)) turnRenumberedCard

/-- THE TIED CARD OF 'trishawlaw01.TurnCalls'. -/
def turnCallsCard : Claim7 := { stood := { row := turnCallsRow, standIns := [], harness := (true, "549d573201cf0dfbb12715f726873a7f8acd68472dcdfd3ce7f14dc813327803"), looks := false }, kinds := [], alts := [], laidByText := true, laidKinds := [.data], laidTests := true, laidLooks := .later }
def TurnCallsCardSaid : Prop := Claim7.holds Tryd.pinned (.plain (OpenSpec.ofChange turnCallsSpec)) turnCallsCard

/-- THE TIED CARD OF 'trishawlaw01.TurnAround'. -/
def turnAroundCard : Claim7 := { stood := { row := turnAroundRow, standIns := [], harness := (true, "549d573201cf0dfbb12715f726873a7f8acd68472dcdfd3ce7f14dc813327803"), looks := false }, kinds := [], alts := [], laidByText := true, laidKinds := [.data], laidTests := true, laidLooks := .later }
def TurnAroundCardSaid : Prop := Claim7.holds Tryd.pinned (.plain (OpenSpec.ofChange turnAroundSpec)) turnAroundCard

/-- THE TIED CARD OF 'trishawlaw01.TurnLags'. -/
def turnLagsCard : Claim7 := { stood := { row := turnLagsRow, standIns := [], harness := (true, "549d573201cf0dfbb12715f726873a7f8acd68472dcdfd3ce7f14dc813327803"), looks := false }, kinds := [], alts := [], laidByText := true, laidKinds := [.data], laidTests := true, laidLooks := .later }
def TurnLagsCardSaid : Prop := Claim7.holds Tryd.pinned (.plain (OpenSpec.ofChange turnLagsSpec)) turnLagsCard

/-- THE TIED CARD OF 'trishawlaw01.TurnInside'. -/
def turnInsideCard : Claim7 := { stood := { row := turnInsideRow, standIns := [], harness := (true, "549d573201cf0dfbb12715f726873a7f8acd68472dcdfd3ce7f14dc813327803"), looks := false }, kinds := [], alts := [], laidByText := true, laidKinds := [.data], laidTests := true, laidLooks := .later }
def TurnInsideCardSaid : Prop := Claim7.holds Tryd.pinned (.plain (OpenSpec.ofChange turnInsideSpec)) turnInsideCard

/-- THE TIED CARD OF 'trishawlaw01.TurnLeast'. -/
def turnLeastCard : Claim7 := { stood := { row := turnLeastRow, standIns := [], harness := (true, "549d573201cf0dfbb12715f726873a7f8acd68472dcdfd3ce7f14dc813327803"), looks := false }, kinds := [], alts := [], laidByText := true, laidKinds := [.data], laidTests := true, laidLooks := .later }
def TurnLeastCardSaid : Prop := Claim7.holds Tryd.pinned (.plain (OpenSpec.ofChange turnLeastSpec)) turnLeastCard

/-- THE TIED CARD OF 'trishawlaw01.TurnMerges'. -/
def turnMergesCard : Claim7 := { stood := { row := turnMergesRow, standIns := [], harness := (true, "549d573201cf0dfbb12715f726873a7f8acd68472dcdfd3ce7f14dc813327803"), looks := false }, kinds := [], alts := [], laidByText := true, laidKinds := [.data], laidTests := true, laidLooks := .later }
def TurnMergesCardSaid : Prop := Claim7.holds Tryd.pinned (.plain (OpenSpec.ofChange turnMergesSpec)) turnMergesCard

/-- THE TIED CARD OF 'trishawlaw01.TurnMerged'. -/
def turnMergedCard : Claim7 := { stood := { row := turnMergedRow, standIns := [], harness := (true, "549d573201cf0dfbb12715f726873a7f8acd68472dcdfd3ce7f14dc813327803"), looks := false }, kinds := [], alts := [], laidByText := true, laidKinds := [.data], laidTests := true, laidLooks := .later }
def TurnMergedCardSaid : Prop := Claim7.holds Tryd.pinned (.plain (OpenSpec.ofChange turnMergedSpec)) turnMergedCard

/-- THE TIED CARD OF 'trishawlaw01.TurnWindows'. -/
def turnWindowsCard : Claim7 := { stood := { row := turnWindowsRow, standIns := [], harness := (true, "549d573201cf0dfbb12715f726873a7f8acd68472dcdfd3ce7f14dc813327803"), looks := false }, kinds := [], alts := [], laidByText := true, laidKinds := [.data], laidTests := true, laidLooks := .later }
def TurnWindowsCardSaid : Prop := Claim7.holds Tryd.pinned (.plain (OpenSpec.ofChange turnWindowsSpec)) turnWindowsCard

/-- THE SECOND FORM's CARD OF 'trishawlaw01.TurnRounds'. -/
def turnRoundsUptoCard : Claim7 := { stood := { row := turnRoundsUptoRow, standIns := [], harness := (true, "549d573201cf0dfbb12715f726873a7f8acd68472dcdfd3ce7f14dc813327803"), looks := false }, kinds := [], alts := [], laidByText := true, laidKinds := [.data], laidTests := true, laidLooks := .later }
def TurnRoundsUptoCardSaid : Prop := Claim7.holds Tryd.pinned (.plain (OpenSpec.upto turnRoundsSpec)) turnRoundsUptoCard

/-- THE SECOND FORM's CARD OF 'trishawlaw01.TurnTried'. -/
def turnTriedUptoCard : Claim7 := { stood := { row := turnTriedUptoRow, standIns := [], harness := (true, "549d573201cf0dfbb12715f726873a7f8acd68472dcdfd3ce7f14dc813327803"), looks := false }, kinds := [], alts := [], laidByText := true, laidKinds := [.data], laidTests := true, laidLooks := .later }
def TurnTriedUptoCardSaid : Prop := Claim7.holds Tryd.pinned (.plain (OpenSpec.upto turnTriedSpec)) turnTriedUptoCard

/-- THE SECOND FORM's CARD OF 'trishawlaw01.TurnDeviates'. -/
def turnDeviatesUptoCard : Claim7 := { stood := { row := turnDeviatesUptoRow, standIns := [], harness := (true, "549d573201cf0dfbb12715f726873a7f8acd68472dcdfd3ce7f14dc813327803"), looks := false }, kinds := [], alts := [], laidByText := true, laidKinds := [.data], laidTests := true, laidLooks := .later }
def TurnDeviatesUptoCardSaid : Prop := Claim7.holds Tryd.pinned (.plain (OpenSpec.upto turnDeviatesSpec)) turnDeviatesUptoCard

/-- THE SECOND FORM's CARD OF 'trishawlaw01.TurnTijdeman'. -/
def turnTijdemanUptoCard : Claim7 := { stood := { row := turnTijdemanUptoRow, standIns := [], harness := (true, "549d573201cf0dfbb12715f726873a7f8acd68472dcdfd3ce7f14dc813327803"), looks := false }, kinds := [], alts := [], laidByText := true, laidKinds := [.data], laidTests := true, laidLooks := .later }
def TurnTijdemanUptoCardSaid : Prop := Claim7.holds Tryd.pinned (.plain (OpenSpec.upto turnTijdemanSpec)) turnTijdemanUptoCard

/-- THE SECOND FORM's CARD OF 'trishawlaw01.TurnRenumbered'. -/
def turnRenumberedUptoCard : Claim7 := { stood := { row := turnRenumberedUptoRow, standIns := [], harness := (true, "549d573201cf0dfbb12715f726873a7f8acd68472dcdfd3ce7f14dc813327803"), looks := false }, kinds := [], alts := [], laidByText := true, laidKinds := [.data], laidTests := true, laidLooks := .later }
def TurnRenumberedUptoCardSaid : Prop := Claim7.holds Tryd.pinned (.plain (OpenSpec.upto turnRenumberedSpec)) turnRenumberedUptoCard

/-- THE SECOND FORM's CARD OF 'trishawlaw01.TurnCalls'. -/
def turnCallsUptoCard : Claim7 := { stood := { row := turnCallsUptoRow, standIns := [], harness := (true, "549d573201cf0dfbb12715f726873a7f8acd68472dcdfd3ce7f14dc813327803"), looks := false }, kinds := [], alts := [], laidByText := true, laidKinds := [.data], laidTests := true, laidLooks := .later }
def TurnCallsUptoCardSaid : Prop := Claim7.holds Tryd.pinned (.plain (OpenSpec.upto turnCallsSpec)) turnCallsUptoCard

/-- THE SECOND FORM's CARD OF 'trishawlaw01.TurnAround'. -/
def turnAroundUptoCard : Claim7 := { stood := { row := turnAroundUptoRow, standIns := [], harness := (true, "549d573201cf0dfbb12715f726873a7f8acd68472dcdfd3ce7f14dc813327803"), looks := false }, kinds := [], alts := [], laidByText := true, laidKinds := [.data], laidTests := true, laidLooks := .later }
def TurnAroundUptoCardSaid : Prop := Claim7.holds Tryd.pinned (.plain (OpenSpec.upto turnAroundSpec)) turnAroundUptoCard

/-- THE SECOND FORM's CARD OF 'trishawlaw01.TurnLags'. -/
def turnLagsUptoCard : Claim7 := { stood := { row := turnLagsUptoRow, standIns := [], harness := (true, "549d573201cf0dfbb12715f726873a7f8acd68472dcdfd3ce7f14dc813327803"), looks := false }, kinds := [], alts := [], laidByText := true, laidKinds := [.data], laidTests := true, laidLooks := .later }
def TurnLagsUptoCardSaid : Prop := Claim7.holds Tryd.pinned (.plain (OpenSpec.upto turnLagsSpec)) turnLagsUptoCard

/-- THE SECOND FORM's CARD OF 'trishawlaw01.TurnInside'. -/
def turnInsideUptoCard : Claim7 := { stood := { row := turnInsideUptoRow, standIns := [], harness := (true, "549d573201cf0dfbb12715f726873a7f8acd68472dcdfd3ce7f14dc813327803"), looks := false }, kinds := [], alts := [], laidByText := true, laidKinds := [.data], laidTests := true, laidLooks := .later }
def TurnInsideUptoCardSaid : Prop := Claim7.holds Tryd.pinned (.plain (OpenSpec.upto turnInsideSpec)) turnInsideUptoCard

/-- THE SECOND FORM's CARD OF 'trishawlaw01.TurnLeast'. -/
def turnLeastUptoCard : Claim7 := { stood := { row := turnLeastUptoRow, standIns := [], harness := (true, "549d573201cf0dfbb12715f726873a7f8acd68472dcdfd3ce7f14dc813327803"), looks := false }, kinds := [], alts := [], laidByText := true, laidKinds := [.data], laidTests := true, laidLooks := .later }
def TurnLeastUptoCardSaid : Prop := Claim7.holds Tryd.pinned (.plain (OpenSpec.upto turnLeastSpec)) turnLeastUptoCard

/-- THE SECOND FORM's CARD OF 'trishawlaw01.TurnMerges'. -/
def turnMergesUptoCard : Claim7 := { stood := { row := turnMergesUptoRow, standIns := [], harness := (true, "549d573201cf0dfbb12715f726873a7f8acd68472dcdfd3ce7f14dc813327803"), looks := false }, kinds := [], alts := [], laidByText := true, laidKinds := [.data], laidTests := true, laidLooks := .later }
def TurnMergesUptoCardSaid : Prop := Claim7.holds Tryd.pinned (.plain (OpenSpec.upto turnMergesSpec)) turnMergesUptoCard

/-- THE SECOND FORM's CARD OF 'trishawlaw01.TurnMerged'. -/
def turnMergedUptoCard : Claim7 := { stood := { row := turnMergedUptoRow, standIns := [], harness := (true, "549d573201cf0dfbb12715f726873a7f8acd68472dcdfd3ce7f14dc813327803"), looks := false }, kinds := [], alts := [], laidByText := true, laidKinds := [.data], laidTests := true, laidLooks := .later }
def TurnMergedUptoCardSaid : Prop := Claim7.holds Tryd.pinned (.plain (OpenSpec.upto turnMergedSpec)) turnMergedUptoCard

/-- THE SECOND FORM's CARD OF 'trishawlaw01.TurnWindows'. -/
def turnWindowsUptoCard : Claim7 := { stood := { row := turnWindowsUptoRow, standIns := [], harness := (true, "549d573201cf0dfbb12715f726873a7f8acd68472dcdfd3ce7f14dc813327803"), looks := false }, kinds := [], alts := [], laidByText := true, laidKinds := [.data], laidTests := true, laidLooks := .later }
def TurnWindowsUptoCardSaid : Prop := Claim7.holds Tryd.pinned (.plain (OpenSpec.upto turnWindowsSpec)) turnWindowsUptoCard
end Rows
end Go.Proofs.YtgobffgogmnmpaaDoor
