/-
  DERIVED. GIVEN WITH THE SEED: THE CARDS: each row of YtlcgoacmlbeliaaDoorRows.lean that lists a variable, with what it lists TIED to the program's text (the seventh form; the later family's looks); each row that meets fmt, with fmt's text TOLD by the authors' own Lean function (tested against real Go, not proved from fmt's source: count such statements apart). THE CARD IS WHAT COUNTS. Prove the row's statement (the work); the ties are given (YtlcgoacmlbeliaaDoorTie.lean); close each card by the builder's one call (the guide's Derived/Test/ToyasCard.lean, 'card_holds'). Laid BY PROGRAM, IN A SANDBOX (cutbox-door.mjs). By AI agents, Wed Nov 11 2026. No macro, syntax, notation, axiom, sorry.
-/
import Derived.Test.YtlcgoacmlbeliaaDoorRows
import GoSem.ClaimSeven
namespace Go.Proofs.YtlcgoacmlbeliaaDoor
namespace Rows

/-- THE TIED CARD OF 'trishawtop.TopStrong'. -/
def topStrongCard : Claim7 := { stood := { row := topStrongRow, standIns := [], harness := (true, "3570f74556e9fdfa8299edc066a3a1442e2e69fb08de6f6a67decbeff80db032"), looks := false }, kinds := [], alts := [], laidByText := true, laidKinds := [.data, .pinned], laidTests := true, laidLooks := .later }
def TopStrongCardSaid : Prop := Claim7.holds Tryd.pinned (.plain (OpenSpec.ofChange topStrongSpec)) topStrongCard

/-- THE SECOND FORM's CARD OF 'trishawtop.TopStrong'. -/
def topStrongUptoCard : Claim7 := { stood := { row := topStrongUptoRow, standIns := [], harness := (true, "3570f74556e9fdfa8299edc066a3a1442e2e69fb08de6f6a67decbeff80db032"), looks := false }, kinds := [], alts := [], laidByText := true, laidKinds := [.data, .pinned], laidTests := true, laidLooks := .later }
def TopStrongUptoCardSaid : Prop := Claim7.holds Tryd.pinned (.plain (OpenSpec.upto topStrongSpec)) topStrongUptoCard
end Rows
end Go.Proofs.YtlcgoacmlbeliaaDoor
