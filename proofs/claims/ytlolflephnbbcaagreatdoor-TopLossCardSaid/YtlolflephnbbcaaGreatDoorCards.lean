/-
  DERIVED. GIVEN WITH THE SEED: THE CARDS: each row of YtlolflephnbbcaaGreatDoorRows.lean that lists a variable, with what it lists TIED to the program's text (the seventh form; the later family's looks); each row that meets fmt, with fmt's text TOLD by the authors' own Lean function (tested against real Go, not proved from fmt's source: count such statements apart). THE CARD IS WHAT COUNTS. Prove the row's statement (the work); the ties are given (YtlolflephnbbcaaGreatDoorTie.lean); close each card by the builder's one call (the guide's Derived/Test/ToyasCard.lean, 'card_holds'). Laid BY PROGRAM, IN A SANDBOX (cutbox-door.mjs). By AI agents, Wed Nov 11 2026. No macro, syntax, notation, axiom, sorry.
-/
import Derived.Test.YtlolflephnbbcaaGreatDoorRows
import GoSem.ClaimSeven
namespace Go.Proofs.YtlolflephnbbcaaGreatDoor
namespace Rows

/-- THE TIED CARD OF 'corebanktop.TopLoss'. -/
def topLossCard : Claim7 := { stood := { row := topLossRow, standIns := [], harness := (true, "8fcf65401e73d3aa31654a0ddcbb956dc073c7423ef62e79285c0351e6b48e8b"), looks := true }, kinds := [], alts := [], laidByText := true, laidKinds := [.data, .data, .data, .data, .sentinel, .sentinel, .listed, .data, .data], laidTests := true, laidLooks := .later }
def TopLossCardSaid : Prop := Claim7.holds Tryz.pinned (.plain (OpenSpec.ofChange topLossSpec)) topLossCard

/-- THE SECOND FORM's CARD OF 'corebanktop.TopLoss'. -/
def topLossUptoCard : Claim7 := { stood := { row := topLossUptoRow, standIns := [], harness := (true, "8fcf65401e73d3aa31654a0ddcbb956dc073c7423ef62e79285c0351e6b48e8b"), looks := true }, kinds := [], alts := [], laidByText := true, laidKinds := [.data, .data, .data, .data, .sentinel, .sentinel, .listed, .data, .data], laidTests := true, laidLooks := .later }
def TopLossUptoCardSaid : Prop := Claim7.holds Tryz.pinned (.plain (OpenSpec.upto topLossSpec)) topLossUptoCard
end Rows
end Go.Proofs.YtlolflephnbbcaaGreatDoor
