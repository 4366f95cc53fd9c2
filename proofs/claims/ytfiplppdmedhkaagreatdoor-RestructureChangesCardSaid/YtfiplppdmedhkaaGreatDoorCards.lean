/-
  DERIVED. GIVEN WITH THE SEED: THE CARDS: each row of YtfiplppdmedhkaaGreatDoorRows.lean that lists a variable, with what it lists TIED to the program's text (the seventh form; the later family's looks); each row that meets fmt, with fmt's text TOLD by the authors' own Lean function (tested against real Go, not proved from fmt's source: count such statements apart). THE CARD IS WHAT COUNTS. Prove the row's statement (the work); the ties are given (YtfiplppdmedhkaaGreatDoorTie.lean); close each card by the builder's one call (the guide's Derived/Test/ToyasCard.lean, 'card_holds'). Laid BY PROGRAM, IN A SANDBOX (cutbox-door.mjs). By AI agents, Wed Nov 11 2026. No macro, syntax, notation, axiom, sorry.
-/
import Derived.Test.YtfiplppdmedhkaaGreatDoorRows
import GoSem.ClaimSeven
namespace Go.Proofs.YtfiplppdmedhkaaGreatDoor
namespace Rows

/-- THE TIED CARD OF 'corebanklaw34.LoanDisburses'. -/
def loanDisbursesCard : Claim7 := { stood := { row := loanDisbursesRow, standIns := [], harness := (true, "7617a243587602a046e942bc6be3a16fed2c240840a391e49e2a7d3a73fdf3b4"), looks := false }, kinds := [], alts := [], laidByText := true, laidKinds := [.data], laidTests := true, laidLooks := .later }
def LoanDisbursesCardSaid : Prop := Claim7.holds Tryz.pinned (.plain (OpenSpec.ofChange loanDisbursesSpec)) loanDisbursesCard

/-- THE TIED CARD OF 'corebanklaw36.RestructureChanges'. -/
def restructureChangesCard : Claim7 := { stood := { row := restructureChangesRow, standIns := [], harness := (true, "7617a243587602a046e942bc6be3a16fed2c240840a391e49e2a7d3a73fdf3b4"), looks := false }, kinds := [], alts := [], laidByText := true, laidKinds := [.data], laidTests := true, laidLooks := .later }
def RestructureChangesCardSaid : Prop := Claim7.holds Tryz.pinned (.plain (OpenSpec.ofChange restructureChangesSpec)) restructureChangesCard

/-- THE TIED CARD OF 'corebanklaw35.PrepayQuotes'. -/
def prepayQuotesCard : Claim7 := { stood := { row := prepayQuotesRow, standIns := [], harness := (true, "7617a243587602a046e942bc6be3a16fed2c240840a391e49e2a7d3a73fdf3b4"), looks := false }, kinds := [], alts := [], laidByText := true, laidKinds := [.data], laidTests := true, laidLooks := .later }
def PrepayQuotesCardSaid : Prop := Claim7.holds Tryz.pinned (.plain (OpenSpec.ofChange prepayQuotesSpec)) prepayQuotesCard

/-- THE TIED CARD OF 'corebanklaw35.PrepayFulls'. -/
def prepayFullsCard : Claim7 := { stood := { row := prepayFullsRow, standIns := [], harness := (true, "7617a243587602a046e942bc6be3a16fed2c240840a391e49e2a7d3a73fdf3b4"), looks := false }, kinds := [], alts := [], laidByText := true, laidKinds := [.data], laidTests := true, laidLooks := .later }
def PrepayFullsCardSaid : Prop := Claim7.holds Tryz.pinned (.plain (OpenSpec.ofChange prepayFullsSpec)) prepayFullsCard

/-- THE TIED CARD OF 'corebanklaw35.PrepayPartials'. -/
def prepayPartialsCard : Claim7 := { stood := { row := prepayPartialsRow, standIns := [], harness := (true, "7617a243587602a046e942bc6be3a16fed2c240840a391e49e2a7d3a73fdf3b4"), looks := false }, kinds := [], alts := [], laidByText := true, laidKinds := [.data], laidTests := true, laidLooks := .later }
def PrepayPartialsCardSaid : Prop := Claim7.holds Tryz.pinned (.plain (OpenSpec.ofChange prepayPartialsSpec)) prepayPartialsCard

/-- THE SECOND FORM's CARD OF 'corebanklaw34.LoanDisburses'. -/
def loanDisbursesUptoCard : Claim7 := { stood := { row := loanDisbursesUptoRow, standIns := [], harness := (true, "7617a243587602a046e942bc6be3a16fed2c240840a391e49e2a7d3a73fdf3b4"), looks := false }, kinds := [], alts := [], laidByText := true, laidKinds := [.data], laidTests := true, laidLooks := .later }
def LoanDisbursesUptoCardSaid : Prop := Claim7.holds Tryz.pinned (.plain (OpenSpec.upto loanDisbursesSpec)) loanDisbursesUptoCard

/-- THE SECOND FORM's CARD OF 'corebanklaw36.RestructureChanges'. -/
def restructureChangesUptoCard : Claim7 := { stood := { row := restructureChangesUptoRow, standIns := [], harness := (true, "7617a243587602a046e942bc6be3a16fed2c240840a391e49e2a7d3a73fdf3b4"), looks := false }, kinds := [], alts := [], laidByText := true, laidKinds := [.data], laidTests := true, laidLooks := .later }
def RestructureChangesUptoCardSaid : Prop := Claim7.holds Tryz.pinned (.plain (OpenSpec.upto restructureChangesSpec)) restructureChangesUptoCard

/-- THE SECOND FORM's CARD OF 'corebanklaw35.PrepayQuotes'. -/
def prepayQuotesUptoCard : Claim7 := { stood := { row := prepayQuotesUptoRow, standIns := [], harness := (true, "7617a243587602a046e942bc6be3a16fed2c240840a391e49e2a7d3a73fdf3b4"), looks := false }, kinds := [], alts := [], laidByText := true, laidKinds := [.data], laidTests := true, laidLooks := .later }
def PrepayQuotesUptoCardSaid : Prop := Claim7.holds Tryz.pinned (.plain (OpenSpec.upto prepayQuotesSpec)) prepayQuotesUptoCard

/-- THE SECOND FORM's CARD OF 'corebanklaw35.PrepayFulls'. -/
def prepayFullsUptoCard : Claim7 := { stood := { row := prepayFullsUptoRow, standIns := [], harness := (true, "7617a243587602a046e942bc6be3a16fed2c240840a391e49e2a7d3a73fdf3b4"), looks := false }, kinds := [], alts := [], laidByText := true, laidKinds := [.data], laidTests := true, laidLooks := .later }
def PrepayFullsUptoCardSaid : Prop := Claim7.holds Tryz.pinned (.plain (OpenSpec.upto prepayFullsSpec)) prepayFullsUptoCard

/-- THE SECOND FORM's CARD OF 'corebanklaw35.PrepayPartials'. -/
def prepayPartialsUptoCard : Claim7 := { stood := { row := prepayPartialsUptoRow, standIns := [], harness := (true, "7617a243587602a046e942bc6be3a16fed2c240840a391e49e2a7d3a73fdf3b4"), looks := false }, kinds := [], alts := [], laidByText := true, laidKinds := [.data], laidTests := true, laidLooks := .later }
def PrepayPartialsUptoCardSaid : Prop := Claim7.holds Tryz.pinned (.plain (OpenSpec.upto prepayPartialsSpec)) prepayPartialsUptoCard
end Rows
end Go.Proofs.YtfiplppdmedhkaaGreatDoor
