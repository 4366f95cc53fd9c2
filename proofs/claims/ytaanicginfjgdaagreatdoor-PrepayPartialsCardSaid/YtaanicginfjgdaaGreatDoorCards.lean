/-
  DERIVED. GIVEN WITH THE SEED: THE CARDS: each row of YtaanicginfjgdaaGreatDoorRows.lean that lists a variable, with what it lists TIED to the program's text (the seventh form; the later family's looks); each row that meets fmt, with fmt's text TOLD by the authors' own Lean function (tested against real Go, not proved from fmt's source: count such statements apart). THE CARD IS WHAT COUNTS. Prove the row's statement (the work); the ties are given (YtaanicginfjgdaaGreatDoorTie.lean); close each card by the builder's one call (the guide's Derived/Test/ToyasCard.lean, 'card_holds'). Laid BY PROGRAM, IN A SANDBOX (cutbox-door.mjs). By AI agents, Wed Nov 11 2026. No macro, syntax, notation, axiom, sorry.
-/
import Derived.Test.YtaanicginfjgdaaGreatDoorRows
import GoSem.ClaimSeven
namespace Go.Proofs.YtaanicginfjgdaaGreatDoor
namespace Rows

/-- THE TIED CARD OF 'corebanklaw35.PrepayQuotes'. -/
def prepayQuotesCard : Claim7 := { stood := { row := prepayQuotesRow, standIns := [], harness := (true, "1e4b81d3818aedeccfbda3b9553c542e3c5a094a775d1b360f2d0cbb82c78690"), looks := false }, kinds := [], alts := [], laidByText := true, laidKinds := [.data], laidTests := true, laidLooks := .later }
def PrepayQuotesCardSaid : Prop := Claim7.holds Tryz.pinned (.plain (OpenSpec.ofChange prepayQuotesSpec)) prepayQuotesCard

/-- THE TIED CARD OF 'corebanklaw35.PrepayFulls'. -/
def prepayFullsCard : Claim7 := { stood := { row := prepayFullsRow, standIns := [], harness := (true, "1e4b81d3818aedeccfbda3b9553c542e3c5a094a775d1b360f2d0cbb82c78690"), looks := false }, kinds := [], alts := [], laidByText := true, laidKinds := [.data], laidTests := true, laidLooks := .later }
def PrepayFullsCardSaid : Prop := Claim7.holds Tryz.pinned (.plain (OpenSpec.ofChange prepayFullsSpec)) prepayFullsCard

/-- THE TIED CARD OF 'corebanklaw35.PrepayPartials'. -/
def prepayPartialsCard : Claim7 := { stood := { row := prepayPartialsRow, standIns := [], harness := (true, "1e4b81d3818aedeccfbda3b9553c542e3c5a094a775d1b360f2d0cbb82c78690"), looks := false }, kinds := [], alts := [], laidByText := true, laidKinds := [.data], laidTests := true, laidLooks := .later }
def PrepayPartialsCardSaid : Prop := Claim7.holds Tryz.pinned (.plain (OpenSpec.ofChange prepayPartialsSpec)) prepayPartialsCard

/-- THE SECOND FORM's CARD OF 'corebanklaw35.PrepayQuotes'. -/
def prepayQuotesUptoCard : Claim7 := { stood := { row := prepayQuotesUptoRow, standIns := [], harness := (true, "1e4b81d3818aedeccfbda3b9553c542e3c5a094a775d1b360f2d0cbb82c78690"), looks := false }, kinds := [], alts := [], laidByText := true, laidKinds := [.data], laidTests := true, laidLooks := .later }
def PrepayQuotesUptoCardSaid : Prop := Claim7.holds Tryz.pinned (.plain (OpenSpec.upto prepayQuotesSpec)) prepayQuotesUptoCard

/-- THE SECOND FORM's CARD OF 'corebanklaw35.PrepayFulls'. -/
def prepayFullsUptoCard : Claim7 := { stood := { row := prepayFullsUptoRow, standIns := [], harness := (true, "1e4b81d3818aedeccfbda3b9553c542e3c5a094a775d1b360f2d0cbb82c78690"), looks := false }, kinds := [], alts := [], laidByText := true, laidKinds := [.data], laidTests := true, laidLooks := .later }
def PrepayFullsUptoCardSaid : Prop := Claim7.holds Tryz.pinned (.plain (OpenSpec.upto prepayFullsSpec)) prepayFullsUptoCard

/-- THE SECOND FORM's CARD OF 'corebanklaw35.PrepayPartials'. -/
def prepayPartialsUptoCard : Claim7 := { stood := { row := prepayPartialsUptoRow, standIns := [], harness := (true, "1e4b81d3818aedeccfbda3b9553c542e3c5a094a775d1b360f2d0cbb82c78690"), looks := false }, kinds := [], alts := [], laidByText := true, laidKinds := [.data], laidTests := true, laidLooks := .later }
def PrepayPartialsUptoCardSaid : Prop := Claim7.holds Tryz.pinned (.plain (OpenSpec.upto prepayPartialsSpec)) prepayPartialsUptoCard
end Rows
end Go.Proofs.YtaanicginfjgdaaGreatDoor
