/-
  DERIVED. GIVEN WITH THE SEED: THE CARDS: each row of YtjicnlgndkcahaaDoorRows.lean that lists a variable, with what it lists TIED to the program's text (the seventh form; the later family's looks); each row that meets fmt, with fmt's text TOLD by the authors' own Lean function (tested against real Go, not proved from fmt's source: count such statements apart). THE CARD IS WHAT COUNTS. Prove the row's statement (the work); the ties are given (YtjicnlgndkcahaaDoorTie.lean); close each card by the builder's one call (the guide's Derived/Test/ToyasCard.lean, 'card_holds'). Laid BY PROGRAM, IN A SANDBOX (cutbox-door.mjs). By AI agents, Wed Nov 11 2026. No macro, syntax, notation, axiom, sorry.
-/
import Derived.Test.YtjicnlgndkcahaaDoorRows
import GoSem.ClaimSeven
namespace Go.Proofs.YtjicnlgndkcahaaDoor
namespace Rows

/-- THE TIED CARD OF 'corebanklaw38.ProvisionStages'. -/
def provisionStagesCard : Claim7 := { stood := { row := provisionStagesRow, standIns := [], harness := (true, "81edf7a7c85b997f01f1667817d8a8a039d7ccd29dc025931795e143bf919836"), looks := false }, kinds := [], alts := [], laidByText := true, laidKinds := [.data, .data], laidTests := true, laidLooks := .later }
def ProvisionStagesCardSaid : Prop := Claim7.holds Tryd.pinned (.plain (OpenSpec.ofChange provisionStagesSpec)) provisionStagesCard

/-- THE TIED CARD OF 'corebanklaw38.ProvisionExpects'. -/
def provisionExpectsCard : Claim7 := { stood := { row := provisionExpectsRow, standIns := [], harness := (true, "81edf7a7c85b997f01f1667817d8a8a039d7ccd29dc025931795e143bf919836"), looks := false }, kinds := [], alts := [], laidByText := true, laidKinds := [.data, .data], laidTests := true, laidLooks := .later }
def ProvisionExpectsCardSaid : Prop := Claim7.holds Tryd.pinned (.plain (OpenSpec.ofChange provisionExpectsSpec)) provisionExpectsCard

/-- THE TIED CARD OF 'corebanklaw38.ProvisionTotals'. -/
def provisionTotalsCard : Claim7 := { stood := { row := provisionTotalsRow, standIns := [], harness := (true, "81edf7a7c85b997f01f1667817d8a8a039d7ccd29dc025931795e143bf919836"), looks := false }, kinds := [], alts := [], laidByText := true, laidKinds := [.data, .data], laidTests := true, laidLooks := .later }
def ProvisionTotalsCardSaid : Prop := Claim7.holds Tryd.pinned (.plain (OpenSpec.ofChange provisionTotalsSpec)) provisionTotalsCard

/-- THE TIED CARD OF 'corebanklaw38.ProvisionMoves'. -/
def provisionMovesCard : Claim7 := { stood := { row := provisionMovesRow, standIns := [], harness := (true, "81edf7a7c85b997f01f1667817d8a8a039d7ccd29dc025931795e143bf919836"), looks := false }, kinds := [], alts := [], laidByText := true, laidKinds := [.data, .data], laidTests := true, laidLooks := .later }
def ProvisionMovesCardSaid : Prop := Claim7.holds Tryd.pinned (.plain (OpenSpec.ofChange provisionMovesSpec)) provisionMovesCard

/-- THE TIED CARD OF 'corebanklaw38.ProvisionRises'. -/
def provisionRisesCard : Claim7 := { stood := { row := provisionRisesRow, standIns := [], harness := (true, "81edf7a7c85b997f01f1667817d8a8a039d7ccd29dc025931795e143bf919836"), looks := false }, kinds := [], alts := [], laidByText := true, laidKinds := [.data, .data], laidTests := true, laidLooks := .later }
def ProvisionRisesCardSaid : Prop := Claim7.holds Tryd.pinned (.plain (OpenSpec.ofChange provisionRisesSpec)) provisionRisesCard

/-- THE SECOND FORM's CARD OF 'corebanklaw38.ProvisionStages'. -/
def provisionStagesUptoCard : Claim7 := { stood := { row := provisionStagesUptoRow, standIns := [], harness := (true, "81edf7a7c85b997f01f1667817d8a8a039d7ccd29dc025931795e143bf919836"), looks := false }, kinds := [], alts := [], laidByText := true, laidKinds := [.data, .data], laidTests := true, laidLooks := .later }
def ProvisionStagesUptoCardSaid : Prop := Claim7.holds Tryd.pinned (.plain (OpenSpec.upto provisionStagesSpec)) provisionStagesUptoCard

/-- THE SECOND FORM's CARD OF 'corebanklaw38.ProvisionExpects'. -/
def provisionExpectsUptoCard : Claim7 := { stood := { row := provisionExpectsUptoRow, standIns := [], harness := (true, "81edf7a7c85b997f01f1667817d8a8a039d7ccd29dc025931795e143bf919836"), looks := false }, kinds := [], alts := [], laidByText := true, laidKinds := [.data, .data], laidTests := true, laidLooks := .later }
def ProvisionExpectsUptoCardSaid : Prop := Claim7.holds Tryd.pinned (.plain (OpenSpec.upto provisionExpectsSpec)) provisionExpectsUptoCard

/-- THE SECOND FORM's CARD OF 'corebanklaw38.ProvisionTotals'. -/
def provisionTotalsUptoCard : Claim7 := { stood := { row := provisionTotalsUptoRow, standIns := [], harness := (true, "81edf7a7c85b997f01f1667817d8a8a039d7ccd29dc025931795e143bf919836"), looks := false }, kinds := [], alts := [], laidByText := true, laidKinds := [.data, .data], laidTests := true, laidLooks := .later }
def ProvisionTotalsUptoCardSaid : Prop := Claim7.holds Tryd.pinned (.plain (OpenSpec.upto provisionTotalsSpec)) provisionTotalsUptoCard

/-- THE SECOND FORM's CARD OF 'corebanklaw38.ProvisionMoves'. -/
def provisionMovesUptoCard : Claim7 := { stood := { row := provisionMovesUptoRow, standIns := [], harness := (true, "81edf7a7c85b997f01f1667817d8a8a039d7ccd29dc025931795e143bf919836"), looks := false }, kinds := [], alts := [], laidByText := true, laidKinds := [.data, .data], laidTests := true, laidLooks := .later }
def ProvisionMovesUptoCardSaid : Prop := Claim7.holds Tryd.pinned (.plain (OpenSpec.upto provisionMovesSpec)) provisionMovesUptoCard

/-- THE SECOND FORM's CARD OF 'corebanklaw38.ProvisionRises'. -/
def provisionRisesUptoCard : Claim7 := { stood := { row := provisionRisesUptoRow, standIns := [], harness := (true, "81edf7a7c85b997f01f1667817d8a8a039d7ccd29dc025931795e143bf919836"), looks := false }, kinds := [], alts := [], laidByText := true, laidKinds := [.data, .data], laidTests := true, laidLooks := .later }
def ProvisionRisesUptoCardSaid : Prop := Claim7.holds Tryd.pinned (.plain (OpenSpec.upto provisionRisesSpec)) provisionRisesUptoCard
end Rows
end Go.Proofs.YtjicnlgndkcahaaDoor
