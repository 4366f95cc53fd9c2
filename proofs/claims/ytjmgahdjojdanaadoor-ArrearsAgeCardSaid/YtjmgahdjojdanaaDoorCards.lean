/-
  DERIVED. GIVEN WITH THE SEED: THE CARDS: each row of YtjmgahdjojdanaaDoorRows.lean that lists a variable, with what it lists TIED to the program's text (the seventh form; the later family's looks); each row that meets fmt, with fmt's text TOLD by the authors' own Lean function (tested against real Go, not proved from fmt's source: count such statements apart). THE CARD IS WHAT COUNTS. Prove the row's statement (the work); the ties are given (YtjmgahdjojdanaaDoorTie.lean); close each card by the builder's one call (the guide's Derived/Test/ToyasCard.lean, 'card_holds'). Laid BY PROGRAM, IN A SANDBOX (cutbox-door.mjs). By AI agents, Wed Nov 11 2026. No macro, syntax, notation, axiom, sorry.
-/
import Derived.Test.YtjmgahdjojdanaaDoorRows
import GoSem.ClaimSeven
namespace Go.Proofs.YtjmgahdjojdanaaDoor
namespace Rows

/-- THE TIED CARD OF 'corebanklaw37.ArrearsCounts'. -/
def arrearsCountsCard : Claim7 := { stood := { row := arrearsCountsRow, standIns := [], harness := (true, "d067fa0e78459901dbf659bd69668e1489739b26d464bd3dbdc414e7fbd4c142"), looks := false }, kinds := [], alts := [], laidByText := true, laidKinds := [.data, .data], laidTests := true, laidLooks := .later }
def ArrearsCountsCardSaid : Prop := Claim7.holds Tryd.pinned (.plain (OpenSpec.ofChange arrearsCountsSpec)) arrearsCountsCard

/-- THE TIED CARD OF 'corebanklaw37.ArrearsPenalties'. -/
def arrearsPenaltiesCard : Claim7 := { stood := { row := arrearsPenaltiesRow, standIns := [], harness := (true, "d067fa0e78459901dbf659bd69668e1489739b26d464bd3dbdc414e7fbd4c142"), looks := false }, kinds := [], alts := [], laidByText := true, laidKinds := [.data, .data], laidTests := true, laidLooks := .later }
def ArrearsPenaltiesCardSaid : Prop := Claim7.holds Tryd.pinned (.plain (OpenSpec.ofChange arrearsPenaltiesSpec)) arrearsPenaltiesCard

/-- THE TIED CARD OF 'corebanklaw37.ArrearsCharges'. -/
def arrearsChargesCard : Claim7 := { stood := { row := arrearsChargesRow, standIns := [], harness := (true, "d067fa0e78459901dbf659bd69668e1489739b26d464bd3dbdc414e7fbd4c142"), looks := false }, kinds := [], alts := [], laidByText := true, laidKinds := [.data, .data], laidTests := true, laidLooks := .later }
def ArrearsChargesCardSaid : Prop := Claim7.holds Tryd.pinned (.plain (OpenSpec.ofChange arrearsChargesSpec)) arrearsChargesCard

/-- THE TIED CARD OF 'corebanklaw37.ArrearsJoins'. -/
def arrearsJoinsCard : Claim7 := { stood := { row := arrearsJoinsRow, standIns := [], harness := (true, "d067fa0e78459901dbf659bd69668e1489739b26d464bd3dbdc414e7fbd4c142"), looks := false }, kinds := [], alts := [], laidByText := true, laidKinds := [.data, .data], laidTests := true, laidLooks := .later }
def ArrearsJoinsCardSaid : Prop := Claim7.holds Tryd.pinned (.plain (OpenSpec.ofChange arrearsJoinsSpec)) arrearsJoinsCard

/-- THE TIED CARD OF 'corebanklaw37.ArrearsAge'. -/
def arrearsAgeCard : Claim7 := { stood := { row := arrearsAgeRow, standIns := [], harness := (true, "d067fa0e78459901dbf659bd69668e1489739b26d464bd3dbdc414e7fbd4c142"), looks := false }, kinds := [], alts := [], laidByText := true, laidKinds := [.data, .data], laidTests := true, laidLooks := .later }
def ArrearsAgeCardSaid : Prop := Claim7.holds Tryd.pinned (.plain (OpenSpec.ofChange arrearsAgeSpec)) arrearsAgeCard

/-- THE SECOND FORM's CARD OF 'corebanklaw37.ArrearsCounts'. -/
def arrearsCountsUptoCard : Claim7 := { stood := { row := arrearsCountsUptoRow, standIns := [], harness := (true, "d067fa0e78459901dbf659bd69668e1489739b26d464bd3dbdc414e7fbd4c142"), looks := false }, kinds := [], alts := [], laidByText := true, laidKinds := [.data, .data], laidTests := true, laidLooks := .later }
def ArrearsCountsUptoCardSaid : Prop := Claim7.holds Tryd.pinned (.plain (OpenSpec.upto arrearsCountsSpec)) arrearsCountsUptoCard

/-- THE SECOND FORM's CARD OF 'corebanklaw37.ArrearsPenalties'. -/
def arrearsPenaltiesUptoCard : Claim7 := { stood := { row := arrearsPenaltiesUptoRow, standIns := [], harness := (true, "d067fa0e78459901dbf659bd69668e1489739b26d464bd3dbdc414e7fbd4c142"), looks := false }, kinds := [], alts := [], laidByText := true, laidKinds := [.data, .data], laidTests := true, laidLooks := .later }
def ArrearsPenaltiesUptoCardSaid : Prop := Claim7.holds Tryd.pinned (.plain (OpenSpec.upto arrearsPenaltiesSpec)) arrearsPenaltiesUptoCard

/-- THE SECOND FORM's CARD OF 'corebanklaw37.ArrearsCharges'. -/
def arrearsChargesUptoCard : Claim7 := { stood := { row := arrearsChargesUptoRow, standIns := [], harness := (true, "d067fa0e78459901dbf659bd69668e1489739b26d464bd3dbdc414e7fbd4c142"), looks := false }, kinds := [], alts := [], laidByText := true, laidKinds := [.data, .data], laidTests := true, laidLooks := .later }
def ArrearsChargesUptoCardSaid : Prop := Claim7.holds Tryd.pinned (.plain (OpenSpec.upto arrearsChargesSpec)) arrearsChargesUptoCard

/-- THE SECOND FORM's CARD OF 'corebanklaw37.ArrearsJoins'. -/
def arrearsJoinsUptoCard : Claim7 := { stood := { row := arrearsJoinsUptoRow, standIns := [], harness := (true, "d067fa0e78459901dbf659bd69668e1489739b26d464bd3dbdc414e7fbd4c142"), looks := false }, kinds := [], alts := [], laidByText := true, laidKinds := [.data, .data], laidTests := true, laidLooks := .later }
def ArrearsJoinsUptoCardSaid : Prop := Claim7.holds Tryd.pinned (.plain (OpenSpec.upto arrearsJoinsSpec)) arrearsJoinsUptoCard

/-- THE SECOND FORM's CARD OF 'corebanklaw37.ArrearsAge'. -/
def arrearsAgeUptoCard : Claim7 := { stood := { row := arrearsAgeUptoRow, standIns := [], harness := (true, "d067fa0e78459901dbf659bd69668e1489739b26d464bd3dbdc414e7fbd4c142"), looks := false }, kinds := [], alts := [], laidByText := true, laidKinds := [.data, .data], laidTests := true, laidLooks := .later }
def ArrearsAgeUptoCardSaid : Prop := Claim7.holds Tryd.pinned (.plain (OpenSpec.upto arrearsAgeSpec)) arrearsAgeUptoCard
end Rows
end Go.Proofs.YtjmgahdjojdanaaDoor
