/-
  DERIVED. GIVEN WITH THE SEED: THE CARDS: each row of YtieklkpjlbpnbaaDoorRows.lean that lists a variable, with what it lists TIED to the program's text (the seventh form; the later family's looks); each row that meets fmt, with fmt's text TOLD by the authors' own Lean function (tested against real Go, not proved from fmt's source: count such statements apart). THE CARD IS WHAT COUNTS. Prove the row's statement (the work); the ties are given (YtieklkpjlbpnbaaDoorTie.lean); close each card by the builder's one call (the guide's Derived/Test/ToyasCard.lean, 'card_holds'). Laid BY PROGRAM, IN A SANDBOX (cutbox-door.mjs). By AI agents, Wed Nov 11 2026. No macro, syntax, notation, axiom, sorry.
-/
import Derived.Test.YtieklkpjlbpnbaaDoorRows
import GoSem.ClaimSeven
namespace Go.Proofs.YtieklkpjlbpnbaaDoor
namespace Rows

/-- THE TIED CARD OF 'corebanklaw02.RoundingDivides'. -/
def roundingDividesCard : Claim7 := { stood := { row := roundingDividesRow, standIns := [], harness := (true, "de3ad10411bdc4bb79173fb1050b2374ceef6d9e38437e026005f3807c2698b4"), looks := false }, kinds := [], alts := [], laidByText := true, laidKinds := [.data], laidTests := true, laidLooks := .later }
def RoundingDividesCardSaid : Prop := Claim7.holds Tryd.pinned (.plain (OpenSpec.ofChange roundingDividesSpec)) roundingDividesCard

/-- THE TIED CARD OF 'corebanklaw02.RoundingAmounts'. -/
def roundingAmountsCard : Claim7 := { stood := { row := roundingAmountsRow, standIns := [], harness := (true, "de3ad10411bdc4bb79173fb1050b2374ceef6d9e38437e026005f3807c2698b4"), looks := false }, kinds := [], alts := [], laidByText := true, laidKinds := [.data], laidTests := true, laidLooks := .later }
def RoundingAmountsCardSaid : Prop := Claim7.holds Tryd.pinned (.plain (OpenSpec.ofChange roundingAmountsSpec)) roundingAmountsCard

/-- THE TIED CARD OF 'corebanklaw02.RoundingPercents'. -/
def roundingPercentsCard : Claim7 := { stood := { row := roundingPercentsRow, standIns := [], harness := (true, "de3ad10411bdc4bb79173fb1050b2374ceef6d9e38437e026005f3807c2698b4"), looks := false }, kinds := [], alts := [], laidByText := true, laidKinds := [.data], laidTests := true, laidLooks := .later }
def RoundingPercentsCardSaid : Prop := Claim7.holds Tryd.pinned (.plain (OpenSpec.ofChange roundingPercentsSpec)) roundingPercentsCard

/-- THE TIED CARD OF 'corebanklaw02.RoundingParts'. -/
def roundingPartsCard : Claim7 := { stood := { row := roundingPartsRow, standIns := [], harness := (true, "de3ad10411bdc4bb79173fb1050b2374ceef6d9e38437e026005f3807c2698b4"), looks := false }, kinds := [], alts := [], laidByText := true, laidKinds := [.data], laidTests := true, laidLooks := .later }
def RoundingPartsCardSaid : Prop := Claim7.holds Tryd.pinned (.plain (OpenSpec.ofChange roundingPartsSpec)) roundingPartsCard

/-- THE TIED CARD OF 'corebanklaw02.RoundingSplits'. -/
def roundingSplitsCard : Claim7 := { stood := { row := roundingSplitsRow, standIns := [], harness := (true, "de3ad10411bdc4bb79173fb1050b2374ceef6d9e38437e026005f3807c2698b4"), looks := false }, kinds := [], alts := [], laidByText := true, laidKinds := [.data], laidTests := true, laidLooks := .later }
def RoundingSplitsCardSaid : Prop := Claim7.holds Tryd.pinned (.plain (OpenSpec.ofChange roundingSplitsSpec)) roundingSplitsCard

/-- THE TIED CARD OF 'corebanklaw02.RoundingSteps'. -/
def roundingStepsCard : Claim7 := { stood := { row := roundingStepsRow, standIns := [], harness := (true, "de3ad10411bdc4bb79173fb1050b2374ceef6d9e38437e026005f3807c2698b4"), looks := false }, kinds := [], alts := [], laidByText := true, laidKinds := [.data], laidTests := true, laidLooks := .later }
def RoundingStepsCardSaid : Prop := Claim7.holds Tryd.pinned (.plain (OpenSpec.ofChange roundingStepsSpec)) roundingStepsCard

/-- THE TIED CARD OF 'corebanklaw02.RoundingNear'. -/
def roundingNearCard : Claim7 := { stood := { row := roundingNearRow, standIns := [], harness := (true, "de3ad10411bdc4bb79173fb1050b2374ceef6d9e38437e026005f3807c2698b4"), looks := false }, kinds := [], alts := [], laidByText := true, laidKinds := [.data], laidTests := true, laidLooks := .later }
def RoundingNearCardSaid : Prop := Claim7.holds Tryd.pinned (.plain (OpenSpec.ofChange roundingNearSpec)) roundingNearCard

/-- THE TIED CARD OF 'corebanklaw02.RoundingMirrors'. -/
def roundingMirrorsCard : Claim7 := { stood := { row := roundingMirrorsRow, standIns := [], harness := (true, "de3ad10411bdc4bb79173fb1050b2374ceef6d9e38437e026005f3807c2698b4"), looks := false }, kinds := [], alts := [], laidByText := true, laidKinds := [.data], laidTests := true, laidLooks := .later }
def RoundingMirrorsCardSaid : Prop := Claim7.holds Tryd.pinned (.plain (OpenSpec.ofChange roundingMirrorsSpec)) roundingMirrorsCard

/-- THE SECOND FORM's CARD OF 'corebanklaw02.RoundingDivides'. -/
def roundingDividesUptoCard : Claim7 := { stood := { row := roundingDividesUptoRow, standIns := [], harness := (true, "de3ad10411bdc4bb79173fb1050b2374ceef6d9e38437e026005f3807c2698b4"), looks := false }, kinds := [], alts := [], laidByText := true, laidKinds := [.data], laidTests := true, laidLooks := .later }
def RoundingDividesUptoCardSaid : Prop := Claim7.holds Tryd.pinned (.plain (OpenSpec.upto roundingDividesSpec)) roundingDividesUptoCard

/-- THE SECOND FORM's CARD OF 'corebanklaw02.RoundingAmounts'. -/
def roundingAmountsUptoCard : Claim7 := { stood := { row := roundingAmountsUptoRow, standIns := [], harness := (true, "de3ad10411bdc4bb79173fb1050b2374ceef6d9e38437e026005f3807c2698b4"), looks := false }, kinds := [], alts := [], laidByText := true, laidKinds := [.data], laidTests := true, laidLooks := .later }
def RoundingAmountsUptoCardSaid : Prop := Claim7.holds Tryd.pinned (.plain (OpenSpec.upto roundingAmountsSpec)) roundingAmountsUptoCard

/-- THE SECOND FORM's CARD OF 'corebanklaw02.RoundingPercents'. -/
def roundingPercentsUptoCard : Claim7 := { stood := { row := roundingPercentsUptoRow, standIns := [], harness := (true, "de3ad10411bdc4bb79173fb1050b2374ceef6d9e38437e026005f3807c2698b4"), looks := false }, kinds := [], alts := [], laidByText := true, laidKinds := [.data], laidTests := true, laidLooks := .later }
def RoundingPercentsUptoCardSaid : Prop := Claim7.holds Tryd.pinned (.plain (OpenSpec.upto roundingPercentsSpec)) roundingPercentsUptoCard

/-- THE SECOND FORM's CARD OF 'corebanklaw02.RoundingParts'. -/
def roundingPartsUptoCard : Claim7 := { stood := { row := roundingPartsUptoRow, standIns := [], harness := (true, "de3ad10411bdc4bb79173fb1050b2374ceef6d9e38437e026005f3807c2698b4"), looks := false }, kinds := [], alts := [], laidByText := true, laidKinds := [.data], laidTests := true, laidLooks := .later }
def RoundingPartsUptoCardSaid : Prop := Claim7.holds Tryd.pinned (.plain (OpenSpec.upto roundingPartsSpec)) roundingPartsUptoCard

/-- THE SECOND FORM's CARD OF 'corebanklaw02.RoundingSplits'. -/
def roundingSplitsUptoCard : Claim7 := { stood := { row := roundingSplitsUptoRow, standIns := [], harness := (true, "de3ad10411bdc4bb79173fb1050b2374ceef6d9e38437e026005f3807c2698b4"), looks := false }, kinds := [], alts := [], laidByText := true, laidKinds := [.data], laidTests := true, laidLooks := .later }
def RoundingSplitsUptoCardSaid : Prop := Claim7.holds Tryd.pinned (.plain (OpenSpec.upto roundingSplitsSpec)) roundingSplitsUptoCard

/-- THE SECOND FORM's CARD OF 'corebanklaw02.RoundingSteps'. -/
def roundingStepsUptoCard : Claim7 := { stood := { row := roundingStepsUptoRow, standIns := [], harness := (true, "de3ad10411bdc4bb79173fb1050b2374ceef6d9e38437e026005f3807c2698b4"), looks := false }, kinds := [], alts := [], laidByText := true, laidKinds := [.data], laidTests := true, laidLooks := .later }
def RoundingStepsUptoCardSaid : Prop := Claim7.holds Tryd.pinned (.plain (OpenSpec.upto roundingStepsSpec)) roundingStepsUptoCard

/-- THE SECOND FORM's CARD OF 'corebanklaw02.RoundingNear'. -/
def roundingNearUptoCard : Claim7 := { stood := { row := roundingNearUptoRow, standIns := [], harness := (true, "de3ad10411bdc4bb79173fb1050b2374ceef6d9e38437e026005f3807c2698b4"), looks := false }, kinds := [], alts := [], laidByText := true, laidKinds := [.data], laidTests := true, laidLooks := .later }
def RoundingNearUptoCardSaid : Prop := Claim7.holds Tryd.pinned (.plain (OpenSpec.upto roundingNearSpec)) roundingNearUptoCard

/-- THE SECOND FORM's CARD OF 'corebanklaw02.RoundingMirrors'. -/
def roundingMirrorsUptoCard : Claim7 := { stood := { row := roundingMirrorsUptoRow, standIns := [], harness := (true, "de3ad10411bdc4bb79173fb1050b2374ceef6d9e38437e026005f3807c2698b4"), looks := false }, kinds := [], alts := [], laidByText := true, laidKinds := [.data], laidTests := true, laidLooks := .later }
def RoundingMirrorsUptoCardSaid : Prop := Claim7.holds Tryd.pinned (.plain (OpenSpec.upto roundingMirrorsSpec)) roundingMirrorsUptoCard
end Rows
end Go.Proofs.YtieklkpjlbpnbaaDoor
