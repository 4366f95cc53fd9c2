/-
  DERIVED. GIVEN WITH THE SEED: THE CARDS: each row of YtgjikcmejglgoaaDoorRows.lean that lists a variable, with what it lists TIED to the program's text (the seventh form; the later family's looks); each row that meets fmt, with fmt's text TOLD by the authors' own Lean function (tested against real Go, not proved from fmt's source: count such statements apart). THE CARD IS WHAT COUNTS. Prove the row's statement (the work); the ties are given (YtgjikcmejglgoaaDoorTie.lean); close each card by the builder's one call (the guide's Derived/Test/ToyasCard.lean, 'card_holds'). Laid BY PROGRAM, IN A SANDBOX (cutbox-door.mjs). By AI agents, Wed Nov 11 2026. No macro, syntax, notation, axiom, sorry.
-/
import Derived.Test.YtgjikcmejglgoaaDoorRows
import GoSem.ClaimSeven
namespace Go.Proofs.YtgjikcmejglgoaaDoor
namespace Rows

/-- THE TIED CARD OF 'corebanklaw32.AnnuityInterest'. -/
def annuityInterestCard : Claim7 := { stood := { row := annuityInterestRow, standIns := [], harness := (true, "cb0fc3eeeb4db48d0f95108bf77b41e28c735d28dea9a725efc4d52c30a90515"), looks := false }, kinds := [], alts := [], laidByText := true, laidKinds := [.data], laidTests := true, laidLooks := .later }
def AnnuityInterestCardSaid : Prop := Claim7.holds Tryd.pinned (.plain (OpenSpec.ofChange annuityInterestSpec)) annuityInterestCard

/-- THE TIED CARD OF 'corebanklaw32.AnnuityRests'. -/
def annuityRestsCard : Claim7 := { stood := { row := annuityRestsRow, standIns := [], harness := (true, "cb0fc3eeeb4db48d0f95108bf77b41e28c735d28dea9a725efc4d52c30a90515"), looks := false }, kinds := [], alts := [], laidByText := true, laidKinds := [.data], laidTests := true, laidLooks := .later }
def AnnuityRestsCardSaid : Prop := Claim7.holds Tryd.pinned (.plain (OpenSpec.ofChange annuityRestsSpec)) annuityRestsCard

/-- THE TIED CARD OF 'corebanklaw32.AnnuityPayments'. -/
def annuityPaymentsCard : Claim7 := { stood := { row := annuityPaymentsRow, standIns := [], harness := (true, "cb0fc3eeeb4db48d0f95108bf77b41e28c735d28dea9a725efc4d52c30a90515"), looks := false }, kinds := [], alts := [], laidByText := true, laidKinds := [.data], laidTests := true, laidLooks := .later }
def AnnuityPaymentsCardSaid : Prop := Claim7.holds Tryd.pinned (.plain (OpenSpec.ofChange annuityPaymentsSpec)) annuityPaymentsCard

/-- THE TIED CARD OF 'corebanklaw32.AnnuityLeast'. -/
def annuityLeastCard : Claim7 := { stood := { row := annuityLeastRow, standIns := [], harness := (true, "cb0fc3eeeb4db48d0f95108bf77b41e28c735d28dea9a725efc4d52c30a90515"), looks := false }, kinds := [], alts := [], laidByText := true, laidKinds := [.data], laidTests := true, laidLooks := .later }
def AnnuityLeastCardSaid : Prop := Claim7.holds Tryd.pinned (.plain (OpenSpec.ofChange annuityLeastSpec)) annuityLeastCard

/-- THE TIED CARD OF 'corebanklaw32.AnnuityFalls'. -/
def annuityFallsCard : Claim7 := { stood := { row := annuityFallsRow, standIns := [], harness := (true, "cb0fc3eeeb4db48d0f95108bf77b41e28c735d28dea9a725efc4d52c30a90515"), looks := false }, kinds := [], alts := [], laidByText := true, laidKinds := [.data], laidTests := true, laidLooks := .later }
def AnnuityFallsCardSaid : Prop := Claim7.holds Tryd.pinned (.plain (OpenSpec.ofChange annuityFallsSpec)) annuityFallsCard

/-- THE TIED CARD OF 'corebanklaw32.AnnuityParts'. -/
def annuityPartsCard : Claim7 := { stood := { row := annuityPartsRow, standIns := [], harness := (true, "cb0fc3eeeb4db48d0f95108bf77b41e28c735d28dea9a725efc4d52c30a90515"), looks := false }, kinds := [], alts := [], laidByText := true, laidKinds := [.data], laidTests := true, laidLooks := .later }
def AnnuityPartsCardSaid : Prop := Claim7.holds Tryd.pinned (.plain (OpenSpec.ofChange annuityPartsSpec)) annuityPartsCard

/-- THE SECOND FORM's CARD OF 'corebanklaw32.AnnuityInterest'. -/
def annuityInterestUptoCard : Claim7 := { stood := { row := annuityInterestUptoRow, standIns := [], harness := (true, "cb0fc3eeeb4db48d0f95108bf77b41e28c735d28dea9a725efc4d52c30a90515"), looks := false }, kinds := [], alts := [], laidByText := true, laidKinds := [.data], laidTests := true, laidLooks := .later }
def AnnuityInterestUptoCardSaid : Prop := Claim7.holds Tryd.pinned (.plain (OpenSpec.upto annuityInterestSpec)) annuityInterestUptoCard

/-- THE SECOND FORM's CARD OF 'corebanklaw32.AnnuityRests'. -/
def annuityRestsUptoCard : Claim7 := { stood := { row := annuityRestsUptoRow, standIns := [], harness := (true, "cb0fc3eeeb4db48d0f95108bf77b41e28c735d28dea9a725efc4d52c30a90515"), looks := false }, kinds := [], alts := [], laidByText := true, laidKinds := [.data], laidTests := true, laidLooks := .later }
def AnnuityRestsUptoCardSaid : Prop := Claim7.holds Tryd.pinned (.plain (OpenSpec.upto annuityRestsSpec)) annuityRestsUptoCard

/-- THE SECOND FORM's CARD OF 'corebanklaw32.AnnuityPayments'. -/
def annuityPaymentsUptoCard : Claim7 := { stood := { row := annuityPaymentsUptoRow, standIns := [], harness := (true, "cb0fc3eeeb4db48d0f95108bf77b41e28c735d28dea9a725efc4d52c30a90515"), looks := false }, kinds := [], alts := [], laidByText := true, laidKinds := [.data], laidTests := true, laidLooks := .later }
def AnnuityPaymentsUptoCardSaid : Prop := Claim7.holds Tryd.pinned (.plain (OpenSpec.upto annuityPaymentsSpec)) annuityPaymentsUptoCard

/-- THE SECOND FORM's CARD OF 'corebanklaw32.AnnuityLeast'. -/
def annuityLeastUptoCard : Claim7 := { stood := { row := annuityLeastUptoRow, standIns := [], harness := (true, "cb0fc3eeeb4db48d0f95108bf77b41e28c735d28dea9a725efc4d52c30a90515"), looks := false }, kinds := [], alts := [], laidByText := true, laidKinds := [.data], laidTests := true, laidLooks := .later }
def AnnuityLeastUptoCardSaid : Prop := Claim7.holds Tryd.pinned (.plain (OpenSpec.upto annuityLeastSpec)) annuityLeastUptoCard

/-- THE SECOND FORM's CARD OF 'corebanklaw32.AnnuityFalls'. -/
def annuityFallsUptoCard : Claim7 := { stood := { row := annuityFallsUptoRow, standIns := [], harness := (true, "cb0fc3eeeb4db48d0f95108bf77b41e28c735d28dea9a725efc4d52c30a90515"), looks := false }, kinds := [], alts := [], laidByText := true, laidKinds := [.data], laidTests := true, laidLooks := .later }
def AnnuityFallsUptoCardSaid : Prop := Claim7.holds Tryd.pinned (.plain (OpenSpec.upto annuityFallsSpec)) annuityFallsUptoCard

/-- THE SECOND FORM's CARD OF 'corebanklaw32.AnnuityParts'. -/
def annuityPartsUptoCard : Claim7 := { stood := { row := annuityPartsUptoRow, standIns := [], harness := (true, "cb0fc3eeeb4db48d0f95108bf77b41e28c735d28dea9a725efc4d52c30a90515"), looks := false }, kinds := [], alts := [], laidByText := true, laidKinds := [.data], laidTests := true, laidLooks := .later }
def AnnuityPartsUptoCardSaid : Prop := Claim7.holds Tryd.pinned (.plain (OpenSpec.upto annuityPartsSpec)) annuityPartsUptoCard
end Rows
end Go.Proofs.YtgjikcmejglgoaaDoor
