/-
  DERIVED. GIVEN WITH THE SEED: THE CARDS: each row of YtaanicginfjgdaaDoorRows.lean that lists a variable, with what it lists TIED to the program's text (the seventh form; the later family's looks); each row that meets fmt, with fmt's text TOLD by the authors' own Lean function (tested against real Go, not proved from fmt's source: count such statements apart). THE CARD IS WHAT COUNTS. Prove the row's statement (the work); the ties are given (YtaanicginfjgdaaDoorTie.lean); close each card by the builder's one call (the guide's Derived/Test/ToyasCard.lean, 'card_holds'). Laid BY PROGRAM, IN A SANDBOX (cutbox-door.mjs). By AI agents, Wed Nov 11 2026. No macro, syntax, notation, axiom, sorry.
-/
import Derived.Test.YtaanicginfjgdaaDoorRows
import GoSem.ClaimSeven
namespace Go.Proofs.YtaanicginfjgdaaDoor
namespace Rows

/-- THE TIED CARD OF 'corebanklaw35.PrepaySettles'. -/
def prepaySettlesCard : Claim7 := { stood := { row := prepaySettlesRow, standIns := [], harness := (true, "3c9b0cf399357014ad62289a1473f1b55eabfc5573a2c50e1206565f5e86ad4b"), looks := false }, kinds := [], alts := [], laidByText := true, laidKinds := [.data], laidTests := true, laidLooks := .later }
def PrepaySettlesCardSaid : Prop := Claim7.holds Tryd.pinned (.plain (OpenSpec.ofChange prepaySettlesSpec)) prepaySettlesCard

/-- THE TIED CARD OF 'corebanklaw35.PrepayKeeps'. -/
def prepayKeepsCard : Claim7 := { stood := { row := prepayKeepsRow, standIns := [], harness := (true, "3c9b0cf399357014ad62289a1473f1b55eabfc5573a2c50e1206565f5e86ad4b"), looks := false }, kinds := [], alts := [], laidByText := true, laidKinds := [.data], laidTests := true, laidLooks := .later }
def PrepayKeepsCardSaid : Prop := Claim7.holds Tryd.pinned (.plain (OpenSpec.ofChange prepayKeepsSpec)) prepayKeepsCard

/-- THE SECOND FORM's CARD OF 'corebanklaw35.PrepaySettles'. -/
def prepaySettlesUptoCard : Claim7 := { stood := { row := prepaySettlesUptoRow, standIns := [], harness := (true, "3c9b0cf399357014ad62289a1473f1b55eabfc5573a2c50e1206565f5e86ad4b"), looks := false }, kinds := [], alts := [], laidByText := true, laidKinds := [.data], laidTests := true, laidLooks := .later }
def PrepaySettlesUptoCardSaid : Prop := Claim7.holds Tryd.pinned (.plain (OpenSpec.upto prepaySettlesSpec)) prepaySettlesUptoCard

/-- THE SECOND FORM's CARD OF 'corebanklaw35.PrepayKeeps'. -/
def prepayKeepsUptoCard : Claim7 := { stood := { row := prepayKeepsUptoRow, standIns := [], harness := (true, "3c9b0cf399357014ad62289a1473f1b55eabfc5573a2c50e1206565f5e86ad4b"), looks := false }, kinds := [], alts := [], laidByText := true, laidKinds := [.data], laidTests := true, laidLooks := .later }
def PrepayKeepsUptoCardSaid : Prop := Claim7.holds Tryd.pinned (.plain (OpenSpec.upto prepayKeepsSpec)) prepayKeepsUptoCard
end Rows
end Go.Proofs.YtaanicginfjgdaaDoor
