/-
  DERIVED. GIVEN WITH THE SEED: THE CARDS: each row of YtfiplppdmedhkaaDoorRows.lean that lists a variable, with what it lists TIED to the program's text (the seventh form; the later family's looks); each row that meets fmt, with fmt's text TOLD by the authors' own Lean function (tested against real Go, not proved from fmt's source: count such statements apart). THE CARD IS WHAT COUNTS. Prove the row's statement (the work); the ties are given (YtfiplppdmedhkaaDoorTie.lean); close each card by the builder's one call (the guide's Derived/Test/ToyasCard.lean, 'card_holds'). Laid BY PROGRAM, IN A SANDBOX (cutbox-door.mjs). By AI agents, Wed Nov 11 2026. No macro, syntax, notation, axiom, sorry.
-/
import Derived.Test.YtfiplppdmedhkaaDoorRows
import GoSem.ClaimSeven
namespace Go.Proofs.YtfiplppdmedhkaaDoor
namespace Rows

/-- THE TIED CARD OF 'corebanklaw36.RestructureCapital'. -/
def restructureCapitalCard : Claim7 := { stood := { row := restructureCapitalRow, standIns := [], harness := (true, "052d26b17021704dfdbf142214dc7b7cd46046bbf3661c3376cdd160d72b53cb"), looks := false }, kinds := [], alts := [], laidByText := true, laidKinds := [.data], laidTests := true, laidLooks := .later }
def RestructureCapitalCardSaid : Prop := Claim7.holds Tryd.pinned (.plain (OpenSpec.ofChange restructureCapitalSpec)) restructureCapitalCard

/-- THE TIED CARD OF 'corebanklaw36.RestructureTerms'. -/
def restructureTermsCard : Claim7 := { stood := { row := restructureTermsRow, standIns := [], harness := (true, "052d26b17021704dfdbf142214dc7b7cd46046bbf3661c3376cdd160d72b53cb"), looks := false }, kinds := [], alts := [], laidByText := true, laidKinds := [.data], laidTests := true, laidLooks := .later }
def RestructureTermsCardSaid : Prop := Claim7.holds Tryd.pinned (.plain (OpenSpec.ofChange restructureTermsSpec)) restructureTermsCard

/-- THE TIED CARD OF 'corebanklaw36.RestructureKeeps'. -/
def restructureKeepsCard : Claim7 := { stood := { row := restructureKeepsRow, standIns := [], harness := (true, "052d26b17021704dfdbf142214dc7b7cd46046bbf3661c3376cdd160d72b53cb"), looks := false }, kinds := [], alts := [], laidByText := true, laidKinds := [.data], laidTests := true, laidLooks := .later }
def RestructureKeepsCardSaid : Prop := Claim7.holds Tryd.pinned (.plain (OpenSpec.ofChange restructureKeepsSpec)) restructureKeepsCard

/-- THE TIED CARD OF 'corebanklaw35.PrepaySettles'. -/
def prepaySettlesCard : Claim7 := { stood := { row := prepaySettlesRow, standIns := [], harness := (true, "052d26b17021704dfdbf142214dc7b7cd46046bbf3661c3376cdd160d72b53cb"), looks := false }, kinds := [], alts := [], laidByText := true, laidKinds := [.data], laidTests := true, laidLooks := .later }
def PrepaySettlesCardSaid : Prop := Claim7.holds Tryd.pinned (.plain (OpenSpec.ofChange prepaySettlesSpec)) prepaySettlesCard

/-- THE TIED CARD OF 'corebanklaw35.PrepayKeeps'. -/
def prepayKeepsCard : Claim7 := { stood := { row := prepayKeepsRow, standIns := [], harness := (true, "052d26b17021704dfdbf142214dc7b7cd46046bbf3661c3376cdd160d72b53cb"), looks := false }, kinds := [], alts := [], laidByText := true, laidKinds := [.data], laidTests := true, laidLooks := .later }
def PrepayKeepsCardSaid : Prop := Claim7.holds Tryd.pinned (.plain (OpenSpec.ofChange prepayKeepsSpec)) prepayKeepsCard

/-- THE SECOND FORM's CARD OF 'corebanklaw36.RestructureCapital'. -/
def restructureCapitalUptoCard : Claim7 := { stood := { row := restructureCapitalUptoRow, standIns := [], harness := (true, "052d26b17021704dfdbf142214dc7b7cd46046bbf3661c3376cdd160d72b53cb"), looks := false }, kinds := [], alts := [], laidByText := true, laidKinds := [.data], laidTests := true, laidLooks := .later }
def RestructureCapitalUptoCardSaid : Prop := Claim7.holds Tryd.pinned (.plain (OpenSpec.upto restructureCapitalSpec)) restructureCapitalUptoCard

/-- THE SECOND FORM's CARD OF 'corebanklaw36.RestructureTerms'. -/
def restructureTermsUptoCard : Claim7 := { stood := { row := restructureTermsUptoRow, standIns := [], harness := (true, "052d26b17021704dfdbf142214dc7b7cd46046bbf3661c3376cdd160d72b53cb"), looks := false }, kinds := [], alts := [], laidByText := true, laidKinds := [.data], laidTests := true, laidLooks := .later }
def RestructureTermsUptoCardSaid : Prop := Claim7.holds Tryd.pinned (.plain (OpenSpec.upto restructureTermsSpec)) restructureTermsUptoCard

/-- THE SECOND FORM's CARD OF 'corebanklaw36.RestructureKeeps'. -/
def restructureKeepsUptoCard : Claim7 := { stood := { row := restructureKeepsUptoRow, standIns := [], harness := (true, "052d26b17021704dfdbf142214dc7b7cd46046bbf3661c3376cdd160d72b53cb"), looks := false }, kinds := [], alts := [], laidByText := true, laidKinds := [.data], laidTests := true, laidLooks := .later }
def RestructureKeepsUptoCardSaid : Prop := Claim7.holds Tryd.pinned (.plain (OpenSpec.upto restructureKeepsSpec)) restructureKeepsUptoCard

/-- THE SECOND FORM's CARD OF 'corebanklaw35.PrepaySettles'. -/
def prepaySettlesUptoCard : Claim7 := { stood := { row := prepaySettlesUptoRow, standIns := [], harness := (true, "052d26b17021704dfdbf142214dc7b7cd46046bbf3661c3376cdd160d72b53cb"), looks := false }, kinds := [], alts := [], laidByText := true, laidKinds := [.data], laidTests := true, laidLooks := .later }
def PrepaySettlesUptoCardSaid : Prop := Claim7.holds Tryd.pinned (.plain (OpenSpec.upto prepaySettlesSpec)) prepaySettlesUptoCard

/-- THE SECOND FORM's CARD OF 'corebanklaw35.PrepayKeeps'. -/
def prepayKeepsUptoCard : Claim7 := { stood := { row := prepayKeepsUptoRow, standIns := [], harness := (true, "052d26b17021704dfdbf142214dc7b7cd46046bbf3661c3376cdd160d72b53cb"), looks := false }, kinds := [], alts := [], laidByText := true, laidKinds := [.data], laidTests := true, laidLooks := .later }
def PrepayKeepsUptoCardSaid : Prop := Claim7.holds Tryd.pinned (.plain (OpenSpec.upto prepayKeepsSpec)) prepayKeepsUptoCard
end Rows
end Go.Proofs.YtfiplppdmedhkaaDoor
