/-
  NARROWER THAN 'FOR EVERY INPUT', by the rows' own cells (each row's printed sentence says how): AnnuityInterest: laid · AnnuityRests: laid · AnnuityPayments: laid · AnnuityLeast: laid · AnnuityFalls: laid · AnnuityParts: laid.
  DERIVED. THE GIVEN ROWS OF THIS SEAT. 6 by the template 'for every input the law returns true; each argument reads behind the call as it read before'; 0 by the template 'total and deterministic' (their statements: YtgjikcmejglgoaaDoorTotals.lean).
  GIVEN WITH THE SEED: the statements are not yours to turn. If you find one false, say at which input.
  Laid BY PROGRAM, IN A SANDBOX (cutbox-rows.mjs): the forced cells as the released guide's own fill.sh prints them over the translation 3c863a35a592c47a… (all of the seat's roots in one cut). By AI agents, Wed Nov 11 2026. No macro, syntax, notation, axiom, sorry.
-/
import Derived.Test.YtgjikcmejglgoaaDoorChecked
import GoSem.Claim
import GoSem.ClaimJoined
import GoSem.ClaimMapViews
import Derived.JoinedTies
import Derived.KernelRfl
namespace Go.Proofs.YtgjikcmejglgoaaDoor
/- THE CELL 'sum', in the pinned program and in every row, IS THE sha256 OF THE DUMP (.gsa) THAT YtgjikcmejglgoaaDoorProg.lean LOADS. Nothing in Lean hashes anything: it is a label: what it is worth is what the hold of that sum in a sandbox is worth. -/
noncomputable def Tryd.pinned : Pinned := { name := "ytgjikcmejglgoaadoor", sum := "3c863a35a592c47a122610888f1e37ab30d687eb7dd55e6adc8b43a6cbfba022", checked := Tryd.checked }
namespace Rows
def none {H : Type} : Left H := { results := [], args := [] }

/- WHAT THE LISTED PACKAGE-LEVEL VARIABLES READ AS WHEN THE CALL BEGINS. Each datum BY PROGRAM (the guide's laid-datum.mjs) off the statement by which the dump's own 'gosem.cut.vars' lays the variable. In a bare row this is a premise. The card (YtgjikcmejglgoaaDoorCards.lean) ties it to the program's text. -/
def laid_corebank_rounding_steps {H : Type} : DataW H := .agg [.agg [.lit (.int .i64 0), .lit (.int .i64 0)], .agg [.lit (.int .i64 1), .lit (.int .i64 0)], .agg [.lit (.int .i64 0), .lit (.int .i64 1)], .agg [.lit (.int .i64 0), .lit (.int .i64 0)], .agg [.lit (.int .i64 1), .lit (.int .i64 1)]]

/-- 'corebanklaw32.AnnuityInterest': WHATEVER THE INPUT: true; the input reads as it did. -/
def annuityInterestSpec : ChangeSpec := { name := "annuityInterest", fn := fun _ => fun
  | [d] => { results := [.lit (.bool true)], args := [d] }
  | _ => none }
def annuityInterestRow : OpenClaim := { program := "ytgjikcmejglgoaadoor", sum := "3c863a35a592c47a122610888f1e37ab30d687eb7dd55e6adc8b43a6cbfba022", func := "corebank/corebanklaw32.AnnuityInterest", spec := "annuityInterest", inPlace := ["math/bits.Add64"], unfollowed := true, recurses := true, named := ["math/bits.divideError", "math/bits.overflowError", "corebank/rounding.steps"], apart := false, laid := [("corebank/rounding.steps", laid_corebank_rounding_steps)] }
def AnnuityInterestSaid : Prop := annuityInterestRow.holds Tryd.pinned (OpenSpec.ofChange annuityInterestSpec)

/-- ITS FALSE NEIGHBOUR: 'it returns false'. Refute it at one input. -/
def annuityInterestWrong : ChangeSpec := { name := "annuityInterest", fn := fun _ => fun
  | [d] => { results := [.lit (.bool false)], args := [d] }
  | _ => none }
def AnnuityInterestWrongFalsely : Prop := annuityInterestRow.holds Tryd.pinned (OpenSpec.ofChange annuityInterestWrong)

/-- 'corebanklaw32.AnnuityRests': WHATEVER THE INPUT: true; the input reads as it did. -/
def annuityRestsSpec : ChangeSpec := { name := "annuityRests", fn := fun _ => fun
  | [d1, d2, d3] => { results := [.lit (.bool true)], args := [d1, d2, d3] }
  | _ => none }
def annuityRestsRow : OpenClaim := { program := "ytgjikcmejglgoaadoor", sum := "3c863a35a592c47a122610888f1e37ab30d687eb7dd55e6adc8b43a6cbfba022", func := "corebank/corebanklaw32.AnnuityRests", spec := "annuityRests", inPlace := ["math/bits.Add64"], unfollowed := true, recurses := true, named := ["math/bits.divideError", "math/bits.overflowError", "corebank/rounding.steps"], apart := false, laid := [("corebank/rounding.steps", laid_corebank_rounding_steps)] }
def AnnuityRestsSaid : Prop := annuityRestsRow.holds Tryd.pinned (OpenSpec.ofChange annuityRestsSpec)

/-- ITS FALSE NEIGHBOUR: 'it returns false'. Refute it at one input. -/
def annuityRestsWrong : ChangeSpec := { name := "annuityRests", fn := fun _ => fun
  | [d1, d2, d3] => { results := [.lit (.bool false)], args := [d1, d2, d3] }
  | _ => none }
def AnnuityRestsWrongFalsely : Prop := annuityRestsRow.holds Tryd.pinned (OpenSpec.ofChange annuityRestsWrong)

/-- 'corebanklaw32.AnnuityPayments': WHATEVER THE INPUT: true; the input reads as it did. -/
def annuityPaymentsSpec : ChangeSpec := { name := "annuityPayments", fn := fun _ => fun
  | [d1, d2, d3] => { results := [.lit (.bool true)], args := [d1, d2, d3] }
  | _ => none }
def annuityPaymentsRow : OpenClaim := { program := "ytgjikcmejglgoaadoor", sum := "3c863a35a592c47a122610888f1e37ab30d687eb7dd55e6adc8b43a6cbfba022", func := "corebank/corebanklaw32.AnnuityPayments", spec := "annuityPayments", inPlace := ["math/bits.Add64"], unfollowed := true, recurses := true, named := ["math/bits.divideError", "math/bits.overflowError", "corebank/rounding.steps"], apart := false, laid := [("corebank/rounding.steps", laid_corebank_rounding_steps)] }
def AnnuityPaymentsSaid : Prop := annuityPaymentsRow.holds Tryd.pinned (OpenSpec.ofChange annuityPaymentsSpec)

/-- ITS FALSE NEIGHBOUR: 'it returns false'. Refute it at one input. -/
def annuityPaymentsWrong : ChangeSpec := { name := "annuityPayments", fn := fun _ => fun
  | [d1, d2, d3] => { results := [.lit (.bool false)], args := [d1, d2, d3] }
  | _ => none }
def AnnuityPaymentsWrongFalsely : Prop := annuityPaymentsRow.holds Tryd.pinned (OpenSpec.ofChange annuityPaymentsWrong)

/-- 'corebanklaw32.AnnuityLeast': WHATEVER THE INPUT: true; the input reads as it did. -/
def annuityLeastSpec : ChangeSpec := { name := "annuityLeast", fn := fun _ => fun
  | [d1, d2, d3] => { results := [.lit (.bool true)], args := [d1, d2, d3] }
  | _ => none }
def annuityLeastRow : OpenClaim := { program := "ytgjikcmejglgoaadoor", sum := "3c863a35a592c47a122610888f1e37ab30d687eb7dd55e6adc8b43a6cbfba022", func := "corebank/corebanklaw32.AnnuityLeast", spec := "annuityLeast", inPlace := ["math/bits.Add64"], unfollowed := true, recurses := true, named := ["math/bits.divideError", "math/bits.overflowError", "corebank/rounding.steps"], apart := false, laid := [("corebank/rounding.steps", laid_corebank_rounding_steps)] }
def AnnuityLeastSaid : Prop := annuityLeastRow.holds Tryd.pinned (OpenSpec.ofChange annuityLeastSpec)

/-- ITS FALSE NEIGHBOUR: 'it returns false'. Refute it at one input. -/
def annuityLeastWrong : ChangeSpec := { name := "annuityLeast", fn := fun _ => fun
  | [d1, d2, d3] => { results := [.lit (.bool false)], args := [d1, d2, d3] }
  | _ => none }
def AnnuityLeastWrongFalsely : Prop := annuityLeastRow.holds Tryd.pinned (OpenSpec.ofChange annuityLeastWrong)

/-- 'corebanklaw32.AnnuityFalls': WHATEVER THE INPUT: true; the input reads as it did. -/
def annuityFallsSpec : ChangeSpec := { name := "annuityFalls", fn := fun _ => fun
  | [d1, d2, d3] => { results := [.lit (.bool true)], args := [d1, d2, d3] }
  | _ => none }
def annuityFallsRow : OpenClaim := { program := "ytgjikcmejglgoaadoor", sum := "3c863a35a592c47a122610888f1e37ab30d687eb7dd55e6adc8b43a6cbfba022", func := "corebank/corebanklaw32.AnnuityFalls", spec := "annuityFalls", inPlace := ["math/bits.Add64"], unfollowed := true, recurses := true, named := ["math/bits.divideError", "math/bits.overflowError", "corebank/rounding.steps"], apart := false, laid := [("corebank/rounding.steps", laid_corebank_rounding_steps)] }
def AnnuityFallsSaid : Prop := annuityFallsRow.holds Tryd.pinned (OpenSpec.ofChange annuityFallsSpec)

/-- ITS FALSE NEIGHBOUR: 'it returns false'. Refute it at one input. -/
def annuityFallsWrong : ChangeSpec := { name := "annuityFalls", fn := fun _ => fun
  | [d1, d2, d3] => { results := [.lit (.bool false)], args := [d1, d2, d3] }
  | _ => none }
def AnnuityFallsWrongFalsely : Prop := annuityFallsRow.holds Tryd.pinned (OpenSpec.ofChange annuityFallsWrong)

/-- 'corebanklaw32.AnnuityParts': WHATEVER THE INPUT: true; the input reads as it did. -/
def annuityPartsSpec : ChangeSpec := { name := "annuityParts", fn := fun _ => fun
  | [d1, d2, d3] => { results := [.lit (.bool true)], args := [d1, d2, d3] }
  | _ => none }
def annuityPartsRow : OpenClaim := { program := "ytgjikcmejglgoaadoor", sum := "3c863a35a592c47a122610888f1e37ab30d687eb7dd55e6adc8b43a6cbfba022", func := "corebank/corebanklaw32.AnnuityParts", spec := "annuityParts", inPlace := ["math/bits.Add64"], unfollowed := true, recurses := true, named := ["math/bits.divideError", "math/bits.overflowError", "corebank/rounding.steps"], apart := false, laid := [("corebank/rounding.steps", laid_corebank_rounding_steps)] }
def AnnuityPartsSaid : Prop := annuityPartsRow.holds Tryd.pinned (OpenSpec.ofChange annuityPartsSpec)

/-- ITS FALSE NEIGHBOUR: 'it returns false'. Refute it at one input. -/
def annuityPartsWrong : ChangeSpec := { name := "annuityParts", fn := fun _ => fun
  | [d1, d2, d3] => { results := [.lit (.bool false)], args := [d1, d2, d3] }
  | _ => none }
def AnnuityPartsWrongFalsely : Prop := annuityPartsRow.holds Tryd.pinned (OpenSpec.ofChange annuityPartsWrong)

/- THE SECOND FORM. 'bulk': how many values and letters a reading holds, each counted each time it is reached (what is shared counts as often as it is met; a slice's spare places count too). A statement '..UptoSaid' is the law's where the arguments, and the package variables that the reading takes, are together of bulk at most 1048576: NARROWER than '..Said'. Prove '..Said' where nothing that the law and all that it calls make is longer than what came in: it says more and counts as full. Else prove '..UptoSaid'. A law counts once. -/
mutual
def uptoBulk {H : Type} : DataW H → Nat
  | .lit (.string bytes) => bytes.length + 1
  | .lit _ => 1
  | .nil => 1
  | .ptr d => uptoBulk d + 1
  | .slice elems spare => uptoBulkAll elems + uptoBulkAll spare + 1
  | .agg parts => uptoBulkAll parts + 1
  | .iface _ d => uptoBulk d + 1
  | .map entries => uptoBulkEntries entries + 1
  | .held _ => 1
def uptoBulkAll {H : Type} : List (DataW H) → Nat
  | [] => 0
  | d :: r => uptoBulk d + uptoBulkAll r
def uptoBulkEntries {H : Type} : List (Lit × DataW H) → Nat
  | [] => 0
  | x :: r => uptoBulkEntry x + uptoBulkEntries r
def uptoBulkEntry {H : Type} : Lit × DataW H → Nat
  | (.string bytes, d) => bytes.length + uptoBulk d + 1
  | (_, d) => uptoBulk d + 1
 end
def uptoSmall : (H : Type) → List (DataW H) → Bool := fun _ ds => decide (uptoBulkAll ds ≤ 1048576)
def OpenSpec.upto (s : _root_.Go.ChangeSpec) : _root_.Go.OpenSpec := { _root_.Go.OpenSpec.ofChange s with cond := some uptoSmall }

/-- 'corebanklaw32.AnnuityInterest', WHERE WHAT IT READS IS OF BULK AT MOST 1048576: true; the input reads as it did. -/
def annuityInterestUptoRow : OpenClaim := { program := "ytgjikcmejglgoaadoor", sum := "3c863a35a592c47a122610888f1e37ab30d687eb7dd55e6adc8b43a6cbfba022", func := "corebank/corebanklaw32.AnnuityInterest", spec := "annuityInterest", inPlace := ["math/bits.Add64"], unfollowed := true, recurses := true, named := ["math/bits.divideError", "math/bits.overflowError", "corebank/rounding.steps"], apart := false, laid := [("corebank/rounding.steps", laid_corebank_rounding_steps)], narrowed := true }
def AnnuityInterestUptoSaid : Prop := annuityInterestUptoRow.holds Tryd.pinned (OpenSpec.upto annuityInterestSpec)

/-- 'corebanklaw32.AnnuityRests', WHERE WHAT IT READS IS OF BULK AT MOST 1048576: true; the input reads as it did. -/
def annuityRestsUptoRow : OpenClaim := { program := "ytgjikcmejglgoaadoor", sum := "3c863a35a592c47a122610888f1e37ab30d687eb7dd55e6adc8b43a6cbfba022", func := "corebank/corebanklaw32.AnnuityRests", spec := "annuityRests", inPlace := ["math/bits.Add64"], unfollowed := true, recurses := true, named := ["math/bits.divideError", "math/bits.overflowError", "corebank/rounding.steps"], apart := false, laid := [("corebank/rounding.steps", laid_corebank_rounding_steps)], narrowed := true }
def AnnuityRestsUptoSaid : Prop := annuityRestsUptoRow.holds Tryd.pinned (OpenSpec.upto annuityRestsSpec)

/-- 'corebanklaw32.AnnuityPayments', WHERE WHAT IT READS IS OF BULK AT MOST 1048576: true; the input reads as it did. -/
def annuityPaymentsUptoRow : OpenClaim := { program := "ytgjikcmejglgoaadoor", sum := "3c863a35a592c47a122610888f1e37ab30d687eb7dd55e6adc8b43a6cbfba022", func := "corebank/corebanklaw32.AnnuityPayments", spec := "annuityPayments", inPlace := ["math/bits.Add64"], unfollowed := true, recurses := true, named := ["math/bits.divideError", "math/bits.overflowError", "corebank/rounding.steps"], apart := false, laid := [("corebank/rounding.steps", laid_corebank_rounding_steps)], narrowed := true }
def AnnuityPaymentsUptoSaid : Prop := annuityPaymentsUptoRow.holds Tryd.pinned (OpenSpec.upto annuityPaymentsSpec)

/-- 'corebanklaw32.AnnuityLeast', WHERE WHAT IT READS IS OF BULK AT MOST 1048576: true; the input reads as it did. -/
def annuityLeastUptoRow : OpenClaim := { program := "ytgjikcmejglgoaadoor", sum := "3c863a35a592c47a122610888f1e37ab30d687eb7dd55e6adc8b43a6cbfba022", func := "corebank/corebanklaw32.AnnuityLeast", spec := "annuityLeast", inPlace := ["math/bits.Add64"], unfollowed := true, recurses := true, named := ["math/bits.divideError", "math/bits.overflowError", "corebank/rounding.steps"], apart := false, laid := [("corebank/rounding.steps", laid_corebank_rounding_steps)], narrowed := true }
def AnnuityLeastUptoSaid : Prop := annuityLeastUptoRow.holds Tryd.pinned (OpenSpec.upto annuityLeastSpec)

/-- 'corebanklaw32.AnnuityFalls', WHERE WHAT IT READS IS OF BULK AT MOST 1048576: true; the input reads as it did. -/
def annuityFallsUptoRow : OpenClaim := { program := "ytgjikcmejglgoaadoor", sum := "3c863a35a592c47a122610888f1e37ab30d687eb7dd55e6adc8b43a6cbfba022", func := "corebank/corebanklaw32.AnnuityFalls", spec := "annuityFalls", inPlace := ["math/bits.Add64"], unfollowed := true, recurses := true, named := ["math/bits.divideError", "math/bits.overflowError", "corebank/rounding.steps"], apart := false, laid := [("corebank/rounding.steps", laid_corebank_rounding_steps)], narrowed := true }
def AnnuityFallsUptoSaid : Prop := annuityFallsUptoRow.holds Tryd.pinned (OpenSpec.upto annuityFallsSpec)

/-- 'corebanklaw32.AnnuityParts', WHERE WHAT IT READS IS OF BULK AT MOST 1048576: true; the input reads as it did. -/
def annuityPartsUptoRow : OpenClaim := { program := "ytgjikcmejglgoaadoor", sum := "3c863a35a592c47a122610888f1e37ab30d687eb7dd55e6adc8b43a6cbfba022", func := "corebank/corebanklaw32.AnnuityParts", spec := "annuityParts", inPlace := ["math/bits.Add64"], unfollowed := true, recurses := true, named := ["math/bits.divideError", "math/bits.overflowError", "corebank/rounding.steps"], apart := false, laid := [("corebank/rounding.steps", laid_corebank_rounding_steps)], narrowed := true }
def AnnuityPartsUptoSaid : Prop := annuityPartsUptoRow.holds Tryd.pinned (OpenSpec.upto annuityPartsSpec)

end Rows
end Go.Proofs.YtgjikcmejglgoaaDoor
