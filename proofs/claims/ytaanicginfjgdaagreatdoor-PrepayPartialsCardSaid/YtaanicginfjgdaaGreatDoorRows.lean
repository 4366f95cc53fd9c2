/-
  NARROWER THAN 'FOR EVERY INPUT', by the rows' own cells (each row's printed sentence says how): PrepayQuotes: laid · PrepayFulls: laid · PrepayPartials: laid.
  DERIVED. THE GIVEN ROWS OF THIS SEAT. 3 by the template 'for every input the law returns true; each argument reads behind the call as it read before'; 0 by the template 'total and deterministic' (their statements: YtaanicginfjgdaaGreatDoorTotals.lean).
  GIVEN WITH THE SEED: the statements are not yours to turn. If you find one false, say at which input.
  Laid BY PROGRAM, IN A SANDBOX (cutbox-rows.mjs): the forced cells as the released guide's own fill.sh prints them over the translation 029d34a1cb702bde… (all of the seat's roots in one cut). By AI agents, Wed Nov 11 2026. No macro, syntax, notation, axiom, sorry.
-/
import Derived.Test.YtaanicginfjgdaaGreatDoorChecked
import GoSem.Claim
import GoSem.ClaimJoined
import GoSem.ClaimMapViews
import Derived.JoinedTies
import Derived.KernelRfl
namespace Go.Proofs.YtaanicginfjgdaaGreatDoor
/- THE CELL 'sum', in the pinned program and in every row, IS THE sha256 OF THE DUMP (.gsa) THAT YtaanicginfjgdaaGreatDoorProg.lean LOADS. Nothing in Lean hashes anything: it is a label: what it is worth is what the hold of that sum in a sandbox is worth. -/
noncomputable def Tryz.pinned : Pinned := { name := "ytaanicginfjgdaagreatdoor", sum := "029d34a1cb702bde6bdee66ea3230dcf6d682b173dee2cfa1e53a5febea8cafa", checked := Tryz.checked }
namespace Rows
def none {H : Type} : Left H := { results := [], args := [] }

/- WHAT THE LISTED PACKAGE-LEVEL VARIABLES READ AS WHEN THE CALL BEGINS. Each datum BY PROGRAM (the guide's laid-datum.mjs) off the statement by which the dump's own 'gosem.cut.vars' lays the variable. In a bare row this is a premise. The card (YtaanicginfjgdaaGreatDoorCards.lean) ties it to the program's text. -/
def laid_corebank_rounding_steps {H : Type} : DataW H := .agg [.agg [.lit (.int .i64 0), .lit (.int .i64 0)], .agg [.lit (.int .i64 1), .lit (.int .i64 0)], .agg [.lit (.int .i64 0), .lit (.int .i64 1)], .agg [.lit (.int .i64 0), .lit (.int .i64 0)], .agg [.lit (.int .i64 1), .lit (.int .i64 1)]]

/-- 'corebanklaw35.PrepayQuotes': WHATEVER THE INPUT: true; the input reads as it did. -/
def prepayQuotesSpec : ChangeSpec := { name := "prepayQuotes", fn := fun _ => fun
  | [d1, d2, d3] => { results := [.lit (.bool true)], args := [d1, d2, d3] }
  | _ => none }
def prepayQuotesRow : OpenClaim := { program := "ytaanicginfjgdaagreatdoor", sum := "029d34a1cb702bde6bdee66ea3230dcf6d682b173dee2cfa1e53a5febea8cafa", func := "corebank/corebanklaw35.PrepayQuotes", spec := "prepayQuotes", inPlace := ["math/bits.Add64"], unfollowed := true, recurses := true, named := ["math/bits.divideError", "math/bits.overflowError", "corebank/rounding.steps"], apart := false, laid := [("corebank/rounding.steps", laid_corebank_rounding_steps)] }
def PrepayQuotesSaid : Prop := prepayQuotesRow.holds Tryz.pinned (OpenSpec.ofChange prepayQuotesSpec)

/-- ITS FALSE NEIGHBOUR: 'it returns false'. Refute it at one input. -/
def prepayQuotesWrong : ChangeSpec := { name := "prepayQuotes", fn := fun _ => fun
  | [d1, d2, d3] => { results := [.lit (.bool false)], args := [d1, d2, d3] }
  | _ => none }
def PrepayQuotesWrongFalsely : Prop := prepayQuotesRow.holds Tryz.pinned (OpenSpec.ofChange prepayQuotesWrong)

/-- 'corebanklaw35.PrepayFulls': WHATEVER THE INPUT: true; the input reads as it did. -/
def prepayFullsSpec : ChangeSpec := { name := "prepayFulls", fn := fun _ => fun
  | [d1, d2] => { results := [.lit (.bool true)], args := [d1, d2] }
  | _ => none }
def prepayFullsRow : OpenClaim := { program := "ytaanicginfjgdaagreatdoor", sum := "029d34a1cb702bde6bdee66ea3230dcf6d682b173dee2cfa1e53a5febea8cafa", func := "corebank/corebanklaw35.PrepayFulls", spec := "prepayFulls", inPlace := ["math/bits.Add64"], unfollowed := true, recurses := true, named := ["math/bits.divideError", "math/bits.overflowError", "corebank/rounding.steps"], apart := false, laid := [("corebank/rounding.steps", laid_corebank_rounding_steps)] }
def PrepayFullsSaid : Prop := prepayFullsRow.holds Tryz.pinned (OpenSpec.ofChange prepayFullsSpec)

/-- ITS FALSE NEIGHBOUR: 'it returns false'. Refute it at one input. -/
def prepayFullsWrong : ChangeSpec := { name := "prepayFulls", fn := fun _ => fun
  | [d1, d2] => { results := [.lit (.bool false)], args := [d1, d2] }
  | _ => none }
def PrepayFullsWrongFalsely : Prop := prepayFullsRow.holds Tryz.pinned (OpenSpec.ofChange prepayFullsWrong)

/-- 'corebanklaw35.PrepayPartials': WHATEVER THE INPUT: true; the input reads as it did. -/
def prepayPartialsSpec : ChangeSpec := { name := "prepayPartials", fn := fun _ => fun
  | [d1, d2, d3] => { results := [.lit (.bool true)], args := [d1, d2, d3] }
  | _ => none }
def prepayPartialsRow : OpenClaim := { program := "ytaanicginfjgdaagreatdoor", sum := "029d34a1cb702bde6bdee66ea3230dcf6d682b173dee2cfa1e53a5febea8cafa", func := "corebank/corebanklaw35.PrepayPartials", spec := "prepayPartials", inPlace := ["math/bits.Add64"], unfollowed := true, recurses := true, named := ["math/bits.divideError", "math/bits.overflowError", "corebank/rounding.steps"], apart := false, laid := [("corebank/rounding.steps", laid_corebank_rounding_steps)] }
def PrepayPartialsSaid : Prop := prepayPartialsRow.holds Tryz.pinned (OpenSpec.ofChange prepayPartialsSpec)

/-- ITS FALSE NEIGHBOUR: 'it returns false'. Refute it at one input. -/
def prepayPartialsWrong : ChangeSpec := { name := "prepayPartials", fn := fun _ => fun
  | [d1, d2, d3] => { results := [.lit (.bool false)], args := [d1, d2, d3] }
  | _ => none }
def PrepayPartialsWrongFalsely : Prop := prepayPartialsRow.holds Tryz.pinned (OpenSpec.ofChange prepayPartialsWrong)

/- THE SECOND FORM. 'bulk': how many values and letters a reading holds, each counted each time it is reached (what is shared counts as often as it is met; a slice's spare places count too). A statement '..UptoSaid' is the law's where the arguments, and the package variables that the reading takes, are together of bulk at most 1048576: NARROWER than '..Said'. Prove '..Said' where nothing that the law and all that it calls make is longer than what came in: it says more and counts as full. Else prove '..UptoSaid'. A law counts once. -/
mutual
def uptoBulk {H : Type} : DataW H → Nat
  | .lit (.string bytes) => bytes.length + 1
  | .lit _ => 1
  | .nil => 1
  | .ptr d => uptoBulk d + 1
  | .slice elems spare => uptoBulkAll elems + uptoBulkAll spare + 1
  | .agg parts => uptoBulkAll parts + 1
  | .iface _ d => uptoBulk d + 1
  | .map entries => uptoBulkEntries entries + 1
  | .held _ => 1
def uptoBulkAll {H : Type} : List (DataW H) → Nat
  | [] => 0
  | d :: r => uptoBulk d + uptoBulkAll r
def uptoBulkEntries {H : Type} : List (Lit × DataW H) → Nat
  | [] => 0
  | x :: r => uptoBulkEntry x + uptoBulkEntries r
def uptoBulkEntry {H : Type} : Lit × DataW H → Nat
  | (.string bytes, d) => bytes.length + uptoBulk d + 1
  | (_, d) => uptoBulk d + 1
 end
def uptoSmall : (H : Type) → List (DataW H) → Bool := fun _ ds => decide (uptoBulkAll ds ≤ 1048576)
def OpenSpec.upto (s : _root_.Go.ChangeSpec) : _root_.Go.OpenSpec := { _root_.Go.OpenSpec.ofChange s with cond := some uptoSmall }

/-- 'corebanklaw35.PrepayQuotes', WHERE WHAT IT READS IS OF BULK AT MOST 1048576: true; the input reads as it did. -/
def prepayQuotesUptoRow : OpenClaim := { program := "ytaanicginfjgdaagreatdoor", sum := "029d34a1cb702bde6bdee66ea3230dcf6d682b173dee2cfa1e53a5febea8cafa", func := "corebank/corebanklaw35.PrepayQuotes", spec := "prepayQuotes", inPlace := ["math/bits.Add64"], unfollowed := true, recurses := true, named := ["math/bits.divideError", "math/bits.overflowError", "corebank/rounding.steps"], apart := false, laid := [("corebank/rounding.steps", laid_corebank_rounding_steps)], narrowed := true }
def PrepayQuotesUptoSaid : Prop := prepayQuotesUptoRow.holds Tryz.pinned (OpenSpec.upto prepayQuotesSpec)

/-- 'corebanklaw35.PrepayFulls', WHERE WHAT IT READS IS OF BULK AT MOST 1048576: true; the input reads as it did. -/
def prepayFullsUptoRow : OpenClaim := { program := "ytaanicginfjgdaagreatdoor", sum := "029d34a1cb702bde6bdee66ea3230dcf6d682b173dee2cfa1e53a5febea8cafa", func := "corebank/corebanklaw35.PrepayFulls", spec := "prepayFulls", inPlace := ["math/bits.Add64"], unfollowed := true, recurses := true, named := ["math/bits.divideError", "math/bits.overflowError", "corebank/rounding.steps"], apart := false, laid := [("corebank/rounding.steps", laid_corebank_rounding_steps)], narrowed := true }
def PrepayFullsUptoSaid : Prop := prepayFullsUptoRow.holds Tryz.pinned (OpenSpec.upto prepayFullsSpec)

/-- 'corebanklaw35.PrepayPartials', WHERE WHAT IT READS IS OF BULK AT MOST 1048576: true; the input reads as it did. -/
def prepayPartialsUptoRow : OpenClaim := { program := "ytaanicginfjgdaagreatdoor", sum := "029d34a1cb702bde6bdee66ea3230dcf6d682b173dee2cfa1e53a5febea8cafa", func := "corebank/corebanklaw35.PrepayPartials", spec := "prepayPartials", inPlace := ["math/bits.Add64"], unfollowed := true, recurses := true, named := ["math/bits.divideError", "math/bits.overflowError", "corebank/rounding.steps"], apart := false, laid := [("corebank/rounding.steps", laid_corebank_rounding_steps)], narrowed := true }
def PrepayPartialsUptoSaid : Prop := prepayPartialsUptoRow.holds Tryz.pinned (OpenSpec.upto prepayPartialsSpec)

end Rows
end Go.Proofs.YtaanicginfjgdaaGreatDoor
