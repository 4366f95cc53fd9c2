/-
  NARROWER THAN 'FOR EVERY INPUT', by the rows' own cells (each row's printed sentence says how): ArrearsCounts: laid · ArrearsPenalties: laid · ArrearsCharges: laid · ArrearsJoins: laid · ArrearsAge: laid.
  DERIVED. THE GIVEN ROWS OF THIS SEAT. 5 by the template 'for every input the law returns true; each argument reads behind the call as it read before'; 0 by the template 'total and deterministic' (their statements: YtjmgahdjojdanaaDoorTotals.lean).
  GIVEN WITH THE SEED: the statements are not yours to turn. If you find one false, say at which input.
  Laid BY PROGRAM, IN A SANDBOX (cutbox-rows.mjs): the forced cells as the released guide's own fill.sh prints them over the translation 7d96bb31eda2ade7… (all of the seat's roots in one cut). By AI agents, Wed Nov 11 2026. No macro, syntax, notation, axiom, sorry.
-/
import Derived.Test.YtjmgahdjojdanaaDoorChecked
import GoSem.Claim
import GoSem.ClaimJoined
import GoSem.ClaimMapViews
import Derived.JoinedTies
import Derived.KernelRfl
namespace Go.Proofs.YtjmgahdjojdanaaDoor
/- THE CELL 'sum', in the pinned program and in every row, IS THE sha256 OF THE DUMP (.gsa) THAT YtjmgahdjojdanaaDoorProg.lean LOADS. Nothing in Lean hashes anything: it is a label: what it is worth is what the hold of that sum in a sandbox is worth. -/
noncomputable def Tryd.pinned : Pinned := { name := "ytjmgahdjojdanaadoor", sum := "7d96bb31eda2ade7e248453f0eb8f168177ffa671034ceaac32feeb1adb4dd11", checked := Tryd.checked }
namespace Rows
def none {H : Type} : Left H := { results := [], args := [] }

/- WHAT THE LISTED PACKAGE-LEVEL VARIABLES READ AS WHEN THE CALL BEGINS. Each datum BY PROGRAM (the guide's laid-datum.mjs) off the statement by which the dump's own 'gosem.cut.vars' lays the variable. In a bare row this is a premise. The card (YtjmgahdjojdanaaDoorCards.lean) ties it to the program's text. -/
def laid_corebank_rounding_steps {H : Type} : DataW H := .agg [.agg [.lit (.int .i64 0), .lit (.int .i64 0)], .agg [.lit (.int .i64 1), .lit (.int .i64 0)], .agg [.lit (.int .i64 0), .lit (.int .i64 1)], .agg [.lit (.int .i64 0), .lit (.int .i64 0)], .agg [.lit (.int .i64 1), .lit (.int .i64 1)]]
def laid_corebank_arrears_classes {H : Type} : DataW H := .agg [.lit (.int .i64 0), .lit (.int .i64 30), .lit (.int .i64 60), .lit (.int .i64 90)]

/-- 'corebanklaw37.ArrearsCounts': WHATEVER THE INPUT: true; the input reads as it did. -/
def arrearsCountsSpec : ChangeSpec := { name := "arrearsCounts", fn := fun _ => fun
  | [d1, d2, d3] => { results := [.lit (.bool true)], args := [d1, d2, d3] }
  | _ => none }
def arrearsCountsRow : OpenClaim := { program := "ytjmgahdjojdanaadoor", sum := "7d96bb31eda2ade7e248453f0eb8f168177ffa671034ceaac32feeb1adb4dd11", func := "corebank/corebanklaw37.ArrearsCounts", spec := "arrearsCounts", inPlace := ["math/bits.Add64", "math/bits.Sub64"], unfollowed := true, recurses := true, named := ["corebank/arrears.classes", "math/bits.divideError", "math/bits.overflowError", "corebank/rounding.steps"], apart := false, laid := [("corebank/rounding.steps", laid_corebank_rounding_steps), ("corebank/arrears.classes", laid_corebank_arrears_classes)] }
def ArrearsCountsSaid : Prop := arrearsCountsRow.holds Tryd.pinned (OpenSpec.ofChange arrearsCountsSpec)

/-- ITS FALSE NEIGHBOUR: 'it returns false'. Refute it at one input. -/
def arrearsCountsWrong : ChangeSpec := { name := "arrearsCounts", fn := fun _ => fun
  | [d1, d2, d3] => { results := [.lit (.bool false)], args := [d1, d2, d3] }
  | _ => none }
def ArrearsCountsWrongFalsely : Prop := arrearsCountsRow.holds Tryd.pinned (OpenSpec.ofChange arrearsCountsWrong)

/-- 'corebanklaw37.ArrearsPenalties': WHATEVER THE INPUT: true; the input reads as it did. -/
def arrearsPenaltiesSpec : ChangeSpec := { name := "arrearsPenalties", fn := fun _ => fun
  | [d1, d2, d3] => { results := [.lit (.bool true)], args := [d1, d2, d3] }
  | _ => none }
def arrearsPenaltiesRow : OpenClaim := { program := "ytjmgahdjojdanaadoor", sum := "7d96bb31eda2ade7e248453f0eb8f168177ffa671034ceaac32feeb1adb4dd11", func := "corebank/corebanklaw37.ArrearsPenalties", spec := "arrearsPenalties", inPlace := ["math/bits.Add64", "math/bits.Sub64"], unfollowed := true, recurses := true, named := ["math/bits.divideError", "math/bits.overflowError", "corebank/rounding.steps", "corebank/arrears.classes"], apart := false, laid := [("corebank/rounding.steps", laid_corebank_rounding_steps), ("corebank/arrears.classes", laid_corebank_arrears_classes)] }
def ArrearsPenaltiesSaid : Prop := arrearsPenaltiesRow.holds Tryd.pinned (OpenSpec.ofChange arrearsPenaltiesSpec)

/-- ITS FALSE NEIGHBOUR: 'it returns false'. Refute it at one input. -/
def arrearsPenaltiesWrong : ChangeSpec := { name := "arrearsPenalties", fn := fun _ => fun
  | [d1, d2, d3] => { results := [.lit (.bool false)], args := [d1, d2, d3] }
  | _ => none }
def ArrearsPenaltiesWrongFalsely : Prop := arrearsPenaltiesRow.holds Tryd.pinned (OpenSpec.ofChange arrearsPenaltiesWrong)

/-- 'corebanklaw37.ArrearsCharges': WHATEVER THE INPUT: true; the input reads as it did. -/
def arrearsChargesSpec : ChangeSpec := { name := "arrearsCharges", fn := fun _ => fun
  | [d1, d2] => { results := [.lit (.bool true)], args := [d1, d2] }
  | _ => none }
def arrearsChargesRow : OpenClaim := { program := "ytjmgahdjojdanaadoor", sum := "7d96bb31eda2ade7e248453f0eb8f168177ffa671034ceaac32feeb1adb4dd11", func := "corebank/corebanklaw37.ArrearsCharges", spec := "arrearsCharges", inPlace := ["math/bits.Add64", "math/bits.Sub64"], unfollowed := true, recurses := true, named := ["math/bits.divideError", "math/bits.overflowError", "corebank/rounding.steps", "corebank/arrears.classes"], apart := false, laid := [("corebank/rounding.steps", laid_corebank_rounding_steps), ("corebank/arrears.classes", laid_corebank_arrears_classes)] }
def ArrearsChargesSaid : Prop := arrearsChargesRow.holds Tryd.pinned (OpenSpec.ofChange arrearsChargesSpec)

/-- ITS FALSE NEIGHBOUR: 'it returns false'. Refute it at one input. -/
def arrearsChargesWrong : ChangeSpec := { name := "arrearsCharges", fn := fun _ => fun
  | [d1, d2] => { results := [.lit (.bool false)], args := [d1, d2] }
  | _ => none }
def ArrearsChargesWrongFalsely : Prop := arrearsChargesRow.holds Tryd.pinned (OpenSpec.ofChange arrearsChargesWrong)

/-- 'corebanklaw37.ArrearsJoins': WHATEVER THE INPUT: true; the input reads as it did. -/
def arrearsJoinsSpec : ChangeSpec := { name := "arrearsJoins", fn := fun _ => fun
  | [d1, d2] => { results := [.lit (.bool true)], args := [d1, d2] }
  | _ => none }
def arrearsJoinsRow : OpenClaim := { program := "ytjmgahdjojdanaadoor", sum := "7d96bb31eda2ade7e248453f0eb8f168177ffa671034ceaac32feeb1adb4dd11", func := "corebank/corebanklaw37.ArrearsJoins", spec := "arrearsJoins", inPlace := ["math/bits.Add64", "math/bits.Sub64"], unfollowed := true, recurses := true, named := ["math/bits.divideError", "math/bits.overflowError", "corebank/rounding.steps", "corebank/arrears.classes"], apart := false, laid := [("corebank/rounding.steps", laid_corebank_rounding_steps), ("corebank/arrears.classes", laid_corebank_arrears_classes)] }
def ArrearsJoinsSaid : Prop := arrearsJoinsRow.holds Tryd.pinned (OpenSpec.ofChange arrearsJoinsSpec)

/-- ITS FALSE NEIGHBOUR: 'it returns false'. Refute it at one input. -/
def arrearsJoinsWrong : ChangeSpec := { name := "arrearsJoins", fn := fun _ => fun
  | [d1, d2] => { results := [.lit (.bool false)], args := [d1, d2] }
  | _ => none }
def ArrearsJoinsWrongFalsely : Prop := arrearsJoinsRow.holds Tryd.pinned (OpenSpec.ofChange arrearsJoinsWrong)

/-- 'corebanklaw37.ArrearsAge': WHATEVER THE INPUT: true; the input reads as it did. -/
def arrearsAgeSpec : ChangeSpec := { name := "arrearsAge", fn := fun _ => fun
  | [d1, d2] => { results := [.lit (.bool true)], args := [d1, d2] }
  | _ => none }
def arrearsAgeRow : OpenClaim := { program := "ytjmgahdjojdanaadoor", sum := "7d96bb31eda2ade7e248453f0eb8f168177ffa671034ceaac32feeb1adb4dd11", func := "corebank/corebanklaw37.ArrearsAge", spec := "arrearsAge", inPlace := ["math/bits.Add64", "math/bits.Sub64"], unfollowed := true, recurses := true, named := ["math/bits.divideError", "math/bits.overflowError", "corebank/rounding.steps", "corebank/arrears.classes"], apart := false, laid := [("corebank/rounding.steps", laid_corebank_rounding_steps), ("corebank/arrears.classes", laid_corebank_arrears_classes)] }
def ArrearsAgeSaid : Prop := arrearsAgeRow.holds Tryd.pinned (OpenSpec.ofChange arrearsAgeSpec)

/-- ITS FALSE NEIGHBOUR: 'it returns false'. Refute it at one input. -/
def arrearsAgeWrong : ChangeSpec := { name := "arrearsAge", fn := fun _ => fun
  | [d1, d2] => { results := [.lit (.bool false)], args := [d1, d2] }
  | _ => none }
def ArrearsAgeWrongFalsely : Prop := arrearsAgeRow.holds Tryd.pinned (OpenSpec.ofChange arrearsAgeWrong)

/- THE SECOND FORM. 'bulk': how many values and letters a reading holds, each counted each time it is reached (what is shared counts as often as it is met; a slice's spare places count too). A statement '..UptoSaid' is the law's where the arguments, and the package variables that the reading takes, are together of bulk at most 1048576: NARROWER than '..Said'. Prove '..Said' where nothing that the law and all that it calls make is longer than what came in: it says more and counts as full. Else prove '..UptoSaid'. A law counts once. -/
mutual
def uptoBulk {H : Type} : DataW H → Nat
  | .lit (.string bytes) => bytes.length + 1
  | .lit _ => 1
  | .nil => 1
  | .ptr d => uptoBulk d + 1
  | .slice elems spare => uptoBulkAll elems + uptoBulkAll spare + 1
  | .agg parts => uptoBulkAll parts + 1
  | .iface _ d => uptoBulk d + 1
  | .map entries => uptoBulkEntries entries + 1
  | .held _ => 1
def uptoBulkAll {H : Type} : List (DataW H) → Nat
  | [] => 0
  | d :: r => uptoBulk d + uptoBulkAll r
def uptoBulkEntries {H : Type} : List (Lit × DataW H) → Nat
  | [] => 0
  | x :: r => uptoBulkEntry x + uptoBulkEntries r
def uptoBulkEntry {H : Type} : Lit × DataW H → Nat
  | (.string bytes, d) => bytes.length + uptoBulk d + 1
  | (_, d) => uptoBulk d + 1
 end
def uptoSmall : (H : Type) → List (DataW H) → Bool := fun _ ds => decide (uptoBulkAll ds ≤ 1048576)
def OpenSpec.upto (s : _root_.Go.ChangeSpec) : _root_.Go.OpenSpec := { _root_.Go.OpenSpec.ofChange s with cond := some uptoSmall }

/-- 'corebanklaw37.ArrearsCounts', WHERE WHAT IT READS IS OF BULK AT MOST 1048576: true; the input reads as it did. -/
def arrearsCountsUptoRow : OpenClaim := { program := "ytjmgahdjojdanaadoor", sum := "7d96bb31eda2ade7e248453f0eb8f168177ffa671034ceaac32feeb1adb4dd11", func := "corebank/corebanklaw37.ArrearsCounts", spec := "arrearsCounts", inPlace := ["math/bits.Add64", "math/bits.Sub64"], unfollowed := true, recurses := true, named := ["corebank/arrears.classes", "math/bits.divideError", "math/bits.overflowError", "corebank/rounding.steps"], apart := false, laid := [("corebank/rounding.steps", laid_corebank_rounding_steps), ("corebank/arrears.classes", laid_corebank_arrears_classes)], narrowed := true }
def ArrearsCountsUptoSaid : Prop := arrearsCountsUptoRow.holds Tryd.pinned (OpenSpec.upto arrearsCountsSpec)

/-- 'corebanklaw37.ArrearsPenalties', WHERE WHAT IT READS IS OF BULK AT MOST 1048576: true; the input reads as it did. -/
def arrearsPenaltiesUptoRow : OpenClaim := { program := "ytjmgahdjojdanaadoor", sum := "7d96bb31eda2ade7e248453f0eb8f168177ffa671034ceaac32feeb1adb4dd11", func := "corebank/corebanklaw37.ArrearsPenalties", spec := "arrearsPenalties", inPlace := ["math/bits.Add64", "math/bits.Sub64"], unfollowed := true, recurses := true, named := ["math/bits.divideError", "math/bits.overflowError", "corebank/rounding.steps", "corebank/arrears.classes"], apart := false, laid := [("corebank/rounding.steps", laid_corebank_rounding_steps), ("corebank/arrears.classes", laid_corebank_arrears_classes)], narrowed := true }
def ArrearsPenaltiesUptoSaid : Prop := arrearsPenaltiesUptoRow.holds Tryd.pinned (OpenSpec.upto arrearsPenaltiesSpec)

/-- 'corebanklaw37.ArrearsCharges', WHERE WHAT IT READS IS OF BULK AT MOST 1048576: true; the input reads as it did. -/
def arrearsChargesUptoRow : OpenClaim := { program := "ytjmgahdjojdanaadoor", sum := "7d96bb31eda2ade7e248453f0eb8f168177ffa671034ceaac32feeb1adb4dd11", func := "corebank/corebanklaw37.ArrearsCharges", spec := "arrearsCharges", inPlace := ["math/bits.Add64", "math/bits.Sub64"], unfollowed := true, recurses := true, named := ["math/bits.divideError", "math/bits.overflowError", "corebank/rounding.steps", "corebank/arrears.classes"], apart := false, laid := [("corebank/rounding.steps", laid_corebank_rounding_steps), ("corebank/arrears.classes", laid_corebank_arrears_classes)], narrowed := true }
def ArrearsChargesUptoSaid : Prop := arrearsChargesUptoRow.holds Tryd.pinned (OpenSpec.upto arrearsChargesSpec)

/-- 'corebanklaw37.ArrearsJoins', WHERE WHAT IT READS IS OF BULK AT MOST 1048576: true; the input reads as it did. -/
def arrearsJoinsUptoRow : OpenClaim := { program := "ytjmgahdjojdanaadoor", sum := "7d96bb31eda2ade7e248453f0eb8f168177ffa671034ceaac32feeb1adb4dd11", func := "corebank/corebanklaw37.ArrearsJoins", spec := "arrearsJoins", inPlace := ["math/bits.Add64", "math/bits.Sub64"], unfollowed := true, recurses := true, named := ["math/bits.divideError", "math/bits.overflowError", "corebank/rounding.steps", "corebank/arrears.classes"], apart := false, laid := [("corebank/rounding.steps", laid_corebank_rounding_steps), ("corebank/arrears.classes", laid_corebank_arrears_classes)], narrowed := true }
def ArrearsJoinsUptoSaid : Prop := arrearsJoinsUptoRow.holds Tryd.pinned (OpenSpec.upto arrearsJoinsSpec)

/-- 'corebanklaw37.ArrearsAge', WHERE WHAT IT READS IS OF BULK AT MOST 1048576: true; the input reads as it did. -/
def arrearsAgeUptoRow : OpenClaim := { program := "ytjmgahdjojdanaadoor", sum := "7d96bb31eda2ade7e248453f0eb8f168177ffa671034ceaac32feeb1adb4dd11", func := "corebank/corebanklaw37.ArrearsAge", spec := "arrearsAge", inPlace := ["math/bits.Add64", "math/bits.Sub64"], unfollowed := true, recurses := true, named := ["math/bits.divideError", "math/bits.overflowError", "corebank/rounding.steps", "corebank/arrears.classes"], apart := false, laid := [("corebank/rounding.steps", laid_corebank_rounding_steps), ("corebank/arrears.classes", laid_corebank_arrears_classes)], narrowed := true }
def ArrearsAgeUptoSaid : Prop := arrearsAgeUptoRow.holds Tryd.pinned (OpenSpec.upto arrearsAgeSpec)

end Rows
end Go.Proofs.YtjmgahdjojdanaaDoor
