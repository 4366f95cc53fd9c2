/-
  NARROWER THAN 'FOR EVERY INPUT', by the rows' own cells (each row's printed sentence says how): RoundingDivides: laid · RoundingAmounts: laid · RoundingPercents: laid · RoundingParts: laid · RoundingSplits: laid · RoundingSteps: laid · RoundingNear: laid · RoundingMirrors: laid.
  DERIVED. THE GIVEN ROWS OF THIS SEAT. 8 by the template 'for every input the law returns true; each argument reads behind the call as it read before'; 0 by the template 'total and deterministic' (their statements: YtieklkpjlbpnbaaDoorTotals.lean).
  GIVEN WITH THE SEED: the statements are not yours to turn. If you find one false, say at which input.
  Laid BY PROGRAM, IN A SANDBOX (cutbox-rows.mjs): the forced cells as the released guide's own fill.sh prints them over the translation 580e735484087bbb… (all of the seat's roots in one cut). By AI agents, Wed Nov 11 2026. No macro, syntax, notation, axiom, sorry.
-/
import Derived.Test.YtieklkpjlbpnbaaDoorChecked
import GoSem.Claim
import GoSem.ClaimJoined
import GoSem.ClaimMapViews
import Derived.JoinedTies
import Derived.KernelRfl
namespace Go.Proofs.YtieklkpjlbpnbaaDoor
/- THE CELL 'sum', in the pinned program and in every row, IS THE sha256 OF THE DUMP (.gsa) THAT YtieklkpjlbpnbaaDoorProg.lean LOADS. Nothing in Lean hashes anything: it is a label: what it is worth is what the hold of that sum in a sandbox is worth. -/
noncomputable def Tryd.pinned : Pinned := { name := "ytieklkpjlbpnbaadoor", sum := "580e735484087bbb1d5357f441eaafc11d014f3a098f005906bd351dfcb77040", checked := Tryd.checked }
namespace Rows
def none {H : Type} : Left H := { results := [], args := [] }

/- WHAT THE LISTED PACKAGE-LEVEL VARIABLES READ AS WHEN THE CALL BEGINS. Each datum BY PROGRAM (the guide's laid-datum.mjs) off the statement by which the dump's own 'gosem.cut.vars' lays the variable. In a bare row this is a premise. The card (YtieklkpjlbpnbaaDoorCards.lean) ties it to the program's text. -/
def laid_corebank_rounding_steps {H : Type} : DataW H := .agg [.agg [.lit (.int .i64 0), .lit (.int .i64 0)], .agg [.lit (.int .i64 1), .lit (.int .i64 0)], .agg [.lit (.int .i64 0), .lit (.int .i64 1)], .agg [.lit (.int .i64 0), .lit (.int .i64 0)], .agg [.lit (.int .i64 1), .lit (.int .i64 1)]]

/-- 'corebanklaw02.RoundingDivides': WHATEVER THE INPUT: true; the input reads as it did. -/
def roundingDividesSpec : ChangeSpec := { name := "roundingDivides", fn := fun _ => fun
  | [d1, d2, d3] => { results := [.lit (.bool true)], args := [d1, d2, d3] }
  | _ => none }
def roundingDividesRow : OpenClaim := { program := "ytieklkpjlbpnbaadoor", sum := "580e735484087bbb1d5357f441eaafc11d014f3a098f005906bd351dfcb77040", func := "corebank/corebanklaw02.RoundingDivides", spec := "roundingDivides", inPlace := ["math/bits.Add64", "math/bits.Sub64"], named := ["math/bits.divideError", "math/bits.overflowError", "corebank/rounding.steps"], apart := false, laid := [("corebank/rounding.steps", laid_corebank_rounding_steps)] }
def RoundingDividesSaid : Prop := roundingDividesRow.holds Tryd.pinned (OpenSpec.ofChange roundingDividesSpec)

/-- ITS FALSE NEIGHBOUR: 'it returns false'. Refute it at one input. -/
def roundingDividesWrong : ChangeSpec := { name := "roundingDivides", fn := fun _ => fun
  | [d1, d2, d3] => { results := [.lit (.bool false)], args := [d1, d2, d3] }
  | _ => none }
def RoundingDividesWrongFalsely : Prop := roundingDividesRow.holds Tryd.pinned (OpenSpec.ofChange roundingDividesWrong)

/-- 'corebanklaw02.RoundingAmounts': WHATEVER THE INPUT: true; the input reads as it did. -/
def roundingAmountsSpec : ChangeSpec := { name := "roundingAmounts", fn := fun _ => fun
  | [d1, d2] => { results := [.lit (.bool true)], args := [d1, d2] }
  | _ => none }
def roundingAmountsRow : OpenClaim := { program := "ytieklkpjlbpnbaadoor", sum := "580e735484087bbb1d5357f441eaafc11d014f3a098f005906bd351dfcb77040", func := "corebank/corebanklaw02.RoundingAmounts", spec := "roundingAmounts", inPlace := ["math/bits.Add64", "math/bits.Sub64"], named := ["math/bits.divideError", "math/bits.overflowError", "corebank/rounding.steps"], apart := false, laid := [("corebank/rounding.steps", laid_corebank_rounding_steps)] }
def RoundingAmountsSaid : Prop := roundingAmountsRow.holds Tryd.pinned (OpenSpec.ofChange roundingAmountsSpec)

/-- ITS FALSE NEIGHBOUR: 'it returns false'. Refute it at one input. -/
def roundingAmountsWrong : ChangeSpec := { name := "roundingAmounts", fn := fun _ => fun
  | [d1, d2] => { results := [.lit (.bool false)], args := [d1, d2] }
  | _ => none }
def RoundingAmountsWrongFalsely : Prop := roundingAmountsRow.holds Tryd.pinned (OpenSpec.ofChange roundingAmountsWrong)

/-- 'corebanklaw02.RoundingPercents': WHATEVER THE INPUT: true; the input reads as it did. -/
def roundingPercentsSpec : ChangeSpec := { name := "roundingPercents", fn := fun _ => fun
  | [d1, d2, d3] => { results := [.lit (.bool true)], args := [d1, d2, d3] }
  | _ => none }
def roundingPercentsRow : OpenClaim := { program := "ytieklkpjlbpnbaadoor", sum := "580e735484087bbb1d5357f441eaafc11d014f3a098f005906bd351dfcb77040", func := "corebank/corebanklaw02.RoundingPercents", spec := "roundingPercents", inPlace := ["math/bits.Add64", "math/bits.Sub64"], named := ["math/bits.divideError", "math/bits.overflowError", "corebank/rounding.steps"], apart := false, laid := [("corebank/rounding.steps", laid_corebank_rounding_steps)] }
def RoundingPercentsSaid : Prop := roundingPercentsRow.holds Tryd.pinned (OpenSpec.ofChange roundingPercentsSpec)

/-- ITS FALSE NEIGHBOUR: 'it returns false'. Refute it at one input. -/
def roundingPercentsWrong : ChangeSpec := { name := "roundingPercents", fn := fun _ => fun
  | [d1, d2, d3] => { results := [.lit (.bool false)], args := [d1, d2, d3] }
  | _ => none }
def RoundingPercentsWrongFalsely : Prop := roundingPercentsRow.holds Tryd.pinned (OpenSpec.ofChange roundingPercentsWrong)

/-- 'corebanklaw02.RoundingParts': WHATEVER THE INPUT: true; the input reads as it did. -/
def roundingPartsSpec : ChangeSpec := { name := "roundingParts", fn := fun _ => fun
  | [d1, d2] => { results := [.lit (.bool true)], args := [d1, d2] }
  | _ => none }
def roundingPartsRow : OpenClaim := { program := "ytieklkpjlbpnbaadoor", sum := "580e735484087bbb1d5357f441eaafc11d014f3a098f005906bd351dfcb77040", func := "corebank/corebanklaw02.RoundingParts", spec := "roundingParts", inPlace := ["math/bits.Add64", "math/bits.Sub64"], named := ["math/bits.divideError", "math/bits.overflowError", "corebank/rounding.steps"], apart := false, laid := [("corebank/rounding.steps", laid_corebank_rounding_steps)] }
def RoundingPartsSaid : Prop := roundingPartsRow.holds Tryd.pinned (OpenSpec.ofChange roundingPartsSpec)

/-- ITS FALSE NEIGHBOUR: 'it returns false'. Refute it at one input. -/
def roundingPartsWrong : ChangeSpec := { name := "roundingParts", fn := fun _ => fun
  | [d1, d2] => { results := [.lit (.bool false)], args := [d1, d2] }
  | _ => none }
def RoundingPartsWrongFalsely : Prop := roundingPartsRow.holds Tryd.pinned (OpenSpec.ofChange roundingPartsWrong)

/-- 'corebanklaw02.RoundingSplits': WHATEVER THE INPUT: true; the input reads as it did. -/
def roundingSplitsSpec : ChangeSpec := { name := "roundingSplits", fn := fun _ => fun
  | [d1, d2] => { results := [.lit (.bool true)], args := [d1, d2] }
  | _ => none }
def roundingSplitsRow : OpenClaim := { program := "ytieklkpjlbpnbaadoor", sum := "580e735484087bbb1d5357f441eaafc11d014f3a098f005906bd351dfcb77040", func := "corebank/corebanklaw02.RoundingSplits", spec := "roundingSplits", inPlace := ["math/bits.Add64", "math/bits.Sub64"], named := ["math/bits.divideError", "math/bits.overflowError", "corebank/rounding.steps"], apart := false, laid := [("corebank/rounding.steps", laid_corebank_rounding_steps)] }
def RoundingSplitsSaid : Prop := roundingSplitsRow.holds Tryd.pinned (OpenSpec.ofChange roundingSplitsSpec)

/-- ITS FALSE NEIGHBOUR: 'it returns false'. Refute it at one input. -/
def roundingSplitsWrong : ChangeSpec := { name := "roundingSplits", fn := fun _ => fun
  | [d1, d2] => { results := [.lit (.bool false)], args := [d1, d2] }
  | _ => none }
def RoundingSplitsWrongFalsely : Prop := roundingSplitsRow.holds Tryd.pinned (OpenSpec.ofChange roundingSplitsWrong)

/-- 'corebanklaw02.RoundingSteps': WHATEVER THE INPUT: true; the input reads as it did. -/
def roundingStepsSpec : ChangeSpec := { name := "roundingSteps", fn := fun _ => fun
  | [d1, d2, d3] => { results := [.lit (.bool true)], args := [d1, d2, d3] }
  | _ => none }
def roundingStepsRow : OpenClaim := { program := "ytieklkpjlbpnbaadoor", sum := "580e735484087bbb1d5357f441eaafc11d014f3a098f005906bd351dfcb77040", func := "corebank/corebanklaw02.RoundingSteps", spec := "roundingSteps", inPlace := ["math/bits.Add64", "math/bits.Sub64"], named := ["math/bits.divideError", "math/bits.overflowError", "corebank/rounding.steps"], apart := false, laid := [("corebank/rounding.steps", laid_corebank_rounding_steps)] }
def RoundingStepsSaid : Prop := roundingStepsRow.holds Tryd.pinned (OpenSpec.ofChange roundingStepsSpec)

/-- ITS FALSE NEIGHBOUR: 'it returns false'. Refute it at one input. -/
def roundingStepsWrong : ChangeSpec := { name := "roundingSteps", fn := fun _ => fun
  | [d1, d2, d3] => { results := [.lit (.bool false)], args := [d1, d2, d3] }
  | _ => none }
def RoundingStepsWrongFalsely : Prop := roundingStepsRow.holds Tryd.pinned (OpenSpec.ofChange roundingStepsWrong)

/-- 'corebanklaw02.RoundingNear': WHATEVER THE INPUT: true; the input reads as it did. -/
def roundingNearSpec : ChangeSpec := { name := "roundingNear", fn := fun _ => fun
  | [d1, d2, d3] => { results := [.lit (.bool true)], args := [d1, d2, d3] }
  | _ => none }
def roundingNearRow : OpenClaim := { program := "ytieklkpjlbpnbaadoor", sum := "580e735484087bbb1d5357f441eaafc11d014f3a098f005906bd351dfcb77040", func := "corebank/corebanklaw02.RoundingNear", spec := "roundingNear", inPlace := ["math/bits.Add64", "math/bits.Sub64"], named := ["math/bits.divideError", "math/bits.overflowError", "corebank/rounding.steps"], apart := false, laid := [("corebank/rounding.steps", laid_corebank_rounding_steps)] }
def RoundingNearSaid : Prop := roundingNearRow.holds Tryd.pinned (OpenSpec.ofChange roundingNearSpec)

/-- ITS FALSE NEIGHBOUR: 'it returns false'. Refute it at one input. -/
def roundingNearWrong : ChangeSpec := { name := "roundingNear", fn := fun _ => fun
  | [d1, d2, d3] => { results := [.lit (.bool false)], args := [d1, d2, d3] }
  | _ => none }
def RoundingNearWrongFalsely : Prop := roundingNearRow.holds Tryd.pinned (OpenSpec.ofChange roundingNearWrong)

/-- 'corebanklaw02.RoundingMirrors': WHATEVER THE INPUT: true; the input reads as it did. -/
def roundingMirrorsSpec : ChangeSpec := { name := "roundingMirrors", fn := fun _ => fun
  | [d1, d2, d3] => { results := [.lit (.bool true)], args := [d1, d2, d3] }
  | _ => none }
def roundingMirrorsRow : OpenClaim := { program := "ytieklkpjlbpnbaadoor", sum := "580e735484087bbb1d5357f441eaafc11d014f3a098f005906bd351dfcb77040", func := "corebank/corebanklaw02.RoundingMirrors", spec := "roundingMirrors", inPlace := ["math/bits.Add64", "math/bits.Sub64"], named := ["math/bits.divideError", "math/bits.overflowError", "corebank/rounding.steps"], apart := false, laid := [("corebank/rounding.steps", laid_corebank_rounding_steps)] }
def RoundingMirrorsSaid : Prop := roundingMirrorsRow.holds Tryd.pinned (OpenSpec.ofChange roundingMirrorsSpec)

/-- ITS FALSE NEIGHBOUR: 'it returns false'. Refute it at one input. -/
def roundingMirrorsWrong : ChangeSpec := { name := "roundingMirrors", fn := fun _ => fun
  | [d1, d2, d3] => { results := [.lit (.bool false)], args := [d1, d2, d3] }
  | _ => none }
def RoundingMirrorsWrongFalsely : Prop := roundingMirrorsRow.holds Tryd.pinned (OpenSpec.ofChange roundingMirrorsWrong)

/- THE SECOND FORM. 'bulk': how many values and letters a reading holds, each counted each time it is reached (what is shared counts as often as it is met; a slice's spare places count too). A statement '..UptoSaid' is the law's where the arguments, and the package variables that the reading takes, are together of bulk at most 1048576: NARROWER than '..Said'. Prove '..Said' where nothing that the law and all that it calls make is longer than what came in: it says more and counts as full. Else prove '..UptoSaid'. A law counts once. -/
mutual
def uptoBulk {H : Type} : DataW H → Nat
  | .lit (.string bytes) => bytes.length + 1
  | .lit _ => 1
  | .nil => 1
  | .ptr d => uptoBulk d + 1
  | .slice elems spare => uptoBulkAll elems + uptoBulkAll spare + 1
  | .agg parts => uptoBulkAll parts + 1
  | .iface _ d => uptoBulk d + 1
  | .map entries => uptoBulkEntries entries + 1
  | .held _ => 1
def uptoBulkAll {H : Type} : List (DataW H) → Nat
  | [] => 0
  | d :: r => uptoBulk d + uptoBulkAll r
def uptoBulkEntries {H : Type} : List (Lit × DataW H) → Nat
  | [] => 0
  | x :: r => uptoBulkEntry x + uptoBulkEntries r
def uptoBulkEntry {H : Type} : Lit × DataW H → Nat
  | (.string bytes, d) => bytes.length + uptoBulk d + 1
  | (_, d) => uptoBulk d + 1
 end
def uptoSmall : (H : Type) → List (DataW H) → Bool := fun _ ds => decide (uptoBulkAll ds ≤ 1048576)
def OpenSpec.upto (s : _root_.Go.ChangeSpec) : _root_.Go.OpenSpec := { _root_.Go.OpenSpec.ofChange s with cond := some uptoSmall }

/-- 'corebanklaw02.RoundingDivides', WHERE WHAT IT READS IS OF BULK AT MOST 1048576: true; the input reads as it did. -/
def roundingDividesUptoRow : OpenClaim := { program := "ytieklkpjlbpnbaadoor", sum := "580e735484087bbb1d5357f441eaafc11d014f3a098f005906bd351dfcb77040", func := "corebank/corebanklaw02.RoundingDivides", spec := "roundingDivides", inPlace := ["math/bits.Add64", "math/bits.Sub64"], named := ["math/bits.divideError", "math/bits.overflowError", "corebank/rounding.steps"], apart := false, laid := [("corebank/rounding.steps", laid_corebank_rounding_steps)], narrowed := true }
def RoundingDividesUptoSaid : Prop := roundingDividesUptoRow.holds Tryd.pinned (OpenSpec.upto roundingDividesSpec)

/-- 'corebanklaw02.RoundingAmounts', WHERE WHAT IT READS IS OF BULK AT MOST 1048576: true; the input reads as it did. -/
def roundingAmountsUptoRow : OpenClaim := { program := "ytieklkpjlbpnbaadoor", sum := "580e735484087bbb1d5357f441eaafc11d014f3a098f005906bd351dfcb77040", func := "corebank/corebanklaw02.RoundingAmounts", spec := "roundingAmounts", inPlace := ["math/bits.Add64", "math/bits.Sub64"], named := ["math/bits.divideError", "math/bits.overflowError", "corebank/rounding.steps"], apart := false, laid := [("corebank/rounding.steps", laid_corebank_rounding_steps)], narrowed := true }
def RoundingAmountsUptoSaid : Prop := roundingAmountsUptoRow.holds Tryd.pinned (OpenSpec.upto roundingAmountsSpec)

/-- 'corebanklaw02.RoundingPercents', WHERE WHAT IT READS IS OF BULK AT MOST 1048576: true; the input reads as it did. -/
def roundingPercentsUptoRow : OpenClaim := { program := "ytieklkpjlbpnbaadoor", sum := "580e735484087bbb1d5357f441eaafc11d014f3a098f005906bd351dfcb77040", func := "corebank/corebanklaw02.RoundingPercents", spec := "roundingPercents", inPlace := ["math/bits.Add64", "math/bits.Sub64"], named := ["math/bits.divideError", "math/bits.overflowError", "corebank/rounding.steps"], apart := false, laid := [("corebank/rounding.steps", laid_corebank_rounding_steps)], narrowed := true }
def RoundingPercentsUptoSaid : Prop := roundingPercentsUptoRow.holds Tryd.pinned (OpenSpec.upto roundingPercentsSpec)

/-- 'corebanklaw02.RoundingParts', WHERE WHAT IT READS IS OF BULK AT MOST 1048576: true; the input reads as it did. -/
def roundingPartsUptoRow : OpenClaim := { program := "ytieklkpjlbpnbaadoor", sum := "580e735484087bbb1d5357f441eaafc11d014f3a098f005906bd351dfcb77040", func := "corebank/corebanklaw02.RoundingParts", spec := "roundingParts", inPlace := ["math/bits.Add64", "math/bits.Sub64"], named := ["math/bits.divideError", "math/bits.overflowError", "corebank/rounding.steps"], apart := false, laid := [("corebank/rounding.steps", laid_corebank_rounding_steps)], narrowed := true }
def RoundingPartsUptoSaid : Prop := roundingPartsUptoRow.holds Tryd.pinned (OpenSpec.upto roundingPartsSpec)

/-- 'corebanklaw02.RoundingSplits', WHERE WHAT IT READS IS OF BULK AT MOST 1048576: true; the input reads as it did. -/
def roundingSplitsUptoRow : OpenClaim := { program := "ytieklkpjlbpnbaadoor", sum := "580e735484087bbb1d5357f441eaafc11d014f3a098f005906bd351dfcb77040", func := "corebank/corebanklaw02.RoundingSplits", spec := "roundingSplits", inPlace := ["math/bits.Add64", "math/bits.Sub64"], named := ["math/bits.divideError", "math/bits.overflowError", "corebank/rounding.steps"], apart := false, laid := [("corebank/rounding.steps", laid_corebank_rounding_steps)], narrowed := true }
def RoundingSplitsUptoSaid : Prop := roundingSplitsUptoRow.holds Tryd.pinned (OpenSpec.upto roundingSplitsSpec)

/-- 'corebanklaw02.RoundingSteps', WHERE WHAT IT READS IS OF BULK AT MOST 1048576: true; the input reads as it did. -/
def roundingStepsUptoRow : OpenClaim := { program := "ytieklkpjlbpnbaadoor", sum := "580e735484087bbb1d5357f441eaafc11d014f3a098f005906bd351dfcb77040", func := "corebank/corebanklaw02.RoundingSteps", spec := "roundingSteps", inPlace := ["math/bits.Add64", "math/bits.Sub64"], named := ["math/bits.divideError", "math/bits.overflowError", "corebank/rounding.steps"], apart := false, laid := [("corebank/rounding.steps", laid_corebank_rounding_steps)], narrowed := true }
def RoundingStepsUptoSaid : Prop := roundingStepsUptoRow.holds Tryd.pinned (OpenSpec.upto roundingStepsSpec)

/-- 'corebanklaw02.RoundingNear', WHERE WHAT IT READS IS OF BULK AT MOST 1048576: true; the input reads as it did. -/
def roundingNearUptoRow : OpenClaim := { program := "ytieklkpjlbpnbaadoor", sum := "580e735484087bbb1d5357f441eaafc11d014f3a098f005906bd351dfcb77040", func := "corebank/corebanklaw02.RoundingNear", spec := "roundingNear", inPlace := ["math/bits.Add64", "math/bits.Sub64"], named := ["math/bits.divideError", "math/bits.overflowError", "corebank/rounding.steps"], apart := false, laid := [("corebank/rounding.steps", laid_corebank_rounding_steps)], narrowed := true }
def RoundingNearUptoSaid : Prop := roundingNearUptoRow.holds Tryd.pinned (OpenSpec.upto roundingNearSpec)

/-- 'corebanklaw02.RoundingMirrors', WHERE WHAT IT READS IS OF BULK AT MOST 1048576: true; the input reads as it did. -/
def roundingMirrorsUptoRow : OpenClaim := { program := "ytieklkpjlbpnbaadoor", sum := "580e735484087bbb1d5357f441eaafc11d014f3a098f005906bd351dfcb77040", func := "corebank/corebanklaw02.RoundingMirrors", spec := "roundingMirrors", inPlace := ["math/bits.Add64", "math/bits.Sub64"], named := ["math/bits.divideError", "math/bits.overflowError", "corebank/rounding.steps"], apart := false, laid := [("corebank/rounding.steps", laid_corebank_rounding_steps)], narrowed := true }
def RoundingMirrorsUptoSaid : Prop := roundingMirrorsUptoRow.holds Tryd.pinned (OpenSpec.upto roundingMirrorsSpec)

end Rows
end Go.Proofs.YtieklkpjlbpnbaaDoor
