/-
  NARROWER THAN 'FOR EVERY INPUT', by the rows' own cells (each row's printed sentence says how): ProvisionStages: laid · ProvisionExpects: laid · ProvisionTotals: laid · ProvisionMoves: laid · ProvisionRises: laid.
  DERIVED. THE GIVEN ROWS OF THIS SEAT. 5 by the template 'for every input the law returns true; each argument reads behind the call as it read before'; 0 by the template 'total and deterministic' (their statements: YtjicnlgndkcahaaDoorTotals.lean).
  GIVEN WITH THE SEED: the statements are not yours to turn. If you find one false, say at which input.
  Laid BY PROGRAM, IN A SANDBOX (cutbox-rows.mjs): the forced cells as the released guide's own fill.sh prints them over the translation 79a55579e2ccbd8e… (all of the seat's roots in one cut). By AI agents, Wed Nov 11 2026. No macro, syntax, notation, axiom, sorry.
-/
import Derived.Test.YtjicnlgndkcahaaDoorChecked
import GoSem.Claim
import GoSem.ClaimJoined
import GoSem.ClaimMapViews
import Derived.JoinedTies
import Derived.KernelRfl
namespace Go.Proofs.YtjicnlgndkcahaaDoor
/- THE CELL 'sum', in the pinned program and in every row, IS THE sha256 OF THE DUMP (.gsa) THAT YtjicnlgndkcahaaDoorProg.lean LOADS. Nothing in Lean hashes anything: it is a label: what it is worth is what the hold of that sum in a sandbox is worth. -/
noncomputable def Tryd.pinned : Pinned := { name := "ytjicnlgndkcahaadoor", sum := "79a55579e2ccbd8eeb7744ac6467c69862b66b141fdb7f72bf497eb78330ab1e", checked := Tryd.checked }
namespace Rows
def none {H : Type} : Left H := { results := [], args := [] }

/- WHAT THE LISTED PACKAGE-LEVEL VARIABLES READ AS WHEN THE CALL BEGINS. Each datum BY PROGRAM (the guide's laid-datum.mjs) off the statement by which the dump's own 'gosem.cut.vars' lays the variable. In a bare row this is a premise. The card (YtjicnlgndkcahaaDoorCards.lean) ties it to the program's text. -/
def laid_corebank_rounding_steps {H : Type} : DataW H := .agg [.agg [.lit (.int .i64 0), .lit (.int .i64 0)], .agg [.lit (.int .i64 1), .lit (.int .i64 0)], .agg [.lit (.int .i64 0), .lit (.int .i64 1)], .agg [.lit (.int .i64 0), .lit (.int .i64 0)], .agg [.lit (.int .i64 1), .lit (.int .i64 1)]]
def laid_corebank_arrears_classes {H : Type} : DataW H := .agg [.lit (.int .i64 0), .lit (.int .i64 30), .lit (.int .i64 60), .lit (.int .i64 90)]

/-- 'corebanklaw38.ProvisionStages': WHATEVER THE INPUT: true; the input reads as it did. -/
def provisionStagesSpec : ChangeSpec := { name := "provisionStages", fn := fun _ => fun
  | [d1, d2, d3] => { results := [.lit (.bool true)], args := [d1, d2, d3] }
  | _ => none }
def provisionStagesRow : OpenClaim := { program := "ytjicnlgndkcahaadoor", sum := "79a55579e2ccbd8eeb7744ac6467c69862b66b141fdb7f72bf497eb78330ab1e", func := "corebank/corebanklaw38.ProvisionStages", spec := "provisionStages", inPlace := ["math/bits.Add64"], named := ["corebank/arrears.classes", "math/bits.divideError", "math/bits.overflowError", "corebank/rounding.steps"], apart := false, laid := [("corebank/rounding.steps", laid_corebank_rounding_steps), ("corebank/arrears.classes", laid_corebank_arrears_classes)] }
def ProvisionStagesSaid : Prop := provisionStagesRow.holds Tryd.pinned (OpenSpec.ofChange provisionStagesSpec)

/-- ITS FALSE NEIGHBOUR: 'it returns false'. Refute it at one input. -/
def provisionStagesWrong : ChangeSpec := { name := "provisionStages", fn := fun _ => fun
  | [d1, d2, d3] => { results := [.lit (.bool false)], args := [d1, d2, d3] }
  | _ => none }
def ProvisionStagesWrongFalsely : Prop := provisionStagesRow.holds Tryd.pinned (OpenSpec.ofChange provisionStagesWrong)

/-- 'corebanklaw38.ProvisionExpects': WHATEVER THE INPUT: true; the input reads as it did. -/
def provisionExpectsSpec : ChangeSpec := { name := "provisionExpects", fn := fun _ => fun
  | [d1, d2] => { results := [.lit (.bool true)], args := [d1, d2] }
  | _ => none }
def provisionExpectsRow : OpenClaim := { program := "ytjicnlgndkcahaadoor", sum := "79a55579e2ccbd8eeb7744ac6467c69862b66b141fdb7f72bf497eb78330ab1e", func := "corebank/corebanklaw38.ProvisionExpects", spec := "provisionExpects", inPlace := ["math/bits.Add64"], named := ["corebank/arrears.classes", "math/bits.divideError", "math/bits.overflowError", "corebank/rounding.steps"], apart := false, laid := [("corebank/rounding.steps", laid_corebank_rounding_steps), ("corebank/arrears.classes", laid_corebank_arrears_classes)] }
def ProvisionExpectsSaid : Prop := provisionExpectsRow.holds Tryd.pinned (OpenSpec.ofChange provisionExpectsSpec)

/-- ITS FALSE NEIGHBOUR: 'it returns false'. Refute it at one input. -/
def provisionExpectsWrong : ChangeSpec := { name := "provisionExpects", fn := fun _ => fun
  | [d1, d2] => { results := [.lit (.bool false)], args := [d1, d2] }
  | _ => none }
def ProvisionExpectsWrongFalsely : Prop := provisionExpectsRow.holds Tryd.pinned (OpenSpec.ofChange provisionExpectsWrong)

/-- 'corebanklaw38.ProvisionTotals': WHATEVER THE INPUT: true; the input reads as it did. -/
def provisionTotalsSpec : ChangeSpec := { name := "provisionTotals", fn := fun _ => fun
  | [d1, d2] => { results := [.lit (.bool true)], args := [d1, d2] }
  | _ => none }
def provisionTotalsRow : OpenClaim := { program := "ytjicnlgndkcahaadoor", sum := "79a55579e2ccbd8eeb7744ac6467c69862b66b141fdb7f72bf497eb78330ab1e", func := "corebank/corebanklaw38.ProvisionTotals", spec := "provisionTotals", inPlace := ["math/bits.Add64"], named := ["corebank/arrears.classes", "math/bits.divideError", "math/bits.overflowError", "corebank/rounding.steps"], apart := false, laid := [("corebank/rounding.steps", laid_corebank_rounding_steps), ("corebank/arrears.classes", laid_corebank_arrears_classes)] }
def ProvisionTotalsSaid : Prop := provisionTotalsRow.holds Tryd.pinned (OpenSpec.ofChange provisionTotalsSpec)

/-- ITS FALSE NEIGHBOUR: 'it returns false'. Refute it at one input. -/
def provisionTotalsWrong : ChangeSpec := { name := "provisionTotals", fn := fun _ => fun
  | [d1, d2] => { results := [.lit (.bool false)], args := [d1, d2] }
  | _ => none }
def ProvisionTotalsWrongFalsely : Prop := provisionTotalsRow.holds Tryd.pinned (OpenSpec.ofChange provisionTotalsWrong)

/-- 'corebanklaw38.ProvisionMoves': WHATEVER THE INPUT: true; the input reads as it did. -/
def provisionMovesSpec : ChangeSpec := { name := "provisionMoves", fn := fun _ => fun
  | [d1, d2] => { results := [.lit (.bool true)], args := [d1, d2] }
  | _ => none }
def provisionMovesRow : OpenClaim := { program := "ytjicnlgndkcahaadoor", sum := "79a55579e2ccbd8eeb7744ac6467c69862b66b141fdb7f72bf497eb78330ab1e", func := "corebank/corebanklaw38.ProvisionMoves", spec := "provisionMoves", inPlace := ["math/bits.Add64"], named := ["corebank/arrears.classes", "math/bits.divideError", "math/bits.overflowError", "corebank/rounding.steps"], apart := false, laid := [("corebank/rounding.steps", laid_corebank_rounding_steps), ("corebank/arrears.classes", laid_corebank_arrears_classes)] }
def ProvisionMovesSaid : Prop := provisionMovesRow.holds Tryd.pinned (OpenSpec.ofChange provisionMovesSpec)

/-- ITS FALSE NEIGHBOUR: 'it returns false'. Refute it at one input. -/
def provisionMovesWrong : ChangeSpec := { name := "provisionMoves", fn := fun _ => fun
  | [d1, d2] => { results := [.lit (.bool false)], args := [d1, d2] }
  | _ => none }
def ProvisionMovesWrongFalsely : Prop := provisionMovesRow.holds Tryd.pinned (OpenSpec.ofChange provisionMovesWrong)

/-- 'corebanklaw38.ProvisionRises': WHATEVER THE INPUT: true; the input reads as it did. -/
def provisionRisesSpec : ChangeSpec := { name := "provisionRises", fn := fun _ => fun
  | [d1, d2, d3] => { results := [.lit (.bool true)], args := [d1, d2, d3] }
  | _ => none }
def provisionRisesRow : OpenClaim := { program := "ytjicnlgndkcahaadoor", sum := "79a55579e2ccbd8eeb7744ac6467c69862b66b141fdb7f72bf497eb78330ab1e", func := "corebank/corebanklaw38.ProvisionRises", spec := "provisionRises", inPlace := ["math/bits.Add64"], named := ["corebank/arrears.classes", "math/bits.divideError", "math/bits.overflowError", "corebank/rounding.steps"], apart := false, laid := [("corebank/rounding.steps", laid_corebank_rounding_steps), ("corebank/arrears.classes", laid_corebank_arrears_classes)] }
def ProvisionRisesSaid : Prop := provisionRisesRow.holds Tryd.pinned (OpenSpec.ofChange provisionRisesSpec)

/-- ITS FALSE NEIGHBOUR: 'it returns false'. Refute it at one input. -/
def provisionRisesWrong : ChangeSpec := { name := "provisionRises", fn := fun _ => fun
  | [d1, d2, d3] => { results := [.lit (.bool false)], args := [d1, d2, d3] }
  | _ => none }
def ProvisionRisesWrongFalsely : Prop := provisionRisesRow.holds Tryd.pinned (OpenSpec.ofChange provisionRisesWrong)

/- THE SECOND FORM. 'bulk': how many values and letters a reading holds, each counted each time it is reached (what is shared counts as often as it is met; a slice's spare places count too). A statement '..UptoSaid' is the law's where the arguments, and the package variables that the reading takes, are together of bulk at most 1048576: NARROWER than '..Said'. Prove '..Said' where nothing that the law and all that it calls make is longer than what came in: it says more and counts as full. Else prove '..UptoSaid'. A law counts once. -/
mutual
def uptoBulk {H : Type} : DataW H → Nat
  | .lit (.string bytes) => bytes.length + 1
  | .lit _ => 1
  | .nil => 1
  | .ptr d => uptoBulk d + 1
  | .slice elems spare => uptoBulkAll elems + uptoBulkAll spare + 1
  | .agg parts => uptoBulkAll parts + 1
  | .iface _ d => uptoBulk d + 1
  | .map entries => uptoBulkEntries entries + 1
  | .held _ => 1
def uptoBulkAll {H : Type} : List (DataW H) → Nat
  | [] => 0
  | d :: r => uptoBulk d + uptoBulkAll r
def uptoBulkEntries {H : Type} : List (Lit × DataW H) → Nat
  | [] => 0
  | x :: r => uptoBulkEntry x + uptoBulkEntries r
def uptoBulkEntry {H : Type} : Lit × DataW H → Nat
  | (.string bytes, d) => bytes.length + uptoBulk d + 1
  | (_, d) => uptoBulk d + 1
 end
def uptoSmall : (H : Type) → List (DataW H) → Bool := fun _ ds => decide (uptoBulkAll ds ≤ 1048576)
def OpenSpec.upto (s : _root_.Go.ChangeSpec) : _root_.Go.OpenSpec := { _root_.Go.OpenSpec.ofChange s with cond := some uptoSmall }

/-- 'corebanklaw38.ProvisionStages', WHERE WHAT IT READS IS OF BULK AT MOST 1048576: true; the input reads as it did. -/
def provisionStagesUptoRow : OpenClaim := { program := "ytjicnlgndkcahaadoor", sum := "79a55579e2ccbd8eeb7744ac6467c69862b66b141fdb7f72bf497eb78330ab1e", func := "corebank/corebanklaw38.ProvisionStages", spec := "provisionStages", inPlace := ["math/bits.Add64"], named := ["corebank/arrears.classes", "math/bits.divideError", "math/bits.overflowError", "corebank/rounding.steps"], apart := false, laid := [("corebank/rounding.steps", laid_corebank_rounding_steps), ("corebank/arrears.classes", laid_corebank_arrears_classes)], narrowed := true }
def ProvisionStagesUptoSaid : Prop := provisionStagesUptoRow.holds Tryd.pinned (OpenSpec.upto provisionStagesSpec)

/-- 'corebanklaw38.ProvisionExpects', WHERE WHAT IT READS IS OF BULK AT MOST 1048576: true; the input reads as it did. -/
def provisionExpectsUptoRow : OpenClaim := { program := "ytjicnlgndkcahaadoor", sum := "79a55579e2ccbd8eeb7744ac6467c69862b66b141fdb7f72bf497eb78330ab1e", func := "corebank/corebanklaw38.ProvisionExpects", spec := "provisionExpects", inPlace := ["math/bits.Add64"], named := ["corebank/arrears.classes", "math/bits.divideError", "math/bits.overflowError", "corebank/rounding.steps"], apart := false, laid := [("corebank/rounding.steps", laid_corebank_rounding_steps), ("corebank/arrears.classes", laid_corebank_arrears_classes)], narrowed := true }
def ProvisionExpectsUptoSaid : Prop := provisionExpectsUptoRow.holds Tryd.pinned (OpenSpec.upto provisionExpectsSpec)

/-- 'corebanklaw38.ProvisionTotals', WHERE WHAT IT READS IS OF BULK AT MOST 1048576: true; the input reads as it did. -/
def provisionTotalsUptoRow : OpenClaim := { program := "ytjicnlgndkcahaadoor", sum := "79a55579e2ccbd8eeb7744ac6467c69862b66b141fdb7f72bf497eb78330ab1e", func := "corebank/corebanklaw38.ProvisionTotals", spec := "provisionTotals", inPlace := ["math/bits.Add64"], named := ["corebank/arrears.classes", "math/bits.divideError", "math/bits.overflowError", "corebank/rounding.steps"], apart := false, laid := [("corebank/rounding.steps", laid_corebank_rounding_steps), ("corebank/arrears.classes", laid_corebank_arrears_classes)], narrowed := true }
def ProvisionTotalsUptoSaid : Prop := provisionTotalsUptoRow.holds Tryd.pinned (OpenSpec.upto provisionTotalsSpec)

/-- 'corebanklaw38.ProvisionMoves', WHERE WHAT IT READS IS OF BULK AT MOST 1048576: true; the input reads as it did. -/
def provisionMovesUptoRow : OpenClaim := { program := "ytjicnlgndkcahaadoor", sum := "79a55579e2ccbd8eeb7744ac6467c69862b66b141fdb7f72bf497eb78330ab1e", func := "corebank/corebanklaw38.ProvisionMoves", spec := "provisionMoves", inPlace := ["math/bits.Add64"], named := ["corebank/arrears.classes", "math/bits.divideError", "math/bits.overflowError", "corebank/rounding.steps"], apart := false, laid := [("corebank/rounding.steps", laid_corebank_rounding_steps), ("corebank/arrears.classes", laid_corebank_arrears_classes)], narrowed := true }
def ProvisionMovesUptoSaid : Prop := provisionMovesUptoRow.holds Tryd.pinned (OpenSpec.upto provisionMovesSpec)

/-- 'corebanklaw38.ProvisionRises', WHERE WHAT IT READS IS OF BULK AT MOST 1048576: true; the input reads as it did. -/
def provisionRisesUptoRow : OpenClaim := { program := "ytjicnlgndkcahaadoor", sum := "79a55579e2ccbd8eeb7744ac6467c69862b66b141fdb7f72bf497eb78330ab1e", func := "corebank/corebanklaw38.ProvisionRises", spec := "provisionRises", inPlace := ["math/bits.Add64"], named := ["corebank/arrears.classes", "math/bits.divideError", "math/bits.overflowError", "corebank/rounding.steps"], apart := false, laid := [("corebank/rounding.steps", laid_corebank_rounding_steps), ("corebank/arrears.classes", laid_corebank_arrears_classes)], narrowed := true }
def ProvisionRisesUptoSaid : Prop := provisionRisesUptoRow.holds Tryd.pinned (OpenSpec.upto provisionRisesSpec)

end Rows
end Go.Proofs.YtjicnlgndkcahaaDoor
