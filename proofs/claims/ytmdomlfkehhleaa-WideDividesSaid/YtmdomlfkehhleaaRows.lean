/-
  No cell of these rows narrows 'for every input' (looked for: loops, veiled, ifaces, maps, wideKeys, modest, calm, conditions, laid).
  DERIVED. THE GIVEN ROWS OF THIS SEAT. 7 by the template 'for every input the law returns true; each argument reads behind the call as it read before'; 0 by the template 'total and deterministic' (their statements: YtmdomlfkehhleaaTotals.lean).
  GIVEN WITH THE SEED: the statements are not yours to turn. If you find one false, say at which input.
  Laid BY PROGRAM, IN A SANDBOX (cutbox-rows.mjs): the forced cells as the released guide's own fill.sh prints them over the translation 68cc34ee2ed15030… (all of the seat's roots in one cut). By AI agents, Wed Nov 11 2026. No macro, syntax, notation, axiom, sorry.
-/
import Derived.Test.YtmdomlfkehhleaaChecked
import GoSem.Claim
import GoSem.ClaimJoined
import GoSem.ClaimMapViews
import Derived.JoinedTies
import Derived.KernelRfl
namespace Go.Proofs.Ytmdomlfkehhleaa
/- THE CELL 'sum', in the pinned program and in every row, IS THE sha256 OF THE DUMP (.gsa) THAT YtmdomlfkehhleaaProg.lean LOADS. Nothing in Lean hashes anything: it is a label: what it is worth is what the hold of that sum in a sandbox is worth. -/
noncomputable def Try.pinned : Pinned := { name := "ytmdomlfkehhleaa", sum := "68cc34ee2ed1503074c8755aafda14f2f76487a1a774589105782e6a8ad81b6e", checked := Try.checked }
namespace Rows
def none {H : Type} : Left H := { results := [], args := [] }

/-- 'corebanklaw01.WideQuotients': WHATEVER THE INPUT: true; the input reads as it did. -/
def wideQuotientsSpec : ChangeSpec := { name := "wideQuotients", fn := fun _ => fun
  | [d1, d2] => { results := [.lit (.bool true)], args := [d1, d2] }
  | _ => none }
def wideQuotientsRow : OpenClaim := { program := "ytmdomlfkehhleaa", sum := "68cc34ee2ed1503074c8755aafda14f2f76487a1a774589105782e6a8ad81b6e", func := "corebank/corebanklaw01.WideQuotients", spec := "wideQuotients", inPlace := ["math/bits.Add64"], named := ["math/bits.divideError", "math/bits.overflowError"], apart := false }
def WideQuotientsSaid : Prop := wideQuotientsRow.holds Try.pinned (OpenSpec.ofChange wideQuotientsSpec)

/-- ITS FALSE NEIGHBOUR: 'it returns false'. Refute it at one input. -/
def wideQuotientsWrong : ChangeSpec := { name := "wideQuotients", fn := fun _ => fun
  | [d1, d2] => { results := [.lit (.bool false)], args := [d1, d2] }
  | _ => none }
def WideQuotientsWrongFalsely : Prop := wideQuotientsRow.holds Try.pinned (OpenSpec.ofChange wideQuotientsWrong)

/-- 'corebanklaw01.WideTexts': WHATEVER THE INPUT: true; the input reads as it did. -/
def wideTextsSpec : ChangeSpec := { name := "wideTexts", fn := fun _ => fun
  | [d1, d2] => { results := [.lit (.bool true)], args := [d1, d2] }
  | _ => none }
def wideTextsRow : OpenClaim := { program := "ytmdomlfkehhleaa", sum := "68cc34ee2ed1503074c8755aafda14f2f76487a1a774589105782e6a8ad81b6e", func := "corebank/corebanklaw01.WideTexts", spec := "wideTexts", inPlace := ["math/bits.Add64"], recurses := true, named := ["math/bits.divideError", "math/bits.overflowError"], apart := false }
def WideTextsSaid : Prop := wideTextsRow.holds Try.pinned (OpenSpec.ofChange wideTextsSpec)

/-- ITS FALSE NEIGHBOUR: 'it returns false'. Refute it at one input. -/
def wideTextsWrong : ChangeSpec := { name := "wideTexts", fn := fun _ => fun
  | [d1, d2] => { results := [.lit (.bool false)], args := [d1, d2] }
  | _ => none }
def WideTextsWrongFalsely : Prop := wideTextsRow.holds Try.pinned (OpenSpec.ofChange wideTextsWrong)

/-- 'corebanklaw01.WideRoundTrips': WHATEVER THE INPUT: true; the input reads as it did. -/
def wideRoundTripsSpec : ChangeSpec := { name := "wideRoundTrips", fn := fun _ => fun
  | [d1, d2] => { results := [.lit (.bool true)], args := [d1, d2] }
  | _ => none }
def wideRoundTripsRow : OpenClaim := { program := "ytmdomlfkehhleaa", sum := "68cc34ee2ed1503074c8755aafda14f2f76487a1a774589105782e6a8ad81b6e", func := "corebank/corebanklaw01.WideRoundTrips", spec := "wideRoundTrips", inPlace := ["math/bits.Add64"], named := ["math/bits.divideError", "math/bits.overflowError"], apart := false }
def WideRoundTripsSaid : Prop := wideRoundTripsRow.holds Try.pinned (OpenSpec.ofChange wideRoundTripsSpec)

/-- ITS FALSE NEIGHBOUR: 'it returns false'. Refute it at one input. -/
def wideRoundTripsWrong : ChangeSpec := { name := "wideRoundTrips", fn := fun _ => fun
  | [d1, d2] => { results := [.lit (.bool false)], args := [d1, d2] }
  | _ => none }
def WideRoundTripsWrongFalsely : Prop := wideRoundTripsRow.holds Try.pinned (OpenSpec.ofChange wideRoundTripsWrong)

/-- 'corebanklaw01.WideMultiplies': WHATEVER THE INPUT: true; the input reads as it did. -/
def wideMultipliesSpec : ChangeSpec := { name := "wideMultiplies", fn := fun _ => fun
  | [d1, d2, d3] => { results := [.lit (.bool true)], args := [d1, d2, d3] }
  | _ => none }
def wideMultipliesRow : OpenClaim := { program := "ytmdomlfkehhleaa", sum := "68cc34ee2ed1503074c8755aafda14f2f76487a1a774589105782e6a8ad81b6e", func := "corebank/corebanklaw01.WideMultiplies", spec := "wideMultiplies", inPlace := ["math/bits.Add64"], named := ["math/bits.divideError", "math/bits.overflowError"], apart := false }
def WideMultipliesSaid : Prop := wideMultipliesRow.holds Try.pinned (OpenSpec.ofChange wideMultipliesSpec)

/-- ITS FALSE NEIGHBOUR: 'it returns false'. Refute it at one input. -/
def wideMultipliesWrong : ChangeSpec := { name := "wideMultiplies", fn := fun _ => fun
  | [d1, d2, d3] => { results := [.lit (.bool false)], args := [d1, d2, d3] }
  | _ => none }
def WideMultipliesWrongFalsely : Prop := wideMultipliesRow.holds Try.pinned (OpenSpec.ofChange wideMultipliesWrong)

/-- 'corebanklaw01.WideAdds': WHATEVER THE INPUT: true; the input reads as it did. -/
def wideAddsSpec : ChangeSpec := { name := "wideAdds", fn := fun _ => fun
  | [d1, d2] => { results := [.lit (.bool true)], args := [d1, d2] }
  | _ => none }
def wideAddsRow : OpenClaim := { program := "ytmdomlfkehhleaa", sum := "68cc34ee2ed1503074c8755aafda14f2f76487a1a774589105782e6a8ad81b6e", func := "corebank/corebanklaw01.WideAdds", spec := "wideAdds", inPlace := ["math/bits.Add64", "math/bits.Sub64"], named := ["math/bits.divideError", "math/bits.overflowError"], apart := false }
def WideAddsSaid : Prop := wideAddsRow.holds Try.pinned (OpenSpec.ofChange wideAddsSpec)

/-- ITS FALSE NEIGHBOUR: 'it returns false'. Refute it at one input. -/
def wideAddsWrong : ChangeSpec := { name := "wideAdds", fn := fun _ => fun
  | [d1, d2] => { results := [.lit (.bool false)], args := [d1, d2] }
  | _ => none }
def WideAddsWrongFalsely : Prop := wideAddsRow.holds Try.pinned (OpenSpec.ofChange wideAddsWrong)

/-- 'corebanklaw01.WideDivides': WHATEVER THE INPUT: true; the input reads as it did. -/
def wideDividesSpec : ChangeSpec := { name := "wideDivides", fn := fun _ => fun
  | [d1, d2] => { results := [.lit (.bool true)], args := [d1, d2] }
  | _ => none }
def wideDividesRow : OpenClaim := { program := "ytmdomlfkehhleaa", sum := "68cc34ee2ed1503074c8755aafda14f2f76487a1a774589105782e6a8ad81b6e", func := "corebank/corebanklaw01.WideDivides", spec := "wideDivides", inPlace := ["math/bits.Add64", "math/bits.Sub64"], named := ["math/bits.divideError", "math/bits.overflowError"], apart := false }
def WideDividesSaid : Prop := wideDividesRow.holds Try.pinned (OpenSpec.ofChange wideDividesSpec)

/-- ITS FALSE NEIGHBOUR: 'it returns false'. Refute it at one input. -/
def wideDividesWrong : ChangeSpec := { name := "wideDivides", fn := fun _ => fun
  | [d1, d2] => { results := [.lit (.bool false)], args := [d1, d2] }
  | _ => none }
def WideDividesWrongFalsely : Prop := wideDividesRow.holds Try.pinned (OpenSpec.ofChange wideDividesWrong)

/-- 'corebanklaw01.WideRestores': WHATEVER THE INPUT: true; the input reads as it did. -/
def wideRestoresSpec : ChangeSpec := { name := "wideRestores", fn := fun _ => fun
  | [d1, d2, d3] => { results := [.lit (.bool true)], args := [d1, d2, d3] }
  | _ => none }
def wideRestoresRow : OpenClaim := { program := "ytmdomlfkehhleaa", sum := "68cc34ee2ed1503074c8755aafda14f2f76487a1a774589105782e6a8ad81b6e", func := "corebank/corebanklaw01.WideRestores", spec := "wideRestores", inPlace := ["math/bits.Add64", "math/bits.Sub64"], named := ["math/bits.divideError", "math/bits.overflowError"], apart := false }
def WideRestoresSaid : Prop := wideRestoresRow.holds Try.pinned (OpenSpec.ofChange wideRestoresSpec)

/-- ITS FALSE NEIGHBOUR: 'it returns false'. Refute it at one input. -/
def wideRestoresWrong : ChangeSpec := { name := "wideRestores", fn := fun _ => fun
  | [d1, d2, d3] => { results := [.lit (.bool false)], args := [d1, d2, d3] }
  | _ => none }
def WideRestoresWrongFalsely : Prop := wideRestoresRow.holds Try.pinned (OpenSpec.ofChange wideRestoresWrong)

/- THE SECOND FORM. 'bulk': how many values and letters a reading holds, each counted each time it is reached (what is shared counts as often as it is met; a slice's spare places count too). A statement '..UptoSaid' is the law's where the arguments, and the package variables that the reading takes, are together of bulk at most 1048576: NARROWER than '..Said'. Prove '..Said' where nothing that the law and all that it calls make is longer than what came in: it says more and counts as full. Else prove '..UptoSaid'. A law counts once. -/
mutual
def uptoBulk {H : Type} : DataW H → Nat
  | .lit (.string bytes) => bytes.length + 1
  | .lit _ => 1
  | .nil => 1
  | .ptr d => uptoBulk d + 1
  | .slice elems spare => uptoBulkAll elems + uptoBulkAll spare + 1
  | .agg parts => uptoBulkAll parts + 1
  | .iface _ d => uptoBulk d + 1
  | .map entries => uptoBulkEntries entries + 1
  | .held _ => 1
def uptoBulkAll {H : Type} : List (DataW H) → Nat
  | [] => 0
  | d :: r => uptoBulk d + uptoBulkAll r
def uptoBulkEntries {H : Type} : List (Lit × DataW H) → Nat
  | [] => 0
  | x :: r => uptoBulkEntry x + uptoBulkEntries r
def uptoBulkEntry {H : Type} : Lit × DataW H → Nat
  | (.string bytes, d) => bytes.length + uptoBulk d + 1
  | (_, d) => uptoBulk d + 1
 end
def uptoSmall : (H : Type) → List (DataW H) → Bool := fun _ ds => decide (uptoBulkAll ds ≤ 1048576)
def OpenSpec.upto (s : _root_.Go.ChangeSpec) : _root_.Go.OpenSpec := { _root_.Go.OpenSpec.ofChange s with cond := some uptoSmall }

/-- 'corebanklaw01.WideQuotients', WHERE WHAT IT READS IS OF BULK AT MOST 1048576: true; the input reads as it did. -/
def wideQuotientsUptoRow : OpenClaim := { program := "ytmdomlfkehhleaa", sum := "68cc34ee2ed1503074c8755aafda14f2f76487a1a774589105782e6a8ad81b6e", func := "corebank/corebanklaw01.WideQuotients", spec := "wideQuotients", inPlace := ["math/bits.Add64"], named := ["math/bits.divideError", "math/bits.overflowError"], apart := false, narrowed := true }
def WideQuotientsUptoSaid : Prop := wideQuotientsUptoRow.holds Try.pinned (OpenSpec.upto wideQuotientsSpec)

/-- 'corebanklaw01.WideTexts', WHERE WHAT IT READS IS OF BULK AT MOST 1048576: true; the input reads as it did. -/
def wideTextsUptoRow : OpenClaim := { program := "ytmdomlfkehhleaa", sum := "68cc34ee2ed1503074c8755aafda14f2f76487a1a774589105782e6a8ad81b6e", func := "corebank/corebanklaw01.WideTexts", spec := "wideTexts", inPlace := ["math/bits.Add64"], recurses := true, named := ["math/bits.divideError", "math/bits.overflowError"], apart := false, narrowed := true }
def WideTextsUptoSaid : Prop := wideTextsUptoRow.holds Try.pinned (OpenSpec.upto wideTextsSpec)

/-- 'corebanklaw01.WideRoundTrips', WHERE WHAT IT READS IS OF BULK AT MOST 1048576: true; the input reads as it did. -/
def wideRoundTripsUptoRow : OpenClaim := { program := "ytmdomlfkehhleaa", sum := "68cc34ee2ed1503074c8755aafda14f2f76487a1a774589105782e6a8ad81b6e", func := "corebank/corebanklaw01.WideRoundTrips", spec := "wideRoundTrips", inPlace := ["math/bits.Add64"], named := ["math/bits.divideError", "math/bits.overflowError"], apart := false, narrowed := true }
def WideRoundTripsUptoSaid : Prop := wideRoundTripsUptoRow.holds Try.pinned (OpenSpec.upto wideRoundTripsSpec)

/-- 'corebanklaw01.WideMultiplies', WHERE WHAT IT READS IS OF BULK AT MOST 1048576: true; the input reads as it did. -/
def wideMultipliesUptoRow : OpenClaim := { program := "ytmdomlfkehhleaa", sum := "68cc34ee2ed1503074c8755aafda14f2f76487a1a774589105782e6a8ad81b6e", func := "corebank/corebanklaw01.WideMultiplies", spec := "wideMultiplies", inPlace := ["math/bits.Add64"], named := ["math/bits.divideError", "math/bits.overflowError"], apart := false, narrowed := true }
def WideMultipliesUptoSaid : Prop := wideMultipliesUptoRow.holds Try.pinned (OpenSpec.upto wideMultipliesSpec)

/-- 'corebanklaw01.WideAdds', WHERE WHAT IT READS IS OF BULK AT MOST 1048576: true; the input reads as it did. -/
def wideAddsUptoRow : OpenClaim := { program := "ytmdomlfkehhleaa", sum := "68cc34ee2ed1503074c8755aafda14f2f76487a1a774589105782e6a8ad81b6e", func := "corebank/corebanklaw01.WideAdds", spec := "wideAdds", inPlace := ["math/bits.Add64", "math/bits.Sub64"], named := ["math/bits.divideError", "math/bits.overflowError"], apart := false, narrowed := true }
def WideAddsUptoSaid : Prop := wideAddsUptoRow.holds Try.pinned (OpenSpec.upto wideAddsSpec)

/-- 'corebanklaw01.WideDivides', WHERE WHAT IT READS IS OF BULK AT MOST 1048576: true; the input reads as it did. -/
def wideDividesUptoRow : OpenClaim := { program := "ytmdomlfkehhleaa", sum := "68cc34ee2ed1503074c8755aafda14f2f76487a1a774589105782e6a8ad81b6e", func := "corebank/corebanklaw01.WideDivides", spec := "wideDivides", inPlace := ["math/bits.Add64", "math/bits.Sub64"], named := ["math/bits.divideError", "math/bits.overflowError"], apart := false, narrowed := true }
def WideDividesUptoSaid : Prop := wideDividesUptoRow.holds Try.pinned (OpenSpec.upto wideDividesSpec)

/-- 'corebanklaw01.WideRestores', WHERE WHAT IT READS IS OF BULK AT MOST 1048576: true; the input reads as it did. -/
def wideRestoresUptoRow : OpenClaim := { program := "ytmdomlfkehhleaa", sum := "68cc34ee2ed1503074c8755aafda14f2f76487a1a774589105782e6a8ad81b6e", func := "corebank/corebanklaw01.WideRestores", spec := "wideRestores", inPlace := ["math/bits.Add64", "math/bits.Sub64"], named := ["math/bits.divideError", "math/bits.overflowError"], apart := false, narrowed := true }
def WideRestoresUptoSaid : Prop := wideRestoresUptoRow.holds Try.pinned (OpenSpec.upto wideRestoresSpec)

end Rows
end Go.Proofs.Ytmdomlfkehhleaa
