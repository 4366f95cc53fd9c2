/-
  No cell of these rows narrows 'for every input' (looked for: loops, veiled, ifaces, maps, wideKeys, modest, calm, conditions, laid).
  DERIVED. THE GIVEN ROWS OF THIS SEAT. 7 by the template 'for every input the law returns true; each argument reads behind the call as it read before'; 0 by the template 'total and deterministic' (their statements: YtjhhjpcljcnkaaaTotals.lean).
  GIVEN WITH THE SEED: the statements are not yours to turn. If you find one false, say at which input.
  Laid BY PROGRAM, IN A SANDBOX (cutbox-rows.mjs): the forced cells as the released guide's own fill.sh prints them over the translation 51c5c220507a9921… (all of the seat's roots in one cut). By AI agents, Wed Nov 11 2026. No macro, syntax, notation, axiom, sorry.
-/
import Derived.Test.YtjhhjpcljcnkaaaChecked
import GoSem.Claim
import GoSem.ClaimJoined
import GoSem.ClaimMapViews
import Derived.JoinedTies
import Derived.KernelRfl
namespace Go.Proofs.Ytjhhjpcljcnkaaa
/- THE CELL 'sum', in the pinned program and in every row, IS THE sha256 OF THE DUMP (.gsa) THAT YtjhhjpcljcnkaaaProg.lean LOADS. Nothing in Lean hashes anything: it is a label: what it is worth is what the hold of that sum in a sandbox is worth. -/
noncomputable def Try.pinned : Pinned := { name := "ytjhhjpcljcnkaaa", sum := "51c5c220507a992152f2c965c0c223727755383584bc37e670465c52057e39a3", checked := Try.checked }
namespace Rows
def none {H : Type} : Left H := { results := [], args := [] }

/-- 'corebanklaw06.DaycountWeights': WHATEVER THE INPUT: true; the input reads as it did. -/
def daycountWeightsSpec : ChangeSpec := { name := "daycountWeights", fn := fun _ => fun
  | [d1, d2] => { results := [.lit (.bool true)], args := [d1, d2] }
  | _ => none }
def daycountWeightsRow : OpenClaim := { program := "ytjhhjpcljcnkaaa", sum := "51c5c220507a992152f2c965c0c223727755383584bc37e670465c52057e39a3", func := "corebank/corebanklaw06.DaycountWeights", spec := "daycountWeights", inPlace := ["math/bits.Add64"], apart := false }
def DaycountWeightsSaid : Prop := daycountWeightsRow.holds Try.pinned (OpenSpec.ofChange daycountWeightsSpec)

/-- ITS FALSE NEIGHBOUR: 'it returns false'. Refute it at one input. -/
def daycountWeightsWrong : ChangeSpec := { name := "daycountWeights", fn := fun _ => fun
  | [d1, d2] => { results := [.lit (.bool false)], args := [d1, d2] }
  | _ => none }
def DaycountWeightsWrongFalsely : Prop := daycountWeightsRow.holds Try.pinned (OpenSpec.ofChange daycountWeightsWrong)

/-- 'corebanklaw06.DaycountThirty': WHATEVER THE INPUT: true; the input reads as it did. -/
def daycountThirtySpec : ChangeSpec := { name := "daycountThirty", fn := fun _ => fun
  | [d1, d2] => { results := [.lit (.bool true)], args := [d1, d2] }
  | _ => none }
def daycountThirtyRow : OpenClaim := { program := "ytjhhjpcljcnkaaa", sum := "51c5c220507a992152f2c965c0c223727755383584bc37e670465c52057e39a3", func := "corebank/corebanklaw06.DaycountThirty", spec := "daycountThirty", inPlace := ["math/bits.Add64"], apart := false }
def DaycountThirtySaid : Prop := daycountThirtyRow.holds Try.pinned (OpenSpec.ofChange daycountThirtySpec)

/-- ITS FALSE NEIGHBOUR: 'it returns false'. Refute it at one input. -/
def daycountThirtyWrong : ChangeSpec := { name := "daycountThirty", fn := fun _ => fun
  | [d1, d2] => { results := [.lit (.bool false)], args := [d1, d2] }
  | _ => none }
def DaycountThirtyWrongFalsely : Prop := daycountThirtyRow.holds Try.pinned (OpenSpec.ofChange daycountThirtyWrong)

/-- 'corebanklaw06.DaycountSums': WHATEVER THE INPUT: true; the input reads as it did. -/
def daycountSumsSpec : ChangeSpec := { name := "daycountSums", fn := fun _ => fun
  | [d1, d2, d3] => { results := [.lit (.bool true)], args := [d1, d2, d3] }
  | _ => none }
def daycountSumsRow : OpenClaim := { program := "ytjhhjpcljcnkaaa", sum := "51c5c220507a992152f2c965c0c223727755383584bc37e670465c52057e39a3", func := "corebank/corebanklaw06.DaycountSums", spec := "daycountSums", inPlace := ["math/bits.Add64"], apart := false }
def DaycountSumsSaid : Prop := daycountSumsRow.holds Try.pinned (OpenSpec.ofChange daycountSumsSpec)

/-- ITS FALSE NEIGHBOUR: 'it returns false'. Refute it at one input. -/
def daycountSumsWrong : ChangeSpec := { name := "daycountSums", fn := fun _ => fun
  | [d1, d2, d3] => { results := [.lit (.bool false)], args := [d1, d2, d3] }
  | _ => none }
def DaycountSumsWrongFalsely : Prop := daycountSumsRow.holds Try.pinned (OpenSpec.ofChange daycountSumsWrong)

/-- 'corebanklaw06.DaycountAdds': WHATEVER THE INPUT: true; the input reads as it did. -/
def daycountAddsSpec : ChangeSpec := { name := "daycountAdds", fn := fun _ => fun
  | [d1, d2, d3, d4] => { results := [.lit (.bool true)], args := [d1, d2, d3, d4] }
  | _ => none }
def daycountAddsRow : OpenClaim := { program := "ytjhhjpcljcnkaaa", sum := "51c5c220507a992152f2c965c0c223727755383584bc37e670465c52057e39a3", func := "corebank/corebanklaw06.DaycountAdds", spec := "daycountAdds", inPlace := ["math/bits.Add64"], apart := false }
def DaycountAddsSaid : Prop := daycountAddsRow.holds Try.pinned (OpenSpec.ofChange daycountAddsSpec)

/-- ITS FALSE NEIGHBOUR: 'it returns false'. Refute it at one input. -/
def daycountAddsWrong : ChangeSpec := { name := "daycountAdds", fn := fun _ => fun
  | [d1, d2, d3, d4] => { results := [.lit (.bool false)], args := [d1, d2, d3, d4] }
  | _ => none }
def DaycountAddsWrongFalsely : Prop := daycountAddsRow.holds Try.pinned (OpenSpec.ofChange daycountAddsWrong)

/-- 'corebanklaw06.DaycountInterest': WHATEVER THE INPUT: true; the input reads as it did. -/
def daycountInterestSpec : ChangeSpec := { name := "daycountInterest", fn := fun _ => fun
  | [d1, d2, d3] => { results := [.lit (.bool true)], args := [d1, d2, d3] }
  | _ => none }
def daycountInterestRow : OpenClaim := { program := "ytjhhjpcljcnkaaa", sum := "51c5c220507a992152f2c965c0c223727755383584bc37e670465c52057e39a3", func := "corebank/corebanklaw06.DaycountInterest", spec := "daycountInterest", inPlace := ["math/bits.Add64"], apart := false }
def DaycountInterestSaid : Prop := daycountInterestRow.holds Try.pinned (OpenSpec.ofChange daycountInterestSpec)

/-- ITS FALSE NEIGHBOUR: 'it returns false'. Refute it at one input. -/
def daycountInterestWrong : ChangeSpec := { name := "daycountInterest", fn := fun _ => fun
  | [d1, d2, d3] => { results := [.lit (.bool false)], args := [d1, d2, d3] }
  | _ => none }
def DaycountInterestWrongFalsely : Prop := daycountInterestRow.holds Try.pinned (OpenSpec.ofChange daycountInterestWrong)

/-- 'corebanklaw06.DaycountSplits': WHATEVER THE INPUT: true; the input reads as it did. -/
def daycountSplitsSpec : ChangeSpec := { name := "daycountSplits", fn := fun _ => fun
  | [d1, d2, d3, d4] => { results := [.lit (.bool true)], args := [d1, d2, d3, d4] }
  | _ => none }
def daycountSplitsRow : OpenClaim := { program := "ytjhhjpcljcnkaaa", sum := "51c5c220507a992152f2c965c0c223727755383584bc37e670465c52057e39a3", func := "corebank/corebanklaw06.DaycountSplits", spec := "daycountSplits", inPlace := ["math/bits.Add64"], apart := false }
def DaycountSplitsSaid : Prop := daycountSplitsRow.holds Try.pinned (OpenSpec.ofChange daycountSplitsSpec)

/-- ITS FALSE NEIGHBOUR: 'it returns false'. Refute it at one input. -/
def daycountSplitsWrong : ChangeSpec := { name := "daycountSplits", fn := fun _ => fun
  | [d1, d2, d3, d4] => { results := [.lit (.bool false)], args := [d1, d2, d3, d4] }
  | _ => none }
def DaycountSplitsWrongFalsely : Prop := daycountSplitsRow.holds Try.pinned (OpenSpec.ofChange daycountSplitsWrong)

/-- 'corebanklaw06.DaycountYears': WHATEVER THE INPUT: true; the input reads as it did. -/
def daycountYearsSpec : ChangeSpec := { name := "daycountYears", fn := fun _ => fun
  | [d1, d2, d3] => { results := [.lit (.bool true)], args := [d1, d2, d3] }
  | _ => none }
def daycountYearsRow : OpenClaim := { program := "ytjhhjpcljcnkaaa", sum := "51c5c220507a992152f2c965c0c223727755383584bc37e670465c52057e39a3", func := "corebank/corebanklaw06.DaycountYears", spec := "daycountYears", inPlace := ["math/bits.Add64"], apart := false }
def DaycountYearsSaid : Prop := daycountYearsRow.holds Try.pinned (OpenSpec.ofChange daycountYearsSpec)

/-- ITS FALSE NEIGHBOUR: 'it returns false'. Refute it at one input. -/
def daycountYearsWrong : ChangeSpec := { name := "daycountYears", fn := fun _ => fun
  | [d1, d2, d3] => { results := [.lit (.bool false)], args := [d1, d2, d3] }
  | _ => none }
def DaycountYearsWrongFalsely : Prop := daycountYearsRow.holds Try.pinned (OpenSpec.ofChange daycountYearsWrong)

/- THE SECOND FORM. 'bulk': how many values and letters a reading holds, each counted each time it is reached (what is shared counts as often as it is met; a slice's spare places count too). A statement '..UptoSaid' is the law's where the arguments, and the package variables that the reading takes, are together of bulk at most 1048576: NARROWER than '..Said'. Prove '..Said' where nothing that the law and all that it calls make is longer than what came in: it says more and counts as full. Else prove '..UptoSaid'. A law counts once. -/
mutual
def uptoBulk {H : Type} : DataW H → Nat
  | .lit (.string bytes) => bytes.length + 1
  | .lit _ => 1
  | .nil => 1
  | .ptr d => uptoBulk d + 1
  | .slice elems spare => uptoBulkAll elems + uptoBulkAll spare + 1
  | .agg parts => uptoBulkAll parts + 1
  | .iface _ d => uptoBulk d + 1
  | .map entries => uptoBulkEntries entries + 1
  | .held _ => 1
def uptoBulkAll {H : Type} : List (DataW H) → Nat
  | [] => 0
  | d :: r => uptoBulk d + uptoBulkAll r
def uptoBulkEntries {H : Type} : List (Lit × DataW H) → Nat
  | [] => 0
  | x :: r => uptoBulkEntry x + uptoBulkEntries r
def uptoBulkEntry {H : Type} : Lit × DataW H → Nat
  | (.string bytes, d) => bytes.length + uptoBulk d + 1
  | (_, d) => uptoBulk d + 1
 end
def uptoSmall : (H : Type) → List (DataW H) → Bool := fun _ ds => decide (uptoBulkAll ds ≤ 1048576)
def OpenSpec.upto (s : _root_.Go.ChangeSpec) : _root_.Go.OpenSpec := { _root_.Go.OpenSpec.ofChange s with cond := some uptoSmall }

/-- 'corebanklaw06.DaycountWeights', WHERE WHAT IT READS IS OF BULK AT MOST 1048576: true; the input reads as it did. -/
def daycountWeightsUptoRow : OpenClaim := { program := "ytjhhjpcljcnkaaa", sum := "51c5c220507a992152f2c965c0c223727755383584bc37e670465c52057e39a3", func := "corebank/corebanklaw06.DaycountWeights", spec := "daycountWeights", inPlace := ["math/bits.Add64"], apart := false, narrowed := true }
def DaycountWeightsUptoSaid : Prop := daycountWeightsUptoRow.holds Try.pinned (OpenSpec.upto daycountWeightsSpec)

/-- 'corebanklaw06.DaycountThirty', WHERE WHAT IT READS IS OF BULK AT MOST 1048576: true; the input reads as it did. -/
def daycountThirtyUptoRow : OpenClaim := { program := "ytjhhjpcljcnkaaa", sum := "51c5c220507a992152f2c965c0c223727755383584bc37e670465c52057e39a3", func := "corebank/corebanklaw06.DaycountThirty", spec := "daycountThirty", inPlace := ["math/bits.Add64"], apart := false, narrowed := true }
def DaycountThirtyUptoSaid : Prop := daycountThirtyUptoRow.holds Try.pinned (OpenSpec.upto daycountThirtySpec)

/-- 'corebanklaw06.DaycountSums', WHERE WHAT IT READS IS OF BULK AT MOST 1048576: true; the input reads as it did. -/
def daycountSumsUptoRow : OpenClaim := { program := "ytjhhjpcljcnkaaa", sum := "51c5c220507a992152f2c965c0c223727755383584bc37e670465c52057e39a3", func := "corebank/corebanklaw06.DaycountSums", spec := "daycountSums", inPlace := ["math/bits.Add64"], apart := false, narrowed := true }
def DaycountSumsUptoSaid : Prop := daycountSumsUptoRow.holds Try.pinned (OpenSpec.upto daycountSumsSpec)

/-- 'corebanklaw06.DaycountAdds', WHERE WHAT IT READS IS OF BULK AT MOST 1048576: true; the input reads as it did. -/
def daycountAddsUptoRow : OpenClaim := { program := "ytjhhjpcljcnkaaa", sum := "51c5c220507a992152f2c965c0c223727755383584bc37e670465c52057e39a3", func := "corebank/corebanklaw06.DaycountAdds", spec := "daycountAdds", inPlace := ["math/bits.Add64"], apart := false, narrowed := true }
def DaycountAddsUptoSaid : Prop := daycountAddsUptoRow.holds Try.pinned (OpenSpec.upto daycountAddsSpec)

/-- 'corebanklaw06.DaycountInterest', WHERE WHAT IT READS IS OF BULK AT MOST 1048576: true; the input reads as it did. -/
def daycountInterestUptoRow : OpenClaim := { program := "ytjhhjpcljcnkaaa", sum := "51c5c220507a992152f2c965c0c223727755383584bc37e670465c52057e39a3", func := "corebank/corebanklaw06.DaycountInterest", spec := "daycountInterest", inPlace := ["math/bits.Add64"], apart := false, narrowed := true }
def DaycountInterestUptoSaid : Prop := daycountInterestUptoRow.holds Try.pinned (OpenSpec.upto daycountInterestSpec)

/-- 'corebanklaw06.DaycountSplits', WHERE WHAT IT READS IS OF BULK AT MOST 1048576: true; the input reads as it did. -/
def daycountSplitsUptoRow : OpenClaim := { program := "ytjhhjpcljcnkaaa", sum := "51c5c220507a992152f2c965c0c223727755383584bc37e670465c52057e39a3", func := "corebank/corebanklaw06.DaycountSplits", spec := "daycountSplits", inPlace := ["math/bits.Add64"], apart := false, narrowed := true }
def DaycountSplitsUptoSaid : Prop := daycountSplitsUptoRow.holds Try.pinned (OpenSpec.upto daycountSplitsSpec)

/-- 'corebanklaw06.DaycountYears', WHERE WHAT IT READS IS OF BULK AT MOST 1048576: true; the input reads as it did. -/
def daycountYearsUptoRow : OpenClaim := { program := "ytjhhjpcljcnkaaa", sum := "51c5c220507a992152f2c965c0c223727755383584bc37e670465c52057e39a3", func := "corebank/corebanklaw06.DaycountYears", spec := "daycountYears", inPlace := ["math/bits.Add64"], apart := false, narrowed := true }
def DaycountYearsUptoSaid : Prop := daycountYearsUptoRow.holds Try.pinned (OpenSpec.upto daycountYearsSpec)

end Rows
end Go.Proofs.Ytjhhjpcljcnkaaa
