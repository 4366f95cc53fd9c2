/-
  No cell of these rows narrows 'for every input' (looked for: loops, veiled, ifaces, maps, wideKeys, modest, calm, conditions, laid).
  DERIVED. THE GIVEN ROWS OF THIS SEAT. 4 by the template 'for every input the law returns true; each argument reads behind the call as it read before'; 0 by the template 'total and deterministic' (their statements: YtaibocobeibobaaTotals.lean).
  GIVEN WITH THE SEED: the statements are not yours to turn. If you find one false, say at which input.
  Laid BY PROGRAM, IN A SANDBOX (cutbox-rows.mjs): the forced cells as the released guide's own fill.sh prints them over the translation 657a929209c34785… (all of the seat's roots in one cut). By AI agents, Wed Nov 11 2026. No macro, syntax, notation, axiom, sorry.
-/
import Derived.Test.YtaibocobeibobaaChecked
import GoSem.Claim
import GoSem.ClaimJoined
import GoSem.ClaimMapViews
import Derived.JoinedTies
import Derived.KernelRfl
namespace Go.Proofs.Ytaibocobeibobaa
/- THE CELL 'sum', in the pinned program and in every row, IS THE sha256 OF THE DUMP (.gsa) THAT YtaibocobeibobaaProg.lean LOADS. Nothing in Lean hashes anything: it is a label: what it is worth is what the hold of that sum in a sandbox is worth. -/
noncomputable def Try.pinned : Pinned := { name := "ytaibocobeibobaa", sum := "657a929209c34785cd3044d1a1921b3c61e0c19d6d76f6f44c43e72d5c500d7b", checked := Try.checked }
namespace Rows
def none {H : Type} : Left H := { results := [], args := [] }

/-- 'corebanklaw34.LoanChecks': WHATEVER THE INPUT: true; the input reads as it did. -/
def loanChecksSpec : ChangeSpec := { name := "loanChecks", fn := fun _ => fun
  | [d1, d2] => { results := [.lit (.bool true)], args := [d1, d2] }
  | _ => none }
def loanChecksRow : OpenClaim := { program := "ytaibocobeibobaa", sum := "657a929209c34785cd3044d1a1921b3c61e0c19d6d76f6f44c43e72d5c500d7b", func := "corebank/corebanklaw34.LoanChecks", spec := "loanChecks", unfollowed := true, recurses := true, apart := false }
def LoanChecksSaid : Prop := loanChecksRow.holds Try.pinned (OpenSpec.ofChange loanChecksSpec)

/-- ITS FALSE NEIGHBOUR: 'it returns false'. Refute it at one input. -/
def loanChecksWrong : ChangeSpec := { name := "loanChecks", fn := fun _ => fun
  | [d1, d2] => { results := [.lit (.bool false)], args := [d1, d2] }
  | _ => none }
def LoanChecksWrongFalsely : Prop := loanChecksRow.holds Try.pinned (OpenSpec.ofChange loanChecksWrong)

/-- 'corebanklaw34.LoanPays': WHATEVER THE INPUT: true; the input reads as it did. -/
def loanPaysSpec : ChangeSpec := { name := "loanPays", fn := fun _ => fun
  | [d1, d2, d3] => { results := [.lit (.bool true)], args := [d1, d2, d3] }
  | _ => none }
def loanPaysRow : OpenClaim := { program := "ytaibocobeibobaa", sum := "657a929209c34785cd3044d1a1921b3c61e0c19d6d76f6f44c43e72d5c500d7b", func := "corebank/corebanklaw34.LoanPays", spec := "loanPays", unfollowed := true, recurses := true, apart := false }
def LoanPaysSaid : Prop := loanPaysRow.holds Try.pinned (OpenSpec.ofChange loanPaysSpec)

/-- ITS FALSE NEIGHBOUR: 'it returns false'. Refute it at one input. -/
def loanPaysWrong : ChangeSpec := { name := "loanPays", fn := fun _ => fun
  | [d1, d2, d3] => { results := [.lit (.bool false)], args := [d1, d2, d3] }
  | _ => none }
def LoanPaysWrongFalsely : Prop := loanPaysRow.holds Try.pinned (OpenSpec.ofChange loanPaysWrong)

/-- 'corebanklaw34.LoanConserves': WHATEVER THE INPUT: true; the input reads as it did. -/
def loanConservesSpec : ChangeSpec := { name := "loanConserves", fn := fun _ => fun
  | [d1, d2, d3] => { results := [.lit (.bool true)], args := [d1, d2, d3] }
  | _ => none }
def loanConservesRow : OpenClaim := { program := "ytaibocobeibobaa", sum := "657a929209c34785cd3044d1a1921b3c61e0c19d6d76f6f44c43e72d5c500d7b", func := "corebank/corebanklaw34.LoanConserves", spec := "loanConserves", unfollowed := true, recurses := true, apart := false }
def LoanConservesSaid : Prop := loanConservesRow.holds Try.pinned (OpenSpec.ofChange loanConservesSpec)

/-- ITS FALSE NEIGHBOUR: 'it returns false'. Refute it at one input. -/
def loanConservesWrong : ChangeSpec := { name := "loanConserves", fn := fun _ => fun
  | [d1, d2, d3] => { results := [.lit (.bool false)], args := [d1, d2, d3] }
  | _ => none }
def LoanConservesWrongFalsely : Prop := loanConservesRow.holds Try.pinned (OpenSpec.ofChange loanConservesWrong)

/-- 'corebanklaw34.LoanTwice': WHATEVER THE INPUT: true; the input reads as it did. -/
def loanTwiceSpec : ChangeSpec := { name := "loanTwice", fn := fun _ => fun
  | [d1, d2, d3] => { results := [.lit (.bool true)], args := [d1, d2, d3] }
  | _ => none }
def loanTwiceRow : OpenClaim := { program := "ytaibocobeibobaa", sum := "657a929209c34785cd3044d1a1921b3c61e0c19d6d76f6f44c43e72d5c500d7b", func := "corebank/corebanklaw34.LoanTwice", spec := "loanTwice", unfollowed := true, recurses := true, apart := false }
def LoanTwiceSaid : Prop := loanTwiceRow.holds Try.pinned (OpenSpec.ofChange loanTwiceSpec)

/-- ITS FALSE NEIGHBOUR: 'it returns false'. Refute it at one input. -/
def loanTwiceWrong : ChangeSpec := { name := "loanTwice", fn := fun _ => fun
  | [d1, d2, d3] => { results := [.lit (.bool false)], args := [d1, d2, d3] }
  | _ => none }
def LoanTwiceWrongFalsely : Prop := loanTwiceRow.holds Try.pinned (OpenSpec.ofChange loanTwiceWrong)

/- THE SECOND FORM. 'bulk': how many values and letters a reading holds, each counted each time it is reached (what is shared counts as often as it is met; a slice's spare places count too). A statement '..UptoSaid' is the law's where the arguments, and the package variables that the reading takes, are together of bulk at most 1048576: NARROWER than '..Said'. Prove '..Said' where nothing that the law and all that it calls make is longer than what came in: it says more and counts as full. Else prove '..UptoSaid'. A law counts once. -/
mutual
def uptoBulk {H : Type} : DataW H → Nat
  | .lit (.string bytes) => bytes.length + 1
  | .lit _ => 1
  | .nil => 1
  | .ptr d => uptoBulk d + 1
  | .slice elems spare => uptoBulkAll elems + uptoBulkAll spare + 1
  | .agg parts => uptoBulkAll parts + 1
  | .iface _ d => uptoBulk d + 1
  | .map entries => uptoBulkEntries entries + 1
  | .held _ => 1
def uptoBulkAll {H : Type} : List (DataW H) → Nat
  | [] => 0
  | d :: r => uptoBulk d + uptoBulkAll r
def uptoBulkEntries {H : Type} : List (Lit × DataW H) → Nat
  | [] => 0
  | x :: r => uptoBulkEntry x + uptoBulkEntries r
def uptoBulkEntry {H : Type} : Lit × DataW H → Nat
  | (.string bytes, d) => bytes.length + uptoBulk d + 1
  | (_, d) => uptoBulk d + 1
 end
def uptoSmall : (H : Type) → List (DataW H) → Bool := fun _ ds => decide (uptoBulkAll ds ≤ 1048576)
def OpenSpec.upto (s : _root_.Go.ChangeSpec) : _root_.Go.OpenSpec := { _root_.Go.OpenSpec.ofChange s with cond := some uptoSmall }

/-- 'corebanklaw34.LoanChecks', WHERE WHAT IT READS IS OF BULK AT MOST 1048576: true; the input reads as it did. -/
def loanChecksUptoRow : OpenClaim := { program := "ytaibocobeibobaa", sum := "657a929209c34785cd3044d1a1921b3c61e0c19d6d76f6f44c43e72d5c500d7b", func := "corebank/corebanklaw34.LoanChecks", spec := "loanChecks", unfollowed := true, recurses := true, apart := false, narrowed := true }
def LoanChecksUptoSaid : Prop := loanChecksUptoRow.holds Try.pinned (OpenSpec.upto loanChecksSpec)

/-- 'corebanklaw34.LoanPays', WHERE WHAT IT READS IS OF BULK AT MOST 1048576: true; the input reads as it did. -/
def loanPaysUptoRow : OpenClaim := { program := "ytaibocobeibobaa", sum := "657a929209c34785cd3044d1a1921b3c61e0c19d6d76f6f44c43e72d5c500d7b", func := "corebank/corebanklaw34.LoanPays", spec := "loanPays", unfollowed := true, recurses := true, apart := false, narrowed := true }
def LoanPaysUptoSaid : Prop := loanPaysUptoRow.holds Try.pinned (OpenSpec.upto loanPaysSpec)

/-- 'corebanklaw34.LoanConserves', WHERE WHAT IT READS IS OF BULK AT MOST 1048576: true; the input reads as it did. -/
def loanConservesUptoRow : OpenClaim := { program := "ytaibocobeibobaa", sum := "657a929209c34785cd3044d1a1921b3c61e0c19d6d76f6f44c43e72d5c500d7b", func := "corebank/corebanklaw34.LoanConserves", spec := "loanConserves", unfollowed := true, recurses := true, apart := false, narrowed := true }
def LoanConservesUptoSaid : Prop := loanConservesUptoRow.holds Try.pinned (OpenSpec.upto loanConservesSpec)

/-- 'corebanklaw34.LoanTwice', WHERE WHAT IT READS IS OF BULK AT MOST 1048576: true; the input reads as it did. -/
def loanTwiceUptoRow : OpenClaim := { program := "ytaibocobeibobaa", sum := "657a929209c34785cd3044d1a1921b3c61e0c19d6d76f6f44c43e72d5c500d7b", func := "corebank/corebanklaw34.LoanTwice", spec := "loanTwice", unfollowed := true, recurses := true, apart := false, narrowed := true }
def LoanTwiceUptoSaid : Prop := loanTwiceUptoRow.holds Try.pinned (OpenSpec.upto loanTwiceSpec)

end Rows
end Go.Proofs.Ytaibocobeibobaa
