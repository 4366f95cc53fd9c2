/-
  No cell of these rows narrows 'for every input' (looked for: loops, veiled, ifaces, maps, wideKeys, modest, calm, conditions, laid).
  DERIVED. THE GIVEN ROWS OF THIS SEAT. 4 by the template 'for every input the law returns true; each argument reads behind the call as it read before'; 0 by the template 'total and deterministic' (their statements: YtdlmoijeflchgaaTotals.lean).
  GIVEN WITH THE SEED: the statements are not yours to turn. If you find one false, say at which input.
  Laid BY PROGRAM, IN A SANDBOX (cutbox-rows.mjs): the forced cells as the released guide's own fill.sh prints them over the translation 48ece6092d6e95aa… (all of the seat's roots in one cut). By AI agents, Wed Nov 11 2026. No macro, syntax, notation, axiom, sorry.
-/
import Derived.Test.YtdlmoijeflchgaaChecked
import GoSem.Claim
import GoSem.ClaimJoined
import GoSem.ClaimMapViews
import Derived.JoinedTies
import Derived.KernelRfl
namespace Go.Proofs.Ytdlmoijeflchgaa
/- THE CELL 'sum', in the pinned program and in every row, IS THE sha256 OF THE DUMP (.gsa) THAT YtdlmoijeflchgaaProg.lean LOADS. Nothing in Lean hashes anything: it is a label: what it is worth is what the hold of that sum in a sandbox is worth. -/
noncomputable def Try.pinned : Pinned := { name := "ytdlmoijeflchgaa", sum := "48ece6092d6e95aac05f7558033d2f1ca3196314f3f5acf0ac968c6b3e673c61", checked := Try.checked }
namespace Rows
def none {H : Type} : Left H := { results := [], args := [] }

/-- 'corebanklaw40.StandingChecks': WHATEVER THE INPUT: true; the input reads as it did. -/
def standingChecksSpec : ChangeSpec := { name := "standingChecks", fn := fun _ => fun
  | [d1, d2] => { results := [.lit (.bool true)], args := [d1, d2] }
  | _ => none }
def standingChecksRow : OpenClaim := { program := "ytdlmoijeflchgaa", sum := "48ece6092d6e95aac05f7558033d2f1ca3196314f3f5acf0ac968c6b3e673c61", func := "corebank/corebanklaw40.StandingChecks", spec := "standingChecks", unfollowed := true, recurses := true, apart := false }
def StandingChecksSaid : Prop := standingChecksRow.holds Try.pinned (OpenSpec.ofChange standingChecksSpec)

/-- ITS FALSE NEIGHBOUR: 'it returns false'. Refute it at one input. -/
def standingChecksWrong : ChangeSpec := { name := "standingChecks", fn := fun _ => fun
  | [d1, d2] => { results := [.lit (.bool false)], args := [d1, d2] }
  | _ => none }
def StandingChecksWrongFalsely : Prop := standingChecksRow.holds Try.pinned (OpenSpec.ofChange standingChecksWrong)

/-- 'corebanklaw40.StandingKeeps': WHATEVER THE INPUT: true; the input reads as it did. -/
def standingKeepsSpec : ChangeSpec := { name := "standingKeeps", fn := fun _ => fun
  | [d1, d2, d3] => { results := [.lit (.bool true)], args := [d1, d2, d3] }
  | _ => none }
def standingKeepsRow : OpenClaim := { program := "ytdlmoijeflchgaa", sum := "48ece6092d6e95aac05f7558033d2f1ca3196314f3f5acf0ac968c6b3e673c61", func := "corebank/corebanklaw40.StandingKeeps", spec := "standingKeeps", unfollowed := true, recurses := true, apart := false }
def StandingKeepsSaid : Prop := standingKeepsRow.holds Try.pinned (OpenSpec.ofChange standingKeepsSpec)

/-- ITS FALSE NEIGHBOUR: 'it returns false'. Refute it at one input. -/
def standingKeepsWrong : ChangeSpec := { name := "standingKeeps", fn := fun _ => fun
  | [d1, d2, d3] => { results := [.lit (.bool false)], args := [d1, d2, d3] }
  | _ => none }
def StandingKeepsWrongFalsely : Prop := standingKeepsRow.holds Try.pinned (OpenSpec.ofChange standingKeepsWrong)

/-- 'corebanklaw40.StandingAdvances': WHATEVER THE INPUT: true; the input reads as it did. -/
def standingAdvancesSpec : ChangeSpec := { name := "standingAdvances", fn := fun _ => fun
  | [d1, d2] => { results := [.lit (.bool true)], args := [d1, d2] }
  | _ => none }
def standingAdvancesRow : OpenClaim := { program := "ytdlmoijeflchgaa", sum := "48ece6092d6e95aac05f7558033d2f1ca3196314f3f5acf0ac968c6b3e673c61", func := "corebank/corebanklaw40.StandingAdvances", spec := "standingAdvances", unfollowed := true, recurses := true, apart := false }
def StandingAdvancesSaid : Prop := standingAdvancesRow.holds Try.pinned (OpenSpec.ofChange standingAdvancesSpec)

/-- ITS FALSE NEIGHBOUR: 'it returns false'. Refute it at one input. -/
def standingAdvancesWrong : ChangeSpec := { name := "standingAdvances", fn := fun _ => fun
  | [d1, d2] => { results := [.lit (.bool false)], args := [d1, d2] }
  | _ => none }
def StandingAdvancesWrongFalsely : Prop := standingAdvancesRow.holds Try.pinned (OpenSpec.ofChange standingAdvancesWrong)

/-- 'corebanklaw40.StandingGivesUp': WHATEVER THE INPUT: true; the input reads as it did. -/
def standingGivesUpSpec : ChangeSpec := { name := "standingGivesUp", fn := fun _ => fun
  | [d1, d2] => { results := [.lit (.bool true)], args := [d1, d2] }
  | _ => none }
def standingGivesUpRow : OpenClaim := { program := "ytdlmoijeflchgaa", sum := "48ece6092d6e95aac05f7558033d2f1ca3196314f3f5acf0ac968c6b3e673c61", func := "corebank/corebanklaw40.StandingGivesUp", spec := "standingGivesUp", unfollowed := true, recurses := true, apart := false }
def StandingGivesUpSaid : Prop := standingGivesUpRow.holds Try.pinned (OpenSpec.ofChange standingGivesUpSpec)

/-- ITS FALSE NEIGHBOUR: 'it returns false'. Refute it at one input. -/
def standingGivesUpWrong : ChangeSpec := { name := "standingGivesUp", fn := fun _ => fun
  | [d1, d2] => { results := [.lit (.bool false)], args := [d1, d2] }
  | _ => none }
def StandingGivesUpWrongFalsely : Prop := standingGivesUpRow.holds Try.pinned (OpenSpec.ofChange standingGivesUpWrong)

/- THE SECOND FORM. 'bulk': how many values and letters a reading holds, each counted each time it is reached (what is shared counts as often as it is met; a slice's spare places count too). A statement '..UptoSaid' is the law's where the arguments, and the package variables that the reading takes, are together of bulk at most 1048576: NARROWER than '..Said'. Prove '..Said' where nothing that the law and all that it calls make is longer than what came in: it says more and counts as full. Else prove '..UptoSaid'. A law counts once. -/
mutual
def uptoBulk {H : Type} : DataW H → Nat
  | .lit (.string bytes) => bytes.length + 1
  | .lit _ => 1
  | .nil => 1
  | .ptr d => uptoBulk d + 1
  | .slice elems spare => uptoBulkAll elems + uptoBulkAll spare + 1
  | .agg parts => uptoBulkAll parts + 1
  | .iface _ d => uptoBulk d + 1
  | .map entries => uptoBulkEntries entries + 1
  | .held _ => 1
def uptoBulkAll {H : Type} : List (DataW H) → Nat
  | [] => 0
  | d :: r => uptoBulk d + uptoBulkAll r
def uptoBulkEntries {H : Type} : List (Lit × DataW H) → Nat
  | [] => 0
  | x :: r => uptoBulkEntry x + uptoBulkEntries r
def uptoBulkEntry {H : Type} : Lit × DataW H → Nat
  | (.string bytes, d) => bytes.length + uptoBulk d + 1
  | (_, d) => uptoBulk d + 1
 end
def uptoSmall : (H : Type) → List (DataW H) → Bool := fun _ ds => decide (uptoBulkAll ds ≤ 1048576)
def OpenSpec.upto (s : _root_.Go.ChangeSpec) : _root_.Go.OpenSpec := { _root_.Go.OpenSpec.ofChange s with cond := some uptoSmall }

/-- 'corebanklaw40.StandingChecks', WHERE WHAT IT READS IS OF BULK AT MOST 1048576: true; the input reads as it did. -/
def standingChecksUptoRow : OpenClaim := { program := "ytdlmoijeflchgaa", sum := "48ece6092d6e95aac05f7558033d2f1ca3196314f3f5acf0ac968c6b3e673c61", func := "corebank/corebanklaw40.StandingChecks", spec := "standingChecks", unfollowed := true, recurses := true, apart := false, narrowed := true }
def StandingChecksUptoSaid : Prop := standingChecksUptoRow.holds Try.pinned (OpenSpec.upto standingChecksSpec)

/-- 'corebanklaw40.StandingKeeps', WHERE WHAT IT READS IS OF BULK AT MOST 1048576: true; the input reads as it did. -/
def standingKeepsUptoRow : OpenClaim := { program := "ytdlmoijeflchgaa", sum := "48ece6092d6e95aac05f7558033d2f1ca3196314f3f5acf0ac968c6b3e673c61", func := "corebank/corebanklaw40.StandingKeeps", spec := "standingKeeps", unfollowed := true, recurses := true, apart := false, narrowed := true }
def StandingKeepsUptoSaid : Prop := standingKeepsUptoRow.holds Try.pinned (OpenSpec.upto standingKeepsSpec)

/-- 'corebanklaw40.StandingAdvances', WHERE WHAT IT READS IS OF BULK AT MOST 1048576: true; the input reads as it did. -/
def standingAdvancesUptoRow : OpenClaim := { program := "ytdlmoijeflchgaa", sum := "48ece6092d6e95aac05f7558033d2f1ca3196314f3f5acf0ac968c6b3e673c61", func := "corebank/corebanklaw40.StandingAdvances", spec := "standingAdvances", unfollowed := true, recurses := true, apart := false, narrowed := true }
def StandingAdvancesUptoSaid : Prop := standingAdvancesUptoRow.holds Try.pinned (OpenSpec.upto standingAdvancesSpec)

/-- 'corebanklaw40.StandingGivesUp', WHERE WHAT IT READS IS OF BULK AT MOST 1048576: true; the input reads as it did. -/
def standingGivesUpUptoRow : OpenClaim := { program := "ytdlmoijeflchgaa", sum := "48ece6092d6e95aac05f7558033d2f1ca3196314f3f5acf0ac968c6b3e673c61", func := "corebank/corebanklaw40.StandingGivesUp", spec := "standingGivesUp", unfollowed := true, recurses := true, apart := false, narrowed := true }
def StandingGivesUpUptoSaid : Prop := standingGivesUpUptoRow.holds Try.pinned (OpenSpec.upto standingGivesUpSpec)

end Rows
end Go.Proofs.Ytdlmoijeflchgaa
