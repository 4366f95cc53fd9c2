/-
  NARROWER THAN 'FOR EVERY INPUT', by the rows' own cells (each row's printed sentence says how): ScheduleChecks: laid · ScheduleDays: laid · ScheduleBuilds: laid · ScheduleSums: laid · ScheduleRepays: laid · ScheduleLevel: laid.
  DERIVED. THE GIVEN ROWS OF THIS SEAT. 6 by the template 'for every input the law returns true; each argument reads behind the call as it read before'; 0 by the template 'total and deterministic' (their statements: YtmdjikmpgckpbaaDoorTotals.lean).
  GIVEN WITH THE SEED: the statements are not yours to turn. If you find one false, say at which input.
  Laid BY PROGRAM, IN A SANDBOX (cutbox-rows.mjs): the forced cells as the released guide's own fill.sh prints them over the translation af07b50a162a9694… (all of the seat's roots in one cut). By AI agents, Wed Nov 11 2026. No macro, syntax, notation, axiom, sorry.
-/
import Derived.Test.YtmdjikmpgckpbaaDoorChecked
import GoSem.Claim
import GoSem.ClaimJoined
import GoSem.ClaimMapViews
import Derived.JoinedTies
import Derived.KernelRfl
namespace Go.Proofs.YtmdjikmpgckpbaaDoor
/- THE CELL 'sum', in the pinned program and in every row, IS THE sha256 OF THE DUMP (.gsa) THAT YtmdjikmpgckpbaaDoorProg.lean LOADS. Nothing in Lean hashes anything: it is a label: what it is worth is what the hold of that sum in a sandbox is worth. -/
noncomputable def Tryd.pinned : Pinned := { name := "ytmdjikmpgckpbaadoor", sum := "af07b50a162a9694584e479efccbc227c954923eacfdc2748080c922de96dbd7", checked := Tryd.checked }
namespace Rows
def none {H : Type} : Left H := { results := [], args := [] }

/- WHAT THE LISTED PACKAGE-LEVEL VARIABLES READ AS WHEN THE CALL BEGINS. Each datum BY PROGRAM (the guide's laid-datum.mjs) off the statement by which the dump's own 'gosem.cut.vars' lays the variable. In a bare row this is a premise. The card (YtmdjikmpgckpbaaDoorCards.lean) ties it to the program's text. -/
def laid_corebank_rounding_steps {H : Type} : DataW H := .agg [.agg [.lit (.int .i64 0), .lit (.int .i64 0)], .agg [.lit (.int .i64 1), .lit (.int .i64 0)], .agg [.lit (.int .i64 0), .lit (.int .i64 1)], .agg [.lit (.int .i64 0), .lit (.int .i64 0)], .agg [.lit (.int .i64 1), .lit (.int .i64 1)]]

/-- 'corebanklaw33.ScheduleChecks': WHATEVER THE INPUT: true; the input reads as it did. -/
def scheduleChecksSpec : ChangeSpec := { name := "scheduleChecks", fn := fun _ => fun
  | [d1, d2] => { results := [.lit (.bool true)], args := [d1, d2] }
  | _ => none }
def scheduleChecksRow : OpenClaim := { program := "ytmdjikmpgckpbaadoor", sum := "af07b50a162a9694584e479efccbc227c954923eacfdc2748080c922de96dbd7", func := "corebank/corebanklaw33.ScheduleChecks", spec := "scheduleChecks", inPlace := ["math/bits.Add64"], unfollowed := true, recurses := true, named := ["math/bits.divideError", "math/bits.overflowError", "corebank/rounding.steps"], apart := false, laid := [("corebank/rounding.steps", laid_corebank_rounding_steps)] }
def ScheduleChecksSaid : Prop := scheduleChecksRow.holds Tryd.pinned (OpenSpec.ofChange scheduleChecksSpec)

/-- ITS FALSE NEIGHBOUR: 'it returns false'. Refute it at one input. -/
def scheduleChecksWrong : ChangeSpec := { name := "scheduleChecks", fn := fun _ => fun
  | [d1, d2] => { results := [.lit (.bool false)], args := [d1, d2] }
  | _ => none }
def ScheduleChecksWrongFalsely : Prop := scheduleChecksRow.holds Tryd.pinned (OpenSpec.ofChange scheduleChecksWrong)

/-- 'corebanklaw33.ScheduleDays': WHATEVER THE INPUT: true; the input reads as it did. -/
def scheduleDaysSpec : ChangeSpec := { name := "scheduleDays", fn := fun _ => fun
  | [d1, d2] => { results := [.lit (.bool true)], args := [d1, d2] }
  | _ => none }
def scheduleDaysRow : OpenClaim := { program := "ytmdjikmpgckpbaadoor", sum := "af07b50a162a9694584e479efccbc227c954923eacfdc2748080c922de96dbd7", func := "corebank/corebanklaw33.ScheduleDays", spec := "scheduleDays", inPlace := ["math/bits.Add64"], unfollowed := true, recurses := true, named := ["math/bits.divideError", "math/bits.overflowError", "corebank/rounding.steps"], apart := false, laid := [("corebank/rounding.steps", laid_corebank_rounding_steps)] }
def ScheduleDaysSaid : Prop := scheduleDaysRow.holds Tryd.pinned (OpenSpec.ofChange scheduleDaysSpec)

/-- ITS FALSE NEIGHBOUR: 'it returns false'. Refute it at one input. -/
def scheduleDaysWrong : ChangeSpec := { name := "scheduleDays", fn := fun _ => fun
  | [d1, d2] => { results := [.lit (.bool false)], args := [d1, d2] }
  | _ => none }
def ScheduleDaysWrongFalsely : Prop := scheduleDaysRow.holds Tryd.pinned (OpenSpec.ofChange scheduleDaysWrong)

/-- 'corebanklaw33.ScheduleBuilds': WHATEVER THE INPUT: true; the input reads as it did. -/
def scheduleBuildsSpec : ChangeSpec := { name := "scheduleBuilds", fn := fun _ => fun
  | [d1, d2] => { results := [.lit (.bool true)], args := [d1, d2] }
  | _ => none }
def scheduleBuildsRow : OpenClaim := { program := "ytmdjikmpgckpbaadoor", sum := "af07b50a162a9694584e479efccbc227c954923eacfdc2748080c922de96dbd7", func := "corebank/corebanklaw33.ScheduleBuilds", spec := "scheduleBuilds", inPlace := ["math/bits.Add64"], unfollowed := true, recurses := true, named := ["math/bits.divideError", "math/bits.overflowError", "corebank/rounding.steps"], apart := false, laid := [("corebank/rounding.steps", laid_corebank_rounding_steps)] }
def ScheduleBuildsSaid : Prop := scheduleBuildsRow.holds Tryd.pinned (OpenSpec.ofChange scheduleBuildsSpec)

/-- ITS FALSE NEIGHBOUR: 'it returns false'. Refute it at one input. -/
def scheduleBuildsWrong : ChangeSpec := { name := "scheduleBuilds", fn := fun _ => fun
  | [d1, d2] => { results := [.lit (.bool false)], args := [d1, d2] }
  | _ => none }
def ScheduleBuildsWrongFalsely : Prop := scheduleBuildsRow.holds Tryd.pinned (OpenSpec.ofChange scheduleBuildsWrong)

/-- 'corebanklaw33.ScheduleSums': WHATEVER THE INPUT: true; the input reads as it did. -/
def scheduleSumsSpec : ChangeSpec := { name := "scheduleSums", fn := fun _ => fun
  | [d1, d2, d3] => { results := [.lit (.bool true)], args := [d1, d2, d3] }
  | _ => none }
def scheduleSumsRow : OpenClaim := { program := "ytmdjikmpgckpbaadoor", sum := "af07b50a162a9694584e479efccbc227c954923eacfdc2748080c922de96dbd7", func := "corebank/corebanklaw33.ScheduleSums", spec := "scheduleSums", inPlace := ["math/bits.Add64"], unfollowed := true, recurses := true, named := ["math/bits.divideError", "math/bits.overflowError", "corebank/rounding.steps"], apart := false, laid := [("corebank/rounding.steps", laid_corebank_rounding_steps)] }
def ScheduleSumsSaid : Prop := scheduleSumsRow.holds Tryd.pinned (OpenSpec.ofChange scheduleSumsSpec)

/-- ITS FALSE NEIGHBOUR: 'it returns false'. Refute it at one input. -/
def scheduleSumsWrong : ChangeSpec := { name := "scheduleSums", fn := fun _ => fun
  | [d1, d2, d3] => { results := [.lit (.bool false)], args := [d1, d2, d3] }
  | _ => none }
def ScheduleSumsWrongFalsely : Prop := scheduleSumsRow.holds Tryd.pinned (OpenSpec.ofChange scheduleSumsWrong)

/-- 'corebanklaw33.ScheduleRepays': WHATEVER THE INPUT: true; the input reads as it did. -/
def scheduleRepaysSpec : ChangeSpec := { name := "scheduleRepays", fn := fun _ => fun
  | [d1, d2] => { results := [.lit (.bool true)], args := [d1, d2] }
  | _ => none }
def scheduleRepaysRow : OpenClaim := { program := "ytmdjikmpgckpbaadoor", sum := "af07b50a162a9694584e479efccbc227c954923eacfdc2748080c922de96dbd7", func := "corebank/corebanklaw33.ScheduleRepays", spec := "scheduleRepays", inPlace := ["math/bits.Add64"], unfollowed := true, recurses := true, named := ["math/bits.divideError", "math/bits.overflowError", "corebank/rounding.steps"], apart := false, laid := [("corebank/rounding.steps", laid_corebank_rounding_steps)] }
def ScheduleRepaysSaid : Prop := scheduleRepaysRow.holds Tryd.pinned (OpenSpec.ofChange scheduleRepaysSpec)

/-- ITS FALSE NEIGHBOUR: 'it returns false'. Refute it at one input. -/
def scheduleRepaysWrong : ChangeSpec := { name := "scheduleRepays", fn := fun _ => fun
  | [d1, d2] => { results := [.lit (.bool false)], args := [d1, d2] }
  | _ => none }
def ScheduleRepaysWrongFalsely : Prop := scheduleRepaysRow.holds Tryd.pinned (OpenSpec.ofChange scheduleRepaysWrong)

/-- 'corebanklaw33.ScheduleLevel': WHATEVER THE INPUT: true; the input reads as it did. -/
def scheduleLevelSpec : ChangeSpec := { name := "scheduleLevel", fn := fun _ => fun
  | [d1, d2] => { results := [.lit (.bool true)], args := [d1, d2] }
  | _ => none }
def scheduleLevelRow : OpenClaim := { program := "ytmdjikmpgckpbaadoor", sum := "af07b50a162a9694584e479efccbc227c954923eacfdc2748080c922de96dbd7", func := "corebank/corebanklaw33.ScheduleLevel", spec := "scheduleLevel", inPlace := ["math/bits.Add64"], unfollowed := true, recurses := true, named := ["math/bits.divideError", "math/bits.overflowError", "corebank/rounding.steps"], apart := false, laid := [("corebank/rounding.steps", laid_corebank_rounding_steps)] }
def ScheduleLevelSaid : Prop := scheduleLevelRow.holds Tryd.pinned (OpenSpec.ofChange scheduleLevelSpec)

/-- ITS FALSE NEIGHBOUR: 'it returns false'. Refute it at one input. -/
def scheduleLevelWrong : ChangeSpec := { name := "scheduleLevel", fn := fun _ => fun
  | [d1, d2] => { results := [.lit (.bool false)], args := [d1, d2] }
  | _ => none }
def ScheduleLevelWrongFalsely : Prop := scheduleLevelRow.holds Tryd.pinned (OpenSpec.ofChange scheduleLevelWrong)

/- THE SECOND FORM. 'bulk': how many values and letters a reading holds, each counted each time it is reached (what is shared counts as often as it is met; a slice's spare places count too). A statement '..UptoSaid' is the law's where the arguments, and the package variables that the reading takes, are together of bulk at most 1048576: NARROWER than '..Said'. Prove '..Said' where nothing that the law and all that it calls make is longer than what came in: it says more and counts as full. Else prove '..UptoSaid'. A law counts once. -/
mutual
def uptoBulk {H : Type} : DataW H → Nat
  | .lit (.string bytes) => bytes.length + 1
  | .lit _ => 1
  | .nil => 1
  | .ptr d => uptoBulk d + 1
  | .slice elems spare => uptoBulkAll elems + uptoBulkAll spare + 1
  | .agg parts => uptoBulkAll parts + 1
  | .iface _ d => uptoBulk d + 1
  | .map entries => uptoBulkEntries entries + 1
  | .held _ => 1
def uptoBulkAll {H : Type} : List (DataW H) → Nat
  | [] => 0
  | d :: r => uptoBulk d + uptoBulkAll r
def uptoBulkEntries {H : Type} : List (Lit × DataW H) → Nat
  | [] => 0
  | x :: r => uptoBulkEntry x + uptoBulkEntries r
def uptoBulkEntry {H : Type} : Lit × DataW H → Nat
  | (.string bytes, d) => bytes.length + uptoBulk d + 1
  | (_, d) => uptoBulk d + 1
 end
def uptoSmall : (H : Type) → List (DataW H) → Bool := fun _ ds => decide (uptoBulkAll ds ≤ 1048576)
def OpenSpec.upto (s : _root_.Go.ChangeSpec) : _root_.Go.OpenSpec := { _root_.Go.OpenSpec.ofChange s with cond := some uptoSmall }

/-- 'corebanklaw33.ScheduleChecks', WHERE WHAT IT READS IS OF BULK AT MOST 1048576: true; the input reads as it did. -/
def scheduleChecksUptoRow : OpenClaim := { program := "ytmdjikmpgckpbaadoor", sum := "af07b50a162a9694584e479efccbc227c954923eacfdc2748080c922de96dbd7", func := "corebank/corebanklaw33.ScheduleChecks", spec := "scheduleChecks", inPlace := ["math/bits.Add64"], unfollowed := true, recurses := true, named := ["math/bits.divideError", "math/bits.overflowError", "corebank/rounding.steps"], apart := false, laid := [("corebank/rounding.steps", laid_corebank_rounding_steps)], narrowed := true }
def ScheduleChecksUptoSaid : Prop := scheduleChecksUptoRow.holds Tryd.pinned (OpenSpec.upto scheduleChecksSpec)

/-- 'corebanklaw33.ScheduleDays', WHERE WHAT IT READS IS OF BULK AT MOST 1048576: true; the input reads as it did. -/
def scheduleDaysUptoRow : OpenClaim := { program := "ytmdjikmpgckpbaadoor", sum := "af07b50a162a9694584e479efccbc227c954923eacfdc2748080c922de96dbd7", func := "corebank/corebanklaw33.ScheduleDays", spec := "scheduleDays", inPlace := ["math/bits.Add64"], unfollowed := true, recurses := true, named := ["math/bits.divideError", "math/bits.overflowError", "corebank/rounding.steps"], apart := false, laid := [("corebank/rounding.steps", laid_corebank_rounding_steps)], narrowed := true }
def ScheduleDaysUptoSaid : Prop := scheduleDaysUptoRow.holds Tryd.pinned (OpenSpec.upto scheduleDaysSpec)

/-- 'corebanklaw33.ScheduleBuilds', WHERE WHAT IT READS IS OF BULK AT MOST 1048576: true; the input reads as it did. -/
def scheduleBuildsUptoRow : OpenClaim := { program := "ytmdjikmpgckpbaadoor", sum := "af07b50a162a9694584e479efccbc227c954923eacfdc2748080c922de96dbd7", func := "corebank/corebanklaw33.ScheduleBuilds", spec := "scheduleBuilds", inPlace := ["math/bits.Add64"], unfollowed := true, recurses := true, named := ["math/bits.divideError", "math/bits.overflowError", "corebank/rounding.steps"], apart := false, laid := [("corebank/rounding.steps", laid_corebank_rounding_steps)], narrowed := true }
def ScheduleBuildsUptoSaid : Prop := scheduleBuildsUptoRow.holds Tryd.pinned (OpenSpec.upto scheduleBuildsSpec)

/-- 'corebanklaw33.ScheduleSums', WHERE WHAT IT READS IS OF BULK AT MOST 1048576: true; the input reads as it did. -/
def scheduleSumsUptoRow : OpenClaim := { program := "ytmdjikmpgckpbaadoor", sum := "af07b50a162a9694584e479efccbc227c954923eacfdc2748080c922de96dbd7", func := "corebank/corebanklaw33.ScheduleSums", spec := "scheduleSums", inPlace := ["math/bits.Add64"], unfollowed := true, recurses := true, named := ["math/bits.divideError", "math/bits.overflowError", "corebank/rounding.steps"], apart := false, laid := [("corebank/rounding.steps", laid_corebank_rounding_steps)], narrowed := true }
def ScheduleSumsUptoSaid : Prop := scheduleSumsUptoRow.holds Tryd.pinned (OpenSpec.upto scheduleSumsSpec)

/-- 'corebanklaw33.ScheduleRepays', WHERE WHAT IT READS IS OF BULK AT MOST 1048576: true; the input reads as it did. -/
def scheduleRepaysUptoRow : OpenClaim := { program := "ytmdjikmpgckpbaadoor", sum := "af07b50a162a9694584e479efccbc227c954923eacfdc2748080c922de96dbd7", func := "corebank/corebanklaw33.ScheduleRepays", spec := "scheduleRepays", inPlace := ["math/bits.Add64"], unfollowed := true, recurses := true, named := ["math/bits.divideError", "math/bits.overflowError", "corebank/rounding.steps"], apart := false, laid := [("corebank/rounding.steps", laid_corebank_rounding_steps)], narrowed := true }
def ScheduleRepaysUptoSaid : Prop := scheduleRepaysUptoRow.holds Tryd.pinned (OpenSpec.upto scheduleRepaysSpec)

/-- 'corebanklaw33.ScheduleLevel', WHERE WHAT IT READS IS OF BULK AT MOST 1048576: true; the input reads as it did. -/
def scheduleLevelUptoRow : OpenClaim := { program := "ytmdjikmpgckpbaadoor", sum := "af07b50a162a9694584e479efccbc227c954923eacfdc2748080c922de96dbd7", func := "corebank/corebanklaw33.ScheduleLevel", spec := "scheduleLevel", inPlace := ["math/bits.Add64"], unfollowed := true, recurses := true, named := ["math/bits.divideError", "math/bits.overflowError", "corebank/rounding.steps"], apart := false, laid := [("corebank/rounding.steps", laid_corebank_rounding_steps)], narrowed := true }
def ScheduleLevelUptoSaid : Prop := scheduleLevelUptoRow.holds Tryd.pinned (OpenSpec.upto scheduleLevelSpec)

end Rows
end Go.Proofs.YtmdjikmpgckpbaaDoor
