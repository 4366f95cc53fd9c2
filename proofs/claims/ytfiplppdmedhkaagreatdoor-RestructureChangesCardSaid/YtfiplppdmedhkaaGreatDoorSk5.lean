/-
  Schedules: Rest, Total, Until, Same: the program's and the reference's.
-/
import Derived.Test.YtfiplppdmedhkaaGreatDoorSr
import Derived.Test.YtfiplppdmedhkaaGreatDoorSma
import Derived.Test.YtfiplppdmedhkaaGreatDoorLnm
import Derived.BigQuiet
import Derived.Deep.Cut
namespace Go.Proofs.YtfiplppdmedhkaaGreatDoor.Kl
open Go Go.RowKit
open Go.Proofs.YtfiplppdmedhkaaGreatDoor
open Go.Proofs.YtfiplppdmedhkaaGreatDoor.Sr
open Go.Proofs.YtfiplppdmedhkaaGreatDoor.Ln (Tm Du DuesIn P I P_nil I_nil P_succ I_succ due_succ)
set_option linter.unusedSimpArgs false
set_option linter.unusedVariables false
set_option maxRecDepth 100000

/-- Where the loops stand. -/
def ToR (w : World) (ds : List Du) (g : Nat) (s4 s5 s10 : Value) (W : World) : Prop := ∃ k : Nat, k + g = ds.length ∧ s10 = .int .i64 k ∧ s4 = .int .i64 (P (ds.take k)) ∧ s5 = .int .i64 (I (ds.take k)) ∧ Below w.heap.size w W
def ReR (w : World) (p : Int) (ds : List Du) (no : Int) (g : Nat) (s4 s10 : Value) (W : World) : Prop := ∃ k : Nat, k + g = ds.length ∧ s10 = .int .i64 k ∧ s4 = .int .i64 (rsW p (ds.take k) no) ∧ Below w.heap.size w W
def UnR (w : World) (ds : List Du) (day : Int) (g : Nat) (s5 s10 : Value) (W : World) : Prop := ∃ k : Nat, k + g = ds.length ∧ s10 = .int .i64 k ∧ DV W w.heap.size s5 (Ln.due (ds.take k) day) ∧ Below w.heap.size w W
def SaR (w : World) (n : Nat) (g : Nat) (s5 : Value) (W : World) : Prop := ∃ k : Nat, k + g = n ∧ s5 = .int .i64 k ∧ Below w.heap.size w W
/-- Installments up to a day, as a call returns them. -/
def UnOut (ds : List Du) (day : Int) (w : World) (e : Ending) (w' : World) : Prop := ∃ a cap, e = .returned (.slice a (Ln.due ds day).length cap) ∧ DuesIn w' a (Ln.due ds day) ∧ Below w.heap.size w w'
theorem due_len (ds : List Du) (day : Int) (k : Nat) : (Ln.due (ds.take k) day).length ≤ ds.length := by
  unfold Ln.due
  refine Nat.le_trans (List.length_filter_le _ _) ?_
  rw [List.length_take]; omega
end Go.Proofs.YtfiplppdmedhkaaGreatDoor.Kl
