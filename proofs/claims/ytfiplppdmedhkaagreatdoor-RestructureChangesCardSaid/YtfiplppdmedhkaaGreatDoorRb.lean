/-
  The contracts of the reference's minus, Less, sum and Add: said of numbers of two words.
  The contracts of the reference's sum: the sum of two numbers that are given by signs and magnitudes.
  The contract of the reference's Add.
-/
import Derived.Test.YtfiplppdmedhkaaGreatDoorRga
namespace Go.Proofs.YtfiplppdmedhkaaGreatDoor.Wt
open Go.RowKit
open Go.Proofs.YtfiplppdmedhkaaGreatDoor
open Go.Proofs.YtfiplppdmedhkaaGreatDoor.Wm

end Go.Proofs.YtfiplppdmedhkaaGreatDoor.Wt

namespace Go.Proofs.YtfiplppdmedhkaaGreatDoor.Wt
open Go.RowKit
open Go.Proofs.YtfiplppdmedhkaaGreatDoor
open Go.Proofs.YtfiplppdmedhkaaGreatDoor.Wm

/-- A sign and a number go together: a zero may bear either sign. -/
def Sgn (neg : Bool) (x : Int) : Prop := (neg = true ∧ x ≤ 0) ∨ (neg = false ∧ 0 ≤ x)
/-- What sum returns. -/
def SumPost (w : World) (s : Int) (e : Ending) (w' : World) : Prop := e = .returned (.tuple #[.agg #[.int .i64 (hi (fit s)), .int .u64 (lo (fit s))], .int .i64 (ovf s)]) ∧ Below w.heap.size w w'
end Go.Proofs.YtfiplppdmedhkaaGreatDoor.Wt

namespace Go.Proofs.YtfiplppdmedhkaaGreatDoor.Wt
open Go.RowKit
open Go.Proofs.YtfiplppdmedhkaaGreatDoor
open Go.Proofs.YtfiplppdmedhkaaGreatDoor.Wm

end Go.Proofs.YtfiplppdmedhkaaGreatDoor.Wt
