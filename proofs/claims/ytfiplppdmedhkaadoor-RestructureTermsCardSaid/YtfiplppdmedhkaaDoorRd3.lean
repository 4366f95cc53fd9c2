/-
  The contract of the reference's Divide.
-/
import Derived.Test.YtfiplppdmedhkaaDoorRd2
namespace Go.Proofs.YtfiplppdmedhkaaDoor.Rd
open Go.RowKit
open Go.Proofs.YtfiplppdmedhkaaDoor
open Go.Proofs.YtfiplppdmedhkaaDoor.Wm Go.Proofs.YtfiplppdmedhkaaDoor.Wt

theorem lo_odd (q : Int) : (lo q % 2 == 1) = decide (q % 2 = 1) := by
  rw [lo_mod]
  rfl

end Go.Proofs.YtfiplppdmedhkaaDoor.Rd
