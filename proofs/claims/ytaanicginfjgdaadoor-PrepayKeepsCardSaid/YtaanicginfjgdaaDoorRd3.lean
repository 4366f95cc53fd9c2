/-
  The contract of the reference's Divide.
-/
import Derived.Test.YtaanicginfjgdaaDoorRd2
namespace Go.Proofs.YtaanicginfjgdaaDoor.Rd
open Go.RowKit
open Go.Proofs.YtaanicginfjgdaaDoor
open Go.Proofs.YtaanicginfjgdaaDoor.Wm Go.Proofs.YtaanicginfjgdaaDoor.Wt

theorem lo_odd (q : Int) : (lo q % 2 == 1) = decide (q % 2 = 1) := by
  rw [lo_mod]
  rfl

end Go.Proofs.YtaanicginfjgdaaDoor.Rd
