/-
  The contract of the reference's Divide.
-/
import Derived.Test.YtmdjikmpgckpbaaDoorRd2
namespace Go.Proofs.YtmdjikmpgckpbaaDoor.Rd
open Go.RowKit
open Go.Proofs.YtmdjikmpgckpbaaDoor
open Go.Proofs.YtmdjikmpgckpbaaDoor.Wm Go.Proofs.YtmdjikmpgckpbaaDoor.Wt

theorem lo_odd (q : Int) : (lo q % 2 == 1) = decide (q % 2 = 1) := by
  rw [lo_mod]
  rfl

end Go.Proofs.YtmdjikmpgckpbaaDoor.Rd
