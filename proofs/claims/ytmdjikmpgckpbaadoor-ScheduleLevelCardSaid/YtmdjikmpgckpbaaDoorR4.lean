/-
  The contracts of the reference's Scale and Mul: the product, or zero and the error.
-/
import Derived.Test.YtmdjikmpgckpbaaDoorR3
import Derived.Deep.RegionWith
namespace Go.Proofs.YtmdjikmpgckpbaaDoor.Wt
open Go.RowKit
open Go.Proofs.YtmdjikmpgckpbaaDoor
open Go.Proofs.YtmdjikmpgckpbaaDoor.Wm

/-- A number that is left open, and some bool. -/
def SomeJoin (w : World) (e : Ending) (w' : World) : Prop := ∃ (a b : Int) (f : Bool), e = .returned (.tuple #[.agg #[.int .i64 a, .int .u64 b], .bool f]) ∧ Below w.heap.size w w'
end Go.Proofs.YtmdjikmpgckpbaaDoor.Wt
