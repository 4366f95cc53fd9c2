/-
  The contracts of the reference's minus, Less, sum and Add: said of numbers of two words.
  The contracts of the reference's sum: the sum of two numbers that are given by signs and magnitudes.
  The contract of the reference's Add.
-/
import Derived.Test.YtaanicginfjgdaaDoorRga
namespace Go.Proofs.YtaanicginfjgdaaDoor.Wt
open Go.RowKit
open Go.Proofs.YtaanicginfjgdaaDoor
open Go.Proofs.YtaanicginfjgdaaDoor.Wm

end Go.Proofs.YtaanicginfjgdaaDoor.Wt

namespace Go.Proofs.YtaanicginfjgdaaDoor.Wt
open Go.RowKit
open Go.Proofs.YtaanicginfjgdaaDoor
open Go.Proofs.YtaanicginfjgdaaDoor.Wm

/-- A sign and a number go together: a zero may bear either sign. -/
def Sgn (neg : Bool) (x : Int) : Prop := (neg = true ∧ x ≤ 0) ∨ (neg = false ∧ 0 ≤ x)
/-- What sum returns. -/
def SumPost (w : World) (s : Int) (e : Ending) (w' : World) : Prop := e = .returned (.tuple #[.agg #[.int .i64 (hi (fit s)), .int .u64 (lo (fit s))], .int .i64 (ovf s)]) ∧ Below w.heap.size w w'
theorem sumpost_in {w w' : World} {s : Int} (h : I128 s) (hb : Below w.heap.size w w') : SumPost w s (.returned (.tuple #[.agg #[.int .i64 (hi s), .int .u64 (lo s)], .int .i64 0])) w' := by
  unfold SumPost; rw [fit_in h, ovf_in h]; exact ⟨rfl, hb⟩
theorem sumpost_out {w w' : World} {s : Int} (h : ¬ I128 s) (hb : Below w.heap.size w w') : SumPost w s (.returned (.tuple #[.agg #[.int .i64 0, .int .u64 0], .int .i64 6])) w' := by
  unfold SumPost; rw [fit_out h, ovf_out h, hi_0, lo_0]; exact ⟨rfl, hb⟩

end Go.Proofs.YtaanicginfjgdaaDoor.Wt

namespace Go.Proofs.YtaanicginfjgdaaDoor.Wt
open Go.RowKit
open Go.Proofs.YtaanicginfjgdaaDoor
open Go.Proofs.YtaanicginfjgdaaDoor.Wm

theorem sgn_of (x : Int) : Sgn (decide (x < 0)) x := by
  by_cases h : x < 0
  · exact .inl ⟨decide_eq_true h, by omega⟩
  · exact .inr ⟨decide_eq_false h, by omega⟩
end Go.Proofs.YtaanicginfjgdaaDoor.Wt
