/-
  The contract of package wide's Scale, whole: the product and OK, or zero and the error for what is too large.
-/
import Derived.Test.YtieklkpjlbpnbaaDoorWide5
namespace Go.Proofs.YtieklkpjlbpnbaaDoor.Wt
open Go.RowKit
open Go.Proofs.YtieklkpjlbpnbaaDoor
open Go.Proofs.YtieklkpjlbpnbaaDoor.Wm

open Classical in
/-- The number, if it is one of two words with a sign, else 0. -/
noncomputable def fit (p : Int) : Int := if I128 p then p else 0
open Classical in
/-- OK, or ErrOverflow. -/
noncomputable def ovf (p : Int) : Int := if I128 p then 0 else 6
theorem fit_in {p : Int} (h : I128 p) : fit p = p := if_pos h
theorem fit_out {p : Int} (h : ¬ I128 p) : fit p = 0 := if_neg h
theorem ovf_in {p : Int} (h : I128 p) : ovf p = 0 := if_pos h
theorem ovf_out {p : Int} (h : ¬ I128 p) : ovf p = 6 := if_neg h
theorem fit_bd (p : Int) : I128 (fit p) := by
  by_cases h : I128 p
  · rw [fit_in h]; exact h
  · rw [fit_out h]; unfold I128; omega

theorem hi_decide (x : Int) : decide (hi x < 0) = decide (x < 0) := by rw [decide_eq_decide]; exact hi_neg x
theorem hl_ne {m : Int} (h : m ≠ 0) : ¬ (hi m = 0 ∧ lo m = 0) := fun ⟨a, b⟩ => h (by have := hi_lo m; rw [a, b] at this; omega)

/-- What 'signed' returns for a product. -/
theorem signed_fit (p : Int) (hu : U128 (ab p)) : Hid (∀ W : World, Calls Tryd.prog 53 #[.agg #[.int .u64 (hi (ab p)), .int .u64 (lo (ab p))], .bool (decide (p < 0))] W fun e w' => e = .returned (.tuple #[.agg #[.int .i64 (hi (fit p)), .int .u64 (lo (fit p))], .int .i64 (ovf p)]) ∧ Below W.heap.size W w') := by
  intro W
  by_cases h : I128 p
  · rw [fit_in h, ovf_in h]; exact signed_of p W h
  · rw [fit_out h, ovf_out h, hi_0, lo_0]; exact signed_not p W h hu

end Go.Proofs.YtieklkpjlbpnbaaDoor.Wt
