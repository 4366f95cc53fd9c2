/-
  The contract of package wide's Scale: the product, or the refusal.
-/
import Derived.Test.YtieklkpjlbpnbaaDoorWide4
import Derived.Test.YtieklkpjlbpnbaaDoorReg
import Derived.StillTailTactics
import Derived.Deep.RegionHeld3
import Derived.BigQuiet
namespace Go.Proofs.YtieklkpjlbpnbaaDoor.Wt
open Go.RowKit
open Go.Proofs.YtieklkpjlbpnbaaDoor
open Go.Proofs.YtieklkpjlbpnbaaDoor.Wm

theorem times0_yes (m n : Int) (w : World) (hm : U128 m) (hn : U64 n) (h : m * n ≤ 340282366920938463463374607431768211455) :
    Calls Tryd.prog 52 #[.agg #[.int .u64 (hi m), .int .u64 (lo m)], .int .u64 n, .int .u64 0] w fun e w' => e = .returned (.tuple #[.agg #[.int .u64 (hi (m * n)), .int .u64 (lo (m * n))], .bool true]) ∧ Below w.heap.size w w' := by
  have := times_yes m n 0 w hm hn (by unfold U64; omega) (by omega)
  rw [Int.add_zero] at this
  exact this
theorem times0_not (m n : Int) (w : World) (hm : U128 m) (hn : U64 n) (h : 340282366920938463463374607431768211455 < m * n) :
    Calls Tryd.prog 52 #[.agg #[.int .u64 (hi m), .int .u64 (lo m)], .int .u64 n, .int .u64 0] w (NoFit w) :=
  times_not m n 0 w hm hn (by unfold U64; omega) (by omega)
theorem ab_u128 {x : Int} (h : I128 x) : U128 (ab x) := by unfold I128 at h; unfold U128 ab; split <;> omega

theorem ne_zero_pick {α : Type} {a b : Int} {x y : α} (h : ¬ (a = 0 ∧ b = 0)) : (if a = 0 then if b = 0 then x else y else y) = y := by
  split
  · split
    · next h1 h2 => exact absurd ⟨h1, h2⟩ h
    · rfl
  · rfl

end Go.Proofs.YtieklkpjlbpnbaaDoor.Wt
