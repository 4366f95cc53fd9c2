/-
  The contracts of the reference's small functions on magnitudes of two words: size, plus, Split, Join.
  The contract of the reference's Join: the number with a sign and a magnitude, or false.
-/
import Derived.Test.YtaanicginfjgdaaDoorWb
namespace Go.Proofs.YtaanicginfjgdaaDoor.Wt
open Go.RowKit
open Go.Proofs.YtaanicginfjgdaaDoor
open Go.Proofs.YtaanicginfjgdaaDoor.Wm

section
attribute [local go_sem] u64_signed i64_signed xor_u64 xor_i64
end

/-- Words, and false. -/
def NoFit2 (w : World) (e : Ending) (w' : World) : Prop := ∃ a b : Int, e = .returned (.tuple #[.agg #[.int .u64 a, .int .u64 b], .bool false]) ∧ U64 a ∧ U64 b ∧ Below w.heap.size w w'
theorem wrap_bd (x : Int) : U64 (IntKind.u64.wrap x) := by rw [IntKind.wrap_u64]; unfold U64; omega
/-- A magnitude and a bool, whatever they are. -/
def SomeMag (w : World) (e : Ending) (w' : World) : Prop := ∃ (o : Int) (f : Bool), U128 o ∧ e = .returned (.tuple #[.agg #[.int .u64 (hi o), .int .u64 (lo o)], .bool f]) ∧ Below w.heap.size w w'
/-! ### Split -/
section
attribute [local go_sem] u64_signed i64_signed xor_u64 xor_i64
theorem sp_lo {x : Int} (h : x < 0) : IntKind.u64.wrap (nt (lo x) + 1) = lo (ab x) := by
  rw [ab_neg h, IntKind.wrap_u64]; unfold nt lo; omega
theorem sp_hi0 {x : Int} (hx : I128 x) (h : x < 0) (hl : lo (ab x) = 0) : IntKind.u64.wrap (nt (IntKind.u64.wrap (hi x)) + 1) = hi (ab x) := by
  rw [ab_neg h] at *; rw [IntKind.wrap_u64, IntKind.wrap_u64]; unfold I128 at hx; unfold nt; unfold lo at hl; unfold hi; omega
theorem sp_hi1 {x : Int} (hx : I128 x) (h : x < 0) (hl : lo (ab x) ≠ 0) : nt (IntKind.u64.wrap (hi x)) = hi (ab x) := by
  rw [ab_neg h] at *; rw [IntKind.wrap_u64]; unfold I128 at hx; unfold nt; unfold lo at hl; unfold hi; omega

end
end Go.Proofs.YtaanicginfjgdaaDoor.Wt

namespace Go.Proofs.YtaanicginfjgdaaDoor.Wt
open Go.RowKit
open Go.Proofs.YtaanicginfjgdaaDoor
open Go.Proofs.YtaanicginfjgdaaDoor.Wm

/-- A number that is left open, and false. -/
def NoJoin (w : World) (e : Ending) (w' : World) : Prop := ∃ a b : Int, e = .returned (.tuple #[.agg #[.int .i64 a, .int .u64 b], .bool false]) ∧ Below w.heap.size w w'

section
attribute [local go_sem] u64_signed i64_signed xor_u64 xor_i64
theorem jn_lo (m : Int) : IntKind.u64.wrap (nt (lo m) + 1) = lo (-m) := by rw [IntKind.wrap_u64]; unfold nt lo; omega
theorem jn_hi0 {m : Int} (hm : 0 ≤ m ∧ m ≤ 170141183460469231731687303715884105728) (hl : lo (-m) = 0) : wrap64 (IntKind.u64.wrap (nt (hi m) + 1)) = hi (-m) := by
  rw [IntKind.wrap_u64]; unfold nt; unfold lo at hl; unfold hi wrap64; omega
theorem jn_hi1 {m : Int} (hm : 0 ≤ m ∧ m ≤ 170141183460469231731687303715884105728) (hl : lo (-m) ≠ 0) : wrap64 (nt (hi m)) = hi (-m) := by
  unfold nt; unfold lo at hl; unfold hi wrap64; omega

end
end Go.Proofs.YtaanicginfjgdaaDoor.Wt
