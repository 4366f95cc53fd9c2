/-
  The contracts of the reference's small functions on magnitudes of two words: size, plus, Split, Join.
  The contract of the reference's Join: the number with a sign and a magnitude, or false.
-/
import Derived.Test.YtfiplppdmedhkaaGreatDoorWb
namespace Go.Proofs.YtfiplppdmedhkaaGreatDoor.Wt
open Go.RowKit
open Go.Proofs.YtfiplppdmedhkaaGreatDoor
open Go.Proofs.YtfiplppdmedhkaaGreatDoor.Wm

section
attribute [local go_sem] u64_signed i64_signed xor_u64 xor_i64
end

/-! ### plus -/
/-- Words, and false. -/
def NoFit2 (w : World) (e : Ending) (w' : World) : Prop := ∃ a b : Int, e = .returned (.tuple #[.agg #[.int .u64 a, .int .u64 b], .bool false]) ∧ U64 a ∧ U64 b ∧ Below w.heap.size w w'
theorem wrap_bd (x : Int) : U64 (IntKind.u64.wrap x) := by rw [IntKind.wrap_u64]; unfold U64; omega
/-- A magnitude and a bool, whatever they are. -/
def SomeMag (w : World) (e : Ending) (w' : World) : Prop := ∃ (o : Int) (f : Bool), U128 o ∧ e = .returned (.tuple #[.agg #[.int .u64 (hi o), .int .u64 (lo o)], .bool f]) ∧ Below w.heap.size w w'
/-! ### Split -/
section
attribute [local go_sem] u64_signed i64_signed xor_u64 xor_i64
end
end Go.Proofs.YtfiplppdmedhkaaGreatDoor.Wt

namespace Go.Proofs.YtfiplppdmedhkaaGreatDoor.Wt
open Go.RowKit
open Go.Proofs.YtfiplppdmedhkaaGreatDoor
open Go.Proofs.YtfiplppdmedhkaaGreatDoor.Wm

/-- A number that is left open, and false. -/
def NoJoin (w : World) (e : Ending) (w' : World) : Prop := ∃ a b : Int, e = .returned (.tuple #[.agg #[.int .i64 a, .int .u64 b], .bool false]) ∧ Below w.heap.size w w'

section
attribute [local go_sem] u64_signed i64_signed xor_u64 xor_i64
end
end Go.Proofs.YtfiplppdmedhkaaGreatDoor.Wt
