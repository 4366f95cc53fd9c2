/-
  The contracts of math/bits' Mul64 and Add64 at this program, and of the small functions of package wide, said of numbers of two words.
-/
import Derived.Test.YtieklkpjlbpnbaaDoorRows
import Derived.Test.YtieklkpjlbpnbaaDoorWm
import Derived.Test.YtieklkpjlbpnbaaDoorMul
import Derived.WalkKit
import Derived.WalkSpells
import Derived.WalkLawsBesides
import Derived.Lib.Hide
import Derived.Shelf.Spec.BitsCarry
namespace Go.Proofs.YtieklkpjlbpnbaaDoor.Wt
open Go.RowKit
open Go.Proofs.YtieklkpjlbpnbaaDoor.Wm

theorem bcell {W w1 : World} (hb : Below W.heap.size W w1) : (∀ b o, b < W.heap.size → w1.cell? ⟨b, o, none⟩ = W.cell? ⟨b, o, none⟩) ∧ (∀ b o, b < W.heap.size → w1.frozen? ⟨b, o, none⟩ = W.frozen? ⟨b, o, none⟩) :=
  ⟨fun b o h => hb.cell (p := ⟨b, o, none⟩) h, fun b o h => hb.frozen (p := ⟨b, o, none⟩) h⟩
theorem ret_u {a b : Int} (h : a = b) : Ending.returned (.int .u64 a) = .returned (.int .u64 b) := by rw [h]
theorem agg_eq {k j : IntKind} {a b c d : Int} (h : a = b) (g : c = d) : Value.agg #[.int k a, .int j c] = .agg #[.int k b, .int j d] := by rw [h, g]

/-! ### the bits -/
/-- The complement of a word without a sign. -/
def nt (n : Int) : Int := (-1 - n) % 18446744073709551616
/-- The complement of a word with a sign. -/
def nts (n : Int) : Int := (-1 - n + 9223372036854775808) % 18446744073709551616 - 9223372036854775808
theorem not_nat (n : Int) : ((BitVec.allOnes 64 ^^^ BitVec.ofInt 64 n).toNat : Int) = nt n := by
  rw [BitVec.allOnes_xor, BitVec.toNat_not, BitVec.toNat_ofInt]
  unfold nt
  simp only [show (2 ^ 64 : Nat) = 18446744073709551616 from rfl]
  omega
theorem u64_signed : IntKind.u64.signed = false := rfl
theorem i64_signed : IntKind.i64.signed = true := rfl
theorem xor_u64 (n : Int) : bits .xor .u64 IntKind.u64.max n = nt n := by
  have e : BitVec.ofInt 64 IntKind.u64.max = BitVec.allOnes 64 := by decide
  show IntKind.u64.wrap ((BitVec.ofInt 64 IntKind.u64.max ^^^ BitVec.ofInt 64 n).toNat : Int) = nt n
  rw [e, not_nat, IntKind.wrap_u64]; unfold nt; omega
theorem xor_i64 (n : Int) : bits .xor .i64 (-1) n = nts n := by
  have e : BitVec.ofInt 64 (-1) = BitVec.allOnes 64 := by decide
  show IntKind.i64.wrap ((BitVec.ofInt 64 (-1) ^^^ BitVec.ofInt 64 n).toNat : Int) = nts n
  rw [e, not_nat, IntKind.wrap_i64]; unfold nt nts; omega
theorem nt_bd (n : Int) : U64 (nt n) := by unfold U64 nt; omega

theorem add64 (x y c : Int) (hx : 0 ≤ x) (hy : 0 ≤ y) (hc0 : 0 ≤ c) (hc : c ≤ 1) (w : World) : (callFunc 54 #[.int .u64 x, .int .u64 y, .int .u64 c]).run Tryd.prog w =
    .ok (.value (.tuple #[.int .u64 (lo (x + y + c)), .int .u64 (hi (x + y + c))])) w := by
  rw [run_callFunc_extern Tryd.func54 (by kernel_rfl) (by kernel_rfl) (by kernel_rfl) (e := add64Entry) (by kernel_rfl), run_add64 x y c hx hy hc0 hc]
  rfl
theorem add64_0 (x y : Int) (hx : 0 ≤ x) (hy : 0 ≤ y) (w : World) : (callFunc 54 #[.int .u64 x, .int .u64 y, .int .u64 0]).run Tryd.prog w =
    .ok (.value (.tuple #[.int .u64 (lo (x + y)), .int .u64 (hi (x + y))])) w := by
  simpa using add64 x y 0 hx hy (Int.le_refl 0) (by decide) w
theorem mul64 (x y : Int) (hx : U64 x) (hy : U64 y) (w : World) : Calls Tryd.prog 56 #[.int .u64 x, .int .u64 y] w fun e w' => e = .returned (.tuple #[.int .u64 (hi (x * y)), .int .u64 (lo (x * y))]) ∧ w = w' := by
  obtain ⟨x0, x1⟩ := hx
  obtain ⟨y0, y1⟩ := hy
  obtain ⟨x, rfl⟩ := Int.eq_ofNat_of_zero_le x0
  obtain ⟨y, rfl⟩ := Int.eq_ofNat_of_zero_le y0
  refine (Tryd.bits_Mul64 x y (by omega) (by omega) w).mono ?_
  rintro e w' ⟨rfl, rfl⟩
  exact ⟨by unfold hi lo; simp, rfl⟩

/-! ### abs, negate, absolute -/
theorem abs_any (n : Int) (w : World) (hn : I64 n) : Calls Tryd.prog 57 #[.int .i64 n] w fun e w' => e = .returned (.int .u64 (ab n)) ∧ w = w' := by
  by_cases h : n < 0
  · have e1 : IntKind.u64.wrap (-IntKind.u64.wrap n) = ab n := by rw [ab_neg h, IntKind.wrap_u64, IntKind.wrap_u64]; unfold I64 at hn; omega
    have H := Lib.hid e1
    clear e1
    go_enter Tryd.func57, Tryd.ntmps57
    go_wp2
    go_ret
    exact ⟨ret_u H.out, rfl⟩
  · have e1 : IntKind.u64.wrap n = ab n := by rw [ab_pos (by omega), IntKind.wrap_u64]; unfold I64 at hn; omega
    have H := Lib.hid e1
    clear e1
    go_enter Tryd.func57, Tryd.ntmps57
    go_wp2
    go_ret
    exact ⟨ret_u H.out, rfl⟩

theorem neg_lo (x : Int) : lo (nt (lo x) + 1) = lo (nw x) := by unfold nt lo nw; split <;> omega
theorem neg_hi (x : Int) (hx : I128 x) : wrap64 (IntKind.u64.wrap (IntKind.u64.wrap (nts (hi x)) + hi (nt (lo x) + 1))) = hi (nw x) := by
  rw [IntKind.wrap_u64, IntKind.wrap_u64]
  unfold I128 at hx; unfold wrap64 nts nt hi lo nw
  split <;> omega

section
attribute [local go_sem] u64_signed i64_signed xor_u64 xor_i64
theorem negate_any (x : Int) (w : World) (hx : I128 x) : Calls Tryd.prog 58 #[.agg #[.int .i64 (hi x), .int .u64 (lo x)]] w fun e w' => e = .returned (.agg #[.int .i64 (hi (nw x)), .int .u64 (lo (nw x))]) ∧ Below w.heap.size w w' := by
  have H1 := Lib.hid (neg_lo x)
  have H2 := Lib.hid (neg_hi x hx)
  have ha := fun w => add64_0 (nt (lo x)) 1 (nt_bd _).1 (by decide) w
  go_enter Tryd.func58, Tryd.ntmps58
  go_wp2
  simp [bodyPost, results, Tryd.results58, go_sem]
  exact ⟨⟨H2.out, H1.out⟩, ((Below.refl _ _).alloc (Nat.le_refl _) _).alloc (by simp) _⟩
end
end Go.Proofs.YtieklkpjlbpnbaaDoor.Wt
