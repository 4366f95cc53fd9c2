/-
  Parts of the proof: Wa.
-/
import Derived.Shelf.Bits.Mul64
import Derived.Test.YtlolflephnbbcaaGreatDoorProg
import Derived.Test.YtlolflephnbbcaaGreatDoorRows
import Derived.WalkKit
import Derived.WalkSpells
import Derived.WalkLawsBesides
import Derived.Lib.Hide
import Derived.Shelf.Spec.BitsCarry
namespace Go.Proofs.YtlolflephnbbcaaGreatDoor.Wm

def hi (x : Int) : Int := x / 18446744073709551616
def lo (x : Int) : Int := x % 18446744073709551616
def val (h l : Int) : Int := h * 18446744073709551616 + l
def U64 (x : Int) : Prop := 0 ≤ x ∧ x < 18446744073709551616
def I64 (x : Int) : Prop := -9223372036854775808 ≤ x ∧ x ≤ 9223372036854775807
def I128 (x : Int) : Prop := -170141183460469231731687303715884105728 ≤ x ∧ x ≤ 170141183460469231731687303715884105727
def U128 (x : Int) : Prop := 0 ≤ x ∧ x ≤ 340282366920938463463374607431768211455

theorem lo_bd (x : Int) : U64 (lo x) := by unfold U64 lo; omega
theorem hi_bd {x : Int} (h : I128 x) : I64 (hi x) := by unfold I128 at h; unfold I64 hi; omega
theorem hi_bdu {x : Int} (h : U128 x) : U64 (hi x) := by unfold U128 at h; unfold U64 hi; omega
theorem hi_lo (x : Int) : hi x * 18446744073709551616 + lo x = x := by unfold hi lo; omega
theorem hi_val {h l : Int} (hl : U64 l) : hi (val h l) = h := by unfold U64 at hl; unfold hi val; omega
theorem lo_val {h l : Int} (hl : U64 l) : lo (val h l) = l := by unfold U64 at hl; unfold lo val; omega
theorem hi_neg (x : Int) : hi x < 0 ↔ x < 0 := by unfold hi; omega
theorem hi_0 : hi 0 = 0 := by decide
theorem lo_0 : lo 0 = 0 := by decide

def ab (n : Int) : Int := if n < 0 then -n else n
theorem ab_neg {n : Int} (h : n < 0) : ab n = -n := if_pos h
theorem ab_pos {n : Int} (h : 0 ≤ n) : ab n = n := if_neg (by omega)
theorem ab_bd {n : Int} (h : I64 n) : 0 ≤ ab n ∧ ab n ≤ 9223372036854775808 := by unfold I64 at h; unfold ab; split <;> omega
def nw (x : Int) : Int := if x = -170141183460469231731687303715884105728 then x else -x

/-! ### products -/
theorem word_mul {a b : Int} (ha : U64 a) (hb : U64 b) : 0 ≤ a * b ∧ a * b ≤ 340282366920938463426481119284349108225 := by
 unfold U64 at ha hb
 have h1 : 0 ≤ a * b := Int.mul_nonneg ha.1 hb.1
 have h2 : a * b ≤ 18446744073709551615 * 18446744073709551615 := Int.mul_le_mul (by omega) (by omega) hb.1 (by omega)
 exact ⟨h1, by omega⟩
theorem split_mul (m n : Int) : m * n = hi m * n * 18446744073709551616 + lo m * n := by
 have h := hi_lo m
 have e : (hi m * 18446744073709551616 + lo m) * n = hi m * n * 18446744073709551616 + lo m * n := by rw [Int.add_mul, Int.mul_assoc, Int.mul_assoc, Int.mul_comm 18446744073709551616 n]
 rw [h] at e; exact e
def tsum (m n r : Int) : Int := hi (lo m * n) + hi (lo (lo m * n) + r)
theorem tsum_bd {m n r : Int} (hn : U64 n) (hr : U64 r) : 0 ≤ tsum m n r ∧ tsum m n r ≤ 18446744073709551615 := by
 have ha := word_mul (lo_bd m) hn
 unfold U64 at hr; unfold tsum hi lo at *
 generalize m % 18446744073709551616 * n = A at *
 omega
theorem times_eq {m n r : Int} (hm : U128 m) (hn : U64 n) (hr : U64 r) :
  (hi (hi m * n) + hi (lo (hi m * n) + tsum m n r)) * 340282366920938463463374607431768211456 + lo (lo (hi m * n) + tsum m n r) * 18446744073709551616 + lo (lo (lo m * n) + r) = m * n + r ∧
  0 ≤ hi (hi m * n) ∧ 0 ≤ hi (lo (hi m * n) + tsum m n r) := by
 have ha := word_mul (lo_bd m) hn
 have hb := word_mul (hi_bdu hm) hn
 have e := split_mul m n
 have ht := tsum_bd (m := m) hn hr
 unfold U64 at hr; unfold tsum at *
 generalize lo m * n = A at *
 generalize hi m * n = C at *
 rw [e]
 unfold hi lo at *
 omega
theorem times_ok {m n r : Int} (hm : U128 m) (hn : U64 n) (hr : U64 r) (h : m * n + r ≤ 340282366920938463463374607431768211455) :
  hi (hi m * n) = 0 ∧ hi (lo (hi m * n) + tsum m n r) = 0 ∧ lo (lo (hi m * n) + tsum m n r) = hi (m * n + r) ∧ lo (lo (lo m * n) + r) = lo (m * n + r) := by
 obtain ⟨e, h1, h2⟩ := times_eq hm hn hr
 have b1 := lo_bd (lo (hi m * n) + tsum m n r)
 have b2 := lo_bd (lo (lo m * n) + r)
 unfold U64 at b1 b2
 generalize lo (lo (hi m * n) + tsum m n r) = L1 at *
 generalize lo (lo (lo m * n) + r) = L0 at *
 generalize hi (hi m * n) = c1 at *
 generalize hi (lo (hi m * n) + tsum m n r) = c2 at *
 generalize m * n + r = t at *
 unfold hi lo
 omega
end Go.Proofs.YtlolflephnbbcaaGreatDoor.Wm

namespace Go.Proofs
open Go.Shelf
def Tryz.lays264_ren : Go.Shelf.Ren := ⟨fun | 264 => 125 | n => n, fun | 53 => 78 | 46 => 235 | n => n, fun | n => n⟩
theorem Tryz.lays264 : Go.Proofs.Lays.n264 Tryz.prog Tryz.lays264_ren := {
 mixed := by kernel_rfl
 f264 := Tryz.func125.trans (congrArg some (by kernel_rfl))
 t46 := Tryz.underlying235
 a46 := Tryz.isAgg235
 z46 := Tryz.sizeOf235
 v46 := Tryz.zeroValue235
 t53 := Tryz.underlying78
 a53 := Tryz.isAgg78
 z53 := Tryz.sizeOf78
 v53 := Tryz.zeroValue78 }
open Go.RowKit Go.Lib in
theorem Tryz.bits_Mul64 (x y : Nat) (hx : x < 18446744073709551616) (hy : y < 18446744073709551616) (w : World) :
  Calls Tryz.prog 125 #[.int .u64 x, .int .u64 y] w fun e w' => e = .returned (.tuple #[.int .u64 ((x * y / 18446744073709551616 : Nat) : Int), .int .u64 ((x * y % 18446744073709551616 : Nat) : Int)]) ∧ w' = w := Any.bits_Mul64 Tryz.lays264 x y hx hy w
end Go.Proofs

namespace Go.Proofs.YtlolflephnbbcaaGreatDoor.Wt
open Go.RowKit
open Go.Proofs.YtlolflephnbbcaaGreatDoor.Wm

theorem ret_u {a b : Int} (h : a = b) : Ending.returned (.int .u64 a) = .returned (.int .u64 b) := by rw [h]
/-! ### the bits -/
def nt (n : Int) : Int := (-1 - n) % 18446744073709551616
def nts (n : Int) : Int := (-1 - n + 9223372036854775808) % 18446744073709551616 - 9223372036854775808
theorem not_nat (n : Int) : ((BitVec.allOnes 64 ^^^ BitVec.ofInt 64 n).toNat : Int) = nt n := by
 rw [BitVec.allOnes_xor, BitVec.toNat_not, BitVec.toNat_ofInt]
 unfold nt
 simp only [show (2 ^ 64 : Nat) = 18446744073709551616 from rfl]
 omega
theorem u64_signed : IntKind.u64.signed = false := rfl
theorem i64_signed : IntKind.i64.signed = true := rfl
theorem xor_u64 (n : Int) : bits .xor .u64 IntKind.u64.max n = nt n := by
 have e : BitVec.ofInt 64 IntKind.u64.max = BitVec.allOnes 64 := by decide
 show IntKind.u64.wrap ((BitVec.ofInt 64 IntKind.u64.max ^^^ BitVec.ofInt 64 n).toNat : Int) = nt n
 rw [e, not_nat, IntKind.wrap_u64]; unfold nt; omega
theorem xor_i64 (n : Int) : bits .xor .i64 (-1) n = nts n := by
 have e : BitVec.ofInt 64 (-1) = BitVec.allOnes 64 := by decide
 show IntKind.i64.wrap ((BitVec.ofInt 64 (-1) ^^^ BitVec.ofInt 64 n).toNat : Int) = nts n
 rw [e, not_nat, IntKind.wrap_i64]; unfold nt nts; omega
theorem nt_bd (n : Int) : U64 (nt n) := by unfold U64 nt; omega

theorem add64 (x y c : Int) (hx : 0 ≤ x) (hy : 0 ≤ y) (hc0 : 0 ≤ c) (hc : c ≤ 1) (w : World) : (callFunc 166 #[.int .u64 x, .int .u64 y, .int .u64 c]).run Tryz.prog w =
  .ok (.value (.tuple #[.int .u64 (lo (x + y + c)), .int .u64 (hi (x + y + c))])) w := by
 rw [run_callFunc_extern Tryz.func166 (by kernel_rfl) (by kernel_rfl) (by kernel_rfl) (e := add64Entry) (by kernel_rfl), run_add64 x y c hx hy hc0 hc]
 rfl
theorem add64_0 (x y : Int) (hx : 0 ≤ x) (hy : 0 ≤ y) (w : World) : (callFunc 166 #[.int .u64 x, .int .u64 y, .int .u64 0]).run Tryz.prog w =
  .ok (.value (.tuple #[.int .u64 (lo (x + y)), .int .u64 (hi (x + y))])) w := by
 simpa using add64 x y 0 hx hy (Int.le_refl 0) (by decide) w
theorem mul64 (x y : Int) (hx : U64 x) (hy : U64 y) (w : World) : Calls Tryz.prog 125 #[.int .u64 x, .int .u64 y] w fun e w' => e = .returned (.tuple #[.int .u64 (hi (x * y)), .int .u64 (lo (x * y))]) ∧ w = w' := by
 obtain ⟨x0, x1⟩ := hx
 obtain ⟨y0, y1⟩ := hy
 obtain ⟨x, rfl⟩ := Int.eq_ofNat_of_zero_le x0
 obtain ⟨y, rfl⟩ := Int.eq_ofNat_of_zero_le y0
 refine (Tryz.bits_Mul64 x y (by omega) (by omega) w).mono ?_
 rintro e w' ⟨rfl, rfl⟩
 exact ⟨by unfold hi lo; simp, rfl⟩

/-! ### abs, negate, absolute -/
theorem abs_any (n : Int) (w : World) (hn : I64 n) : Calls Tryz.prog 126 #[.int .i64 n] w fun e w' => e = .returned (.int .u64 (ab n)) ∧ w = w' := by
 by_cases h : n < 0
 ·have e1 : IntKind.u64.wrap (-IntKind.u64.wrap n) = ab n := by rw [ab_neg h, IntKind.wrap_u64, IntKind.wrap_u64]; unfold I64 at hn; omega
  have H := Lib.hid e1
  clear e1
  go_enter Tryz.func126, Tryz.ntmps126
  go_wp2
  go_ret
  exact ⟨ret_u H.out, rfl⟩
 ·have e1 : IntKind.u64.wrap n = ab n := by rw [ab_pos (by omega), IntKind.wrap_u64]; unfold I64 at hn; omega
  have H := Lib.hid e1
  clear e1
  go_enter Tryz.func126, Tryz.ntmps126
  go_wp2
  go_ret
  exact ⟨ret_u H.out, rfl⟩

theorem neg_lo (x : Int) : lo (nt (lo x) + 1) = lo (nw x) := by unfold nt lo nw; split <;> omega
theorem neg_hi (x : Int) (hx : I128 x) : wrap64 (IntKind.u64.wrap (IntKind.u64.wrap (nts (hi x)) + hi (nt (lo x) + 1))) = hi (nw x) := by
 rw [IntKind.wrap_u64, IntKind.wrap_u64]
 unfold I128 at hx; unfold wrap64 nts nt hi lo nw
 split <;> omega

section
attribute [local go_sem] u64_signed i64_signed xor_u64 xor_i64
theorem negate_any (x : Int) (w : World) (hx : I128 x) : Calls Tryz.prog 127 #[.agg #[.int .i64 (hi x), .int .u64 (lo x)]] w fun e w' => e = .returned (.agg #[.int .i64 (hi (nw x)), .int .u64 (lo (nw x))]) ∧ Below w.heap.size w w' := by
 have H1 := Lib.hid (neg_lo x)
 have H2 := Lib.hid (neg_hi x hx)
 have ha := fun w => add64_0 (nt (lo x)) 1 (nt_bd _).1 (by decide) w
 go_enter Tryz.func127, Tryz.ntmps127
 go_wp2
 simp [bodyPost, results, Tryz.results127, go_sem]
 exact ⟨⟨H2.out, H1.out⟩, ((Below.refl _ _).alloc (Nat.le_refl _) _).alloc (by simp) _⟩
end
end Go.Proofs.YtlolflephnbbcaaGreatDoor.Wt
