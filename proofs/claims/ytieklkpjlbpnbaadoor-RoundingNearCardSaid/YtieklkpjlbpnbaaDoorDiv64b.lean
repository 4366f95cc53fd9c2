/-
  The contract of math/bits.Div64 at this program, for every dividend whose quotient fits.
-/
import Derived.Test.YtieklkpjlbpnbaaDoorDiv64
import Derived.BigQuiet
namespace Go.Proofs.YtieklkpjlbpnbaaDoor.Wt
open Go.RowKit
open Go.Proofs.YtieklkpjlbpnbaaDoor.Wm
open Go.Proofs.YtieklkpjlbpnbaaDoor.Dv

/-! ### the bits -/
theorem and32 (n : Int) (h0 : 0 ≤ n) (h1 : n ≤ 18446744073709551615) : bits .and .u64 n 4294967295 = n % 4294967296 := by
  obtain ⟨n, rfl⟩ := Int.eq_ofNat_of_zero_le h0
  show IntKind.u64.wrap ((BitVec.ofInt 64 (n : Int) &&& BitVec.ofInt 64 4294967295).toNat : Int) = _
  rw [show BitVec.ofInt 64 4294967295 = BitVec.ofNat 64 4294967295 from by decide, show BitVec.ofInt 64 (n : Int) = BitVec.ofNat 64 n from by simp, BitVec.toNat_and, BitVec.toNat_ofNat, BitVec.toNat_ofNat, Nat.mod_eq_of_lt (by omega), Nat.mod_eq_of_lt (by decide), show (4294967295 : Nat) = 2 ^ 32 - 1 from rfl, Nat.and_two_pow_sub_one_eq_mod, IntKind.wrap_u64]
  omega
theorem or64n (a b k : Nat) (hb : b < 2 ^ k) (h : 2 ^ k * a + b < 18446744073709551616) : bits .or .u64 ((2 ^ k * a : Nat) : Int) (b : Int) = ((2 ^ k * a + b : Nat) : Int) := by
  have e := Nat.two_pow_add_eq_or_of_lt hb a
  generalize 2 ^ k * a = x at *
  show IntKind.u64.wrap ((BitVec.ofInt 64 (x : Int) ||| BitVec.ofInt 64 (b : Int)).toNat : Int) = _
  rw [show BitVec.ofInt 64 (x : Int) = BitVec.ofNat 64 x from by simp, show BitVec.ofInt 64 (b : Int) = BitVec.ofNat 64 b from by simp, BitVec.toNat_or, BitVec.toNat_ofNat, BitVec.toNat_ofNat, Nat.mod_eq_of_lt (by omega), Nat.mod_eq_of_lt (by omega), ← e, IntKind.wrap_u64]
  omega
theorem pow_cast (n : Nat) : (2 : Int) ^ n = ((2 ^ n : Nat) : Int) := by rw [Int.natCast_pow]; rfl
theorem or64 (a b : Int) (k : Nat) (ha : 0 ≤ a) (hb : 0 ≤ b) (hb1 : b < 2 ^ k) (h : a * 2 ^ k + b < 18446744073709551616) : bits .or .u64 (a * 2 ^ k) b = a * 2 ^ k + b := by
  obtain ⟨a, rfl⟩ := Int.eq_ofNat_of_zero_le ha
  obtain ⟨b, rfl⟩ := Int.eq_ofNat_of_zero_le hb
  have e : (a : Int) * 2 ^ k = ((2 ^ k * a : Nat) : Int) := by rw [Int.natCast_mul, ← pow_cast, Int.mul_comm]
  rw [pow_cast] at hb1
  rw [e] at h ⊢
  have := or64n a b k (by omega) (by omega)
  rw [this]
  omega

theorem div64_zero (l y : Int) (w : World) (hy : 1 ≤ y) (hy2 : y < 18446744073709551616) (hl : U64 l) : Calls Tryd.prog 64 #[.int .u64 0, .int .u64 l, .int .u64 y] w fun e w' => e = .returned (.tuple #[.int .u64 (l / y), .int .u64 (l % y)]) ∧ Below w.heap.size w w' := by
  obtain ⟨hl0, hl1⟩ := hl
  have b1 := Int.ediv_nonneg hl0 (show 0 ≤ y by omega)
  have b2 : l / y ≤ l := Int.ediv_le_self _ hl0
  have b3 := Int.emod_nonneg l (show y ≠ 0 by omega)
  have b4 := Int.emod_lt_of_pos l (show 0 < y by omega)
  have hy0 : (y == 0) = false := by simp; omega
  go_enter Tryd.func64, Tryd.ntmps64
  go_wp2_with fail
  go_quiet (fail)
  go_wp2_with fail
  go_ret2
  have h := Below.refl w.heap.size w
  exact ⟨rfl, ⟨h.os, h.tape, h.output, h.size, h.block⟩⟩

/-- Div64 divides. -/
theorem div64 (h l y : Int) (w : World) (h0 : 0 ≤ h) (hhy : h < y) (hy2 : y < 18446744073709551616) (hl : U64 l) :
    Calls Tryd.prog 64 #[.int .u64 h, .int .u64 l, .int .u64 y] w fun e w' => e = .returned (.tuple #[.int .u64 ((h * 18446744073709551616 + l) / y), .int .u64 ((h * 18446744073709551616 + l) % y)]) ∧ Below w.heap.size w w' := by
  by_cases hz : h = 0
  · subst hz
    rw [Int.zero_mul, Int.zero_add]
    exact div64_zero l y w (by omega) hy2 hl
  obtain ⟨n, hn, hzn, s1, s2⟩ := lz y (by omega) hy2
  have hl' := hl
  obtain ⟨hl0, hl1⟩ := hl
  have hp : (0 : Int) < 2 ^ n := by rw [pow_cast]; have := Nat.two_pow_pos n; omega
  have hq : (0 : Int) < 2 ^ (64 - n) := by rw [pow_cast]; have := Nat.two_pow_pos (64 - n); omega
  have hpq : (2 : Int) ^ (64 - n) * 2 ^ n = 18446744073709551616 := by rw [← Int.pow_add, show 64 - n + n = 64 by omega]; rfl
  obtain ⟨S1, S2⟩ := scaled (h * 18446744073709551616 + l) y hp
  have or3 := or64 h (l / 2 ^ (64 - n)) n h0 (Int.ediv_nonneg hl0 (by omega))
  generalize hpp : (2 : Int) ^ n = p at *
  generalize hqq : (2 : Int) ^ (64 - n) = q at *
  -- the lower word splits
  have e1 : l * p = l / q * 18446744073709551616 + l * p % 18446744073709551616 := by
    have a := Int.mul_ediv_add_emod (l * p) 18446744073709551616
    have b : l * p / 18446744073709551616 = l / q := by rw [← hpq, Int.mul_ediv_mul_of_pos_left _ _ hp]
    rw [b] at a
    omega
  have e2 : l / q < p := Int.ediv_lt_of_lt_mul hq (by rw [Int.mul_comm, hpq]; exact hl1)
  have e3 : 0 ≤ l / q := Int.ediv_nonneg hl0 (by omega)
  have m0 : 0 ≤ h * p := Int.mul_nonneg h0 (by omega)
  have m1 : h * p ≤ (y - 1) * p := Int.mul_le_mul_of_nonneg_right (by omega) (by omega)
  have m2 : (y - 1) * p = y * p - p := by rw [Int.sub_mul, Int.one_mul]
  have hN : (h * 18446744073709551616 + l) * p = (h * p + l / q) * 18446744073709551616 + l * p % 18446744073709551616 := by
    rw [Int.add_mul, Int.mul_assoc, Int.mul_comm 18446744073709551616 p, ← Int.mul_assoc]
    omega
  have or4 := or3 e2 (by omega)
  rw [hN] at S1 S2
  have u0 := Int.emod_nonneg (l * p) (show (18446744073709551616 : Int) ≠ 0 by decide)
  have u1 := Int.emod_lt_of_pos (l * p) (show (0 : Int) < 18446744073709551616 by decide)
  have hw1 : IntKind.u64.wrap (l * p) = l * p % 18446744073709551616 := by rw [IntKind.wrap_u64]
  have hw2 : IntKind.u64.wrap (h * p) = h * p := by rw [IntKind.wrap_u64]; omega
  have hw3 : IntKind.u64.wrap (y * p) = y * p := by rw [IntKind.wrap_u64]; omega
  generalize hA : h * p + l / q = A at *
  have hA0 : 0 ≤ A := by omega
  have hA1 : A < y * p := by omega
  clear e1 hN m1 m2 or3 hA
  generalize l * p % 18446744073709551616 = D at *
  generalize hY : y * p = Y at *
  have eY : Y = Y / 4294967296 * 4294967296 + Y % 4294967296 := by omega
  have D1 : Dom A (D / 4294967296) (Y / 4294967296) (Y % 4294967296) := ⟨by omega, by omega, by omega, by omega, by omega, by omega, hA0, by omega⟩
  have r1 := rest_of D1
  have q1 := D1.quo
  rw [← eY] at r1 q1
  obtain ⟨B1, B2⟩ := both (A := A) (c := D / 4294967296) (d := D % 4294967296) (Y := Y) (by omega)
  have eD : (A * 4294967296 + D / 4294967296) * 4294967296 + D % 4294967296 = A * 18446744073709551616 + D := by omega
  rw [eD, S1] at B1
  rw [eD] at B2
  have st1 := D1.start
  have st6 : A.tdiv (Y / 4294967296) = A / (Y / 4294967296) := Int.tdiv_eq_ediv_of_nonneg hA0
  have D2 : Dom ((A * 4294967296 + D / 4294967296) % Y) (D % 4294967296) (Y / 4294967296) (Y % 4294967296) := ⟨by omega, by omega, by omega, by omega, by omega, by omega, by omega, by omega⟩
  have r2 := rest_of D2
  have q2 := D2.quo
  have st2 := D2.start
  rw [← eY] at r2 q2
  have st7 : ((A * 4294967296 + D / 4294967296) % Y).tdiv (Y / 4294967296) = (A * 4294967296 + D / 4294967296) % Y / (Y / 4294967296) := Int.tdiv_eq_ediv_of_nonneg r1.2.1
  suffices H : Calls Tryd.prog 64 #[.int .u64 h, .int .u64 l, .int .u64 y] w fun e w' => e = .returned (.tuple #[.int .u64 ((h * 18446744073709551616 + l) / y), .int .u64 ((h * 18446744073709551616 + l) % y)]) ∧ w = w' from H.mono (by rintro e w' ⟨rfl, rfl⟩; exact ⟨rfl, Below.refl _ _⟩)
  refine div64_core h l y n A (D / 4294967296) (D % 4294967296) Y (Y / 4294967296) (Y % 4294967296) ((A * 4294967296 + D / 4294967296) / Y) ((A * 4294967296 + D / 4294967296) % Y) (((A * 4294967296 + D / 4294967296) % Y * 4294967296 + D % 4294967296) / Y) _ _ w (by omega) hy2 (by omega) hhy hl' hn (Lib.hid hzn) (Lib.hid ?_) ?_ (Lib.hid D1) (Lib.hid D2) (Lib.hid ?_) (Lib.hid ?_) (Lib.hid ?_) (Lib.hid ?_) (Lib.hid ?_) (Lib.hid ?_) (Lib.hid ?_) (Lib.hid ?_) (Lib.hid ?_) (Lib.hid ?_) (Lib.hid ?_) (Lib.hid ?_) (Lib.hid ?_) (Lib.hid ?_)
  all_goals (try rw [hpp])
  · rw [hY]; exact hw3
  · rw [hY, hw3]; omega
  · rw [← eY]
  · rw [← eY]
  · rfl
  · exact and32 Y (by omega) (by omega)
  · rw [hqq, hw2]; exact or4
  · rw [hw1]
  · rw [hw1]; exact and32 D (by omega) (by omega)
  · rw [st6, IntKind.wrap_u64]; have := st1.q0; have := st1.q1; omega
  · have a := Int.mul_nonneg st1.q0 (show 0 ≤ Y / 4294967296 by omega)
    have b := st1.r0
    rw [IntKind.wrap_u64, IntKind.wrap_u64]
    generalize A / (Y / 4294967296) * (Y / 4294967296) = z at *
    omega
  · have a := r1.1
    rw [IntKind.wrap_u64, IntKind.wrap_u64, IntKind.wrap_u64, IntKind.wrap_u64]
    have b := r1.2
    generalize (A * 4294967296 + D / 4294967296) % Y = z at *
    generalize (A * 4294967296 + D / 4294967296) / Y * Y = y' at *
    omega
  · rw [st7, IntKind.wrap_u64]; have := st2.q0; have := st2.q1; omega
  · have a := Int.mul_nonneg st2.q0 (show 0 ≤ Y / 4294967296 by omega)
    have b := st2.r0
    have c := r1.2
    rw [IntKind.wrap_u64, IntKind.wrap_u64]
    generalize (A * 4294967296 + D / 4294967296) % Y = v at *
    generalize v / (Y / 4294967296) * (Y / 4294967296) = z at *
    omega
  · rw [← B1, IntKind.wrap_u64, IntKind.wrap_u64]; omega
  · rw [← S2, ← B2]
    have a := r2.1
    have b := r2.2
    rw [IntKind.wrap_u64, IntKind.wrap_u64, IntKind.wrap_u64, IntKind.wrap_u64]
    generalize ((A * 4294967296 + D / 4294967296) % Y * 4294967296 + D % 4294967296) / Y * Y = z at *
    generalize (A * 4294967296 + D / 4294967296) % Y = v at *
    congr 1
    omega
end Go.Proofs.YtieklkpjlbpnbaaDoor.Wt
