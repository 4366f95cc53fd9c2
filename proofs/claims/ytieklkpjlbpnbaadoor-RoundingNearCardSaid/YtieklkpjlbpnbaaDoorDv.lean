/-
  Plain mathematics of a long division by two words: what each of the two phases of the division of 128 bits by 64 finds; no Go in sight.
-/
import Derived.Lib.BitFns
import Derived.Test.YtieklkpjlbpnbaaDoorWm
namespace Go.Proofs.YtieklkpjlbpnbaaDoor.Dv
open Go.Proofs.YtieklkpjlbpnbaaDoor.Wm

/-- A guess q with rest r at the quotient of A * 2^32 + c by y1 * 2^32 + y0, not below it. -/
structure Ph (A c y1 y0 q r : Int) : Prop where
  a : A = q * y1 + r
  r0 : 0 ≤ r
  r1 : r < 4294967296
  q0 : 0 ≤ q
  q1 : q ≤ 4294967297
  ge : (A * 4294967296 + c) / (y1 * 4294967296 + y0) ≤ q

/-- A divisor of two halves, its top bit set; a number A below it; a half c. -/
structure Dom (A c y1 y0 : Int) : Prop where
  y1l : 2147483648 ≤ y1
  y1u : y1 < 4294967296
  y0l : 0 ≤ y0
  y0u : y0 < 4294967296
  cl : 0 ≤ c
  cu : c < 4294967296
  al : 0 ≤ A
  au : A < y1 * 4294967296 + y0

theorem Dom.quo {A c y1 y0 : Int} (h : Dom A c y1 y0) : 0 ≤ (A * 4294967296 + c) / (y1 * 4294967296 + y0) ∧ (A * 4294967296 + c) / (y1 * 4294967296 + y0) < 4294967296 := by
  obtain ⟨a, b, d, e, f, g, i, j⟩ := h
  have hy : 0 < y1 * 4294967296 + y0 := by omega
  refine ⟨Int.ediv_nonneg (by omega) (by omega), ?_⟩
  exact Int.ediv_lt_of_lt_mul hy (by omega)

theorem Dom.start {A c y1 y0 : Int} (h : Dom A c y1 y0) : Ph A c y1 y0 (A / y1) (A - A / y1 * y1) := by
  have hq := h.quo
  obtain ⟨a, b, d, e, f, g, i, j⟩ := h
  have e1 : A = y1 * (A / y1) + A % y1 := (Int.mul_ediv_add_emod A y1).symm
  have e2 := Int.emod_nonneg A (show y1 ≠ 0 by omega)
  have e3 := Int.emod_lt_of_pos A (show 0 < y1 by omega)
  have e4 : 0 ≤ A / y1 := Int.ediv_nonneg i (by omega)
  have e5 : y1 * (A / y1) = A / y1 * y1 := Int.mul_comm _ _
  have e6 : A / y1 < 4294967298 := Int.ediv_lt_of_lt_mul (by omega) (by omega)
  refine ⟨by omega, by omega, by omega, e4, by omega, ?_⟩
  -- the quotient is at most A / y1
  have h1 : (A * 4294967296 + c) / (y1 * 4294967296 + y0) < A / y1 + 1 := by
    refine Int.ediv_lt_of_lt_mul (by omega) ?_
    have m1 : (A / y1 + 1) * (y1 * 4294967296 + y0) = (A / y1 * y1 + y1) * 4294967296 + (A / y1 + 1) * y0 := by rw [Int.mul_add, Int.add_mul, Int.add_mul, Int.one_mul, Int.one_mul, ← Int.mul_assoc]; omega
    have m2 : 0 ≤ (A / y1 + 1) * y0 := Int.mul_nonneg (by omega) d
    rw [m1]
    omega
  omega

theorem Ph.qy {A c y1 y0 q r : Int} (h : Dom A c y1 y0) (p : Ph A c y1 y0 q r) : 0 ≤ q * y0 ∧ (q < 4294967296 → q * y0 ≤ 18446744065119617025) := by
  obtain ⟨a, b, d, e, f, g, i, j⟩ := h
  refine ⟨Int.mul_nonneg p.q0 d, fun hq => ?_⟩
  have := Int.mul_le_mul (show q ≤ 4294967295 by omega) (show y0 ≤ 4294967295 by omega) d (by omega)
  omega

theorem exp_y (q y1 y0 : Int) : q * (y1 * 4294967296 + y0) = q * y1 * 4294967296 + q * y0 := by rw [Int.mul_add, ← Int.mul_assoc]

/-- The guess is right. -/
theorem Ph.found {A c y1 y0 q r : Int} (h : Dom A c y1 y0) (p : Ph A c y1 y0 q r) (hd : q * y0 ≤ 4294967296 * r + c) : q = (A * 4294967296 + c) / (y1 * 4294967296 + y0) := by
  have hle : q ≤ (A * 4294967296 + c) / (y1 * 4294967296 + y0) := by
    refine Int.le_ediv_of_mul_le (by have := h.y1l; have := h.y0l; omega) ?_
    rw [exp_y]
    have := p.a
    omega
  have := p.ge
  omega

theorem Ph.less {A c y1 y0 q r : Int} (h : Dom A c y1 y0) (p : Ph A c y1 y0 q r) (hd : 4294967296 ≤ q ∨ 4294967296 * r + c < q * y0) : (A * 4294967296 + c) / (y1 * 4294967296 + y0) ≤ q - 1 := by
  have hq := h.quo
  rcases hd with hd | hd
  · omega
  · have h1 : (A * 4294967296 + c) / (y1 * 4294967296 + y0) < q := by
      refine Int.ediv_lt_of_lt_mul (by have := h.y1l; have := h.y0l; omega) ?_
      rw [exp_y]
      have := p.a
      omega
    omega

/-- One step on. -/
theorem Ph.next {A c y1 y0 q r : Int} (h : Dom A c y1 y0) (p : Ph A c y1 y0 q r) (hd : 4294967296 ≤ q ∨ 4294967296 * r + c < q * y0) (hr : r + y1 < 4294967296) : Ph A c y1 y0 (q - 1) (r + y1) := by
  have hl := p.less h hd
  have hq := h.quo
  have := h.y1l
  have e : (q - 1) * y1 = q * y1 - y1 := by rw [Int.sub_mul, Int.one_mul]
  exact ⟨by have := p.a; omega, by have := p.r0; omega, hr, by omega, by have := p.q1; omega, hl⟩

/-- The last step. -/
theorem Ph.last {A c y1 y0 q r : Int} (h : Dom A c y1 y0) (p : Ph A c y1 y0 q r) (hd : 4294967296 ≤ q ∨ 4294967296 * r + c < q * y0) (hr : 4294967296 ≤ r + y1) : q - 1 = (A * 4294967296 + c) / (y1 * 4294967296 + y0) := by
  have hl := p.less h hd
  have hle : q - 1 ≤ (A * 4294967296 + c) / (y1 * 4294967296 + y0) := by
    refine Int.le_ediv_of_mul_le (by have := h.y1l; have := h.y0l; omega) ?_
    rw [exp_y]
    have e : (q - 1) * y1 = q * y1 - y1 := by rw [Int.sub_mul, Int.one_mul]
    have hq := h.quo
    have := Int.mul_le_mul (show q - 1 ≤ 4294967296 by have := p.q1; omega) (show y0 ≤ 4294967295 by have := h.y0u; omega) h.y0l (by omega)
    have := p.a
    have := h.cl
    omega
  omega
theorem Ph.pos {A c y1 y0 q r : Int} (h : Dom A c y1 y0) (p : Ph A c y1 y0 q r) (hd : 4294967296 ≤ q ∨ 4294967296 * r + c < q * y0) : 1 ≤ q := by
  have := p.less h hd
  have := h.quo
  omega

/-- What is left behind the quotient. -/
theorem rest_of {A c y1 y0 : Int} (h : Dom A c y1 y0) : A * 4294967296 + c - (A * 4294967296 + c) / (y1 * 4294967296 + y0) * (y1 * 4294967296 + y0) = (A * 4294967296 + c) % (y1 * 4294967296 + y0) ∧
    0 ≤ (A * 4294967296 + c) % (y1 * 4294967296 + y0) ∧ (A * 4294967296 + c) % (y1 * 4294967296 + y0) < y1 * 4294967296 + y0 := by
  have hy : 0 < y1 * 4294967296 + y0 := by have := h.y1l; have := h.y0l; omega
  refine ⟨?_, Int.emod_nonneg _ (by omega), Int.emod_lt_of_pos _ hy⟩
  have := Int.mul_ediv_add_emod (A * 4294967296 + c) (y1 * 4294967296 + y0)
  rw [Int.mul_comm] at this
  omega

/-- The two phases together. -/
theorem both {A c d Y : Int} (hY : 0 < Y) : (A * 4294967296 + c) / Y * 4294967296 + ((A * 4294967296 + c) % Y * 4294967296 + d) / Y = ((A * 4294967296 + c) * 4294967296 + d) / Y ∧
    ((A * 4294967296 + c) % Y * 4294967296 + d) % Y = ((A * 4294967296 + c) * 4294967296 + d) % Y := by
  have e := Int.mul_ediv_add_emod (A * 4294967296 + c) Y
  generalize (A * 4294967296 + c) / Y = q at *
  generalize (A * 4294967296 + c) % Y = r at *
  have e2 : (A * 4294967296 + c) * 4294967296 + d = (r * 4294967296 + d) + Y * (q * 4294967296) := by rw [← e, Int.add_mul, Int.mul_assoc]; omega
  rw [e2, Int.add_mul_ediv_left _ _ (by omega), Int.add_mul_emod_self_left]
  exact ⟨by omega, rfl⟩

/-- Scaled back. -/
theorem scaled (N y : Int) {p : Int} (hp : 0 < p) : N * p / (y * p) = N / y ∧ N * p % (y * p) / p = N % y := by
  rw [Int.mul_ediv_mul_of_pos_left _ _ hp]
  refine ⟨rfl, ?_⟩
  rw [Int.mul_comm N p, Int.mul_comm y p, Int.mul_emod_mul_of_pos _ _ hp, Int.mul_ediv_cancel_left _ (by omega)]

/-! ### the leading zeros -/
theorem bitLen_pos : ∀ (f x : Nat), x < 2 ^ f → x ≠ 0 → 2 ^ (Lib.bitLenAux f x - 1) ≤ x ∧ x < 2 ^ (Lib.bitLenAux f x) ∧ 1 ≤ Lib.bitLenAux f x
  | 0, x, h, h0 => by simp at h; omega
  | f + 1, x, h, h0 => by
    simp only [Lib.bitLenAux, if_neg h0]
    by_cases h2 : x / 2 = 0
    · have : x = 1 := by omega
      subst this
      cases f <;> simp [Lib.bitLenAux]
    · obtain ⟨a, b, c⟩ := bitLen_pos f (x / 2) (by rw [Nat.pow_succ] at h; omega) h2
      generalize Lib.bitLenAux f (x / 2) = m at *
      obtain ⟨m, rfl⟩ : ∃ k, m = k + 1 := ⟨m - 1, by omega⟩
      simp only [Nat.add_sub_cancel] at a
      rw [show 1 + (m + 1) - 1 = m + 1 by omega, show 1 + (m + 1) = m + 2 by omega]
      rw [Nat.pow_succ] at b
      rw [Nat.pow_succ, Nat.pow_succ, Nat.pow_succ]
      omega
/-- A number has a shift that sets the top bit. -/
theorem lz (y : Int) (h0 : 1 ≤ y) (h1 : y < 18446744073709551616) : ∃ n : Nat, n ≤ 63 ∧ 64 - (Lib.bitLen y.toNat : Int) = n ∧ 9223372036854775808 ≤ y * 2 ^ n ∧ y * 2 ^ n < 18446744073709551616 := by
  obtain ⟨y, rfl⟩ := Int.eq_ofNat_of_zero_le (show 0 ≤ y by omega)
  obtain ⟨a, b, c⟩ := bitLen_pos 64 y (by omega) (by omega)
  have d := Lib.bitLen_le y 64 (Nat.le_refl _) (by omega)
  simp only [Int.toNat_natCast]
  unfold Lib.bitLen at *
  generalize Lib.bitLenAux 64 y = m at *
  have e : (y : Int) * 2 ^ (64 - m) = ((y * 2 ^ (64 - m) : Nat) : Int) := by rw [Int.natCast_mul, Int.natCast_pow]; rfl
  refine ⟨64 - m, by omega, by omega, ?_, ?_⟩ <;> rw [e]
  · have : 2 ^ (m - 1) * 2 ^ (64 - m) ≤ y * 2 ^ (64 - m) := Nat.mul_le_mul_right _ a
    rw [← Nat.pow_add, show m - 1 + (64 - m) = 63 by omega] at this
    omega
  · have : y * 2 ^ (64 - m) < 2 ^ m * 2 ^ (64 - m) := Nat.mul_lt_mul_of_pos_right b (Nat.two_pow_pos _)
    rw [← Nat.pow_add, show m + (64 - m) = 64 by omega] at this
    omega
end Go.Proofs.YtieklkpjlbpnbaaDoor.Dv
