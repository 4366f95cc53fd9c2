/-
  The contract of the reference's times: a magnitude is doubled bit by bit; the product, or false.
  The contracts of the reference's Scale and Mul: the product, or zero and the error.
-/
import Derived.Test.YtaanicginfjgdaaDoorRa
import Derived.Laws.BitsAllLaws
import Derived.Deep.RegionWith
namespace Go.Proofs.YtaanicginfjgdaaDoor.Wt
open Go.RowKit
open Go.Proofs.YtaanicginfjgdaaDoor
open Go.Proofs.YtaanicginfjgdaaDoor.Wm

theorem top0 {x : Int} (h0 : 0 ≤ x) (h : x < 9223372036854775808) : (bits .and .u64 x 9223372036854775808 != 0) = false := by
  rw [u64_and x 9223372036854775808 h0 (by omega) (by omega) (by omega)]
  rw [show (9223372036854775808 : Int).toNat = 9223372036854775808 from rfl, nat_bit63]
  simp; omega
theorem top1 {x : Int} (h : 9223372036854775808 ≤ x) (h1 : x < 18446744073709551616) : (bits .and .u64 x 9223372036854775808 != 0) = true := by
  rw [u64_and x 9223372036854775808 (by omega) h1 (by omega) (by omega)]
  rw [show (9223372036854775808 : Int).toNat = 9223372036854775808 from rfl, nat_bit63]
  simp; omega

/-- The greatest magnitude. -/
def maxM : Int := 340282366920938463463374607431768211455
/-- The bits of n that have been taken after k rounds are p, the others x; o is the product so far, if it fits. -/
structure TimesRel (m n : Int) (k : Nat) (p x o : Int) (fb : Bool) : Prop where
  le : k ≤ 64
  eq : p * 18446744073709551616 + x = n * 2 ^ k
  p0 : 0 ≤ p
  xw : U64 x
  om : U128 o
  fits : fb = decide (m * p ≤ maxM)
  prod : fb = true → o = m * p
theorem TimesRel.start (m n : Int) (hn : U64 n) : TimesRel m n 0 0 n 0 true :=
  ⟨by omega, by omega, by omega, hn, by unfold U128; omega, by rw [Int.mul_zero]; decide, fun _ => by rw [Int.mul_zero]⟩
theorem pow_step (n : Int) (k : Nat) : n * 2 ^ (k + 1) = 2 * (n * 2 ^ k) := by
  rw [Int.pow_succ, ← Int.mul_assoc, Int.mul_comm]
section
variable {m n p x o : Int} {k : Nat} {fb : Bool}
theorem TimesRel.end_ (h : TimesRel m n 64 p x o fb) : p = n := by
  have e := h.eq
  have := h.xw
  unfold U64 at this
  rw [show (2 : Int) ^ 64 = 18446744073709551616 from rfl] at e
  omega
/-- No bit, and twice the product fits. -/
theorem TimesRel.even (h : TimesRel m n k p x o true) (hk : k < 64) (hx : x < 9223372036854775808) (hf : o + o ≤ maxM) : TimesRel m n (k + 1) (2 * p) (IntKind.u64.wrap (x * 2)) (o + o) true := by
  have ho := h.prod rfl
  have e : m * (2 * p) = o + o := by rw [ho, Int.mul_left_comm]; omega
  refine ⟨by omega, ?_, by have := h.p0; omega, wrap_bd _, ⟨by have := h.om.1; omega, hf⟩, ?_, fun _ => e.symm⟩
  · have := h.eq; have := h.xw.1; rw [pow_step, IntKind.wrap_u64]; omega
  · rw [e]; exact (decide_eq_true hf).symm
/-- A bit, and twice the product and once more fits. -/
theorem TimesRel.odd (h : TimesRel m n k p x o true) (hk : k < 64) (hx : 9223372036854775808 ≤ x) (hf : o + o + m ≤ maxM) (hm : 0 ≤ m) : TimesRel m n (k + 1) (2 * p + 1) (IntKind.u64.wrap (x * 2)) (o + o + m) true := by
  have ho := h.prod rfl
  have e : m * (2 * p + 1) = o + o + m := by rw [Int.mul_add, Int.mul_one, ho, Int.mul_left_comm]; omega
  refine ⟨by omega, ?_, by have := h.p0; omega, wrap_bd _, ⟨by have := h.om.1; omega, hf⟩, ?_, fun _ => e.symm⟩
  · have := h.eq; have := h.xw.2; rw [pow_step, IntKind.wrap_u64]; omega
  · rw [e]; exact (decide_eq_true hf).symm
/-- Too large. -/
theorem TimesRel.over (h : TimesRel m n k p x o true) (hk : k < 64) (hm : 0 ≤ m) {o' : Int} (ho' : U128 o') (hf : maxM < o + o ∨ (9223372036854775808 ≤ x ∧ maxM < o + o + m)) :
    TimesRel m n (k + 1) (if 9223372036854775808 ≤ x then 2 * p + 1 else 2 * p) (IntKind.u64.wrap (x * 2)) o' false := by
  have ho := h.prod rfl
  have e : m * (2 * p) = o + o := by rw [ho, Int.mul_left_comm]; omega
  have e2 : m * (2 * p + 1) = o + o + m := by rw [Int.mul_add, Int.mul_one, e]
  have := h.eq; have := h.xw; have := h.p0
  unfold U64 at *
  by_cases hb : 9223372036854775808 ≤ x
  · rw [if_pos hb]
    refine ⟨by omega, by rw [pow_step, IntKind.wrap_u64]; omega, by omega, wrap_bd _, ho', ?_, fun e => by cases e⟩
    rw [e2]; exact (decide_eq_false (by omega)).symm
  · rw [if_neg hb]
    refine ⟨by omega, by rw [pow_step, IntKind.wrap_u64]; omega, by omega, wrap_bd _, ho', ?_, fun e => by cases e⟩
    rw [e]; exact (decide_eq_false (by omega)).symm
/-- It was too large before. -/
theorem TimesRel.lost (h : TimesRel m n k p x o false) (hk : k < 64) (hm : 0 ≤ m) {o' : Int} (ho' : U128 o') :
    TimesRel m n (k + 1) (if 9223372036854775808 ≤ x then 2 * p + 1 else 2 * p) (IntKind.u64.wrap (x * 2)) o' false := by
  have hf := of_decide_eq_false h.fits.symm
  have := h.eq; have := h.xw; have hp := h.p0
  have h1 : 0 ≤ m * p := Int.mul_nonneg hm hp
  have e : m * (2 * p) = 2 * (m * p) := by rw [Int.mul_left_comm]
  have e2 : m * (2 * p + 1) = 2 * (m * p) + m := by rw [Int.mul_add, Int.mul_one, e]
  unfold U64 at *
  by_cases hb : 9223372036854775808 ≤ x
  · rw [if_pos hb]
    refine ⟨by omega, by rw [pow_step, IntKind.wrap_u64]; omega, by omega, wrap_bd _, ho', ?_, fun e => by cases e⟩
    rw [e2]; exact (decide_eq_false (by omega)).symm
  · rw [if_neg hb]
    refine ⟨by omega, by rw [pow_step, IntKind.wrap_u64]; omega, by omega, wrap_bd _, ho', ?_, fun e => by cases e⟩
    rw [e]; exact (decide_eq_false (by omega)).symm
end

/-- A block of two cells that may be written. -/
def Two (W : World) (g : Nat) (u v : Value) : Prop := W.cell? ⟨g, 0, none⟩ = some u ∧ W.cell? ⟨g, 1, none⟩ = some v ∧ W.frozen? ⟨g, 0, none⟩ = false ∧ W.frozen? ⟨g, 1, none⟩ = false
/-- The loop's own relation. -/
def TimesLoop (w : World) (m n : Int) (vx vf vi : Value) (wr : World) : Prop := ∃ (k : Nat) (p x o : Int) (fb : Bool), TimesRel m n k p x o fb ∧ vx = .int .u64 x ∧ vf = .bool fb ∧ vi = .int .i64 k ∧
  Two wr w.heap.size (.int .u64 (hi m)) (.int .u64 (lo m)) ∧ Two wr (w.heap.size + 1) (.int .u64 0) (.int .u64 0) ∧ Two wr (w.heap.size + 2) (.int .u64 (hi o)) (.int .u64 (lo o)) ∧ Below w.heap.size w wr

/-- A magnitude, and false. -/
def NoMag (w : World) (e : Ending) (w' : World) : Prop := ∃ o : Int, U128 o ∧ e = .returned (.tuple #[.agg #[.int .u64 (hi o), .int .u64 (lo o)], .bool false]) ∧ Below w.heap.size w w'
/-- What the whole call returns. -/
def TimesPost (w : World) (m n : Int) (e : Ending) (w' : World) : Prop := ∃ o : Int, U128 o ∧ e = .returned (.tuple #[.agg #[.int .u64 (hi o), .int .u64 (lo o)], .bool (decide (m * n ≤ maxM))]) ∧ (m * n ≤ maxM → o = m * n) ∧ Below w.heap.size w w'

end Go.Proofs.YtaanicginfjgdaaDoor.Wt

namespace Go.Proofs.YtaanicginfjgdaaDoor.Wt
open Go.RowKit
open Go.Proofs.YtaanicginfjgdaaDoor
open Go.Proofs.YtaanicginfjgdaaDoor.Wm

/-- A number that is left open, and some bool. -/
def SomeJoin (w : World) (e : Ending) (w' : World) : Prop := ∃ (a b : Int) (f : Bool), e = .returned (.tuple #[.agg #[.int .i64 a, .int .u64 b], .bool f]) ∧ Below w.heap.size w w'
end Go.Proofs.YtaanicginfjgdaaDoor.Wt
