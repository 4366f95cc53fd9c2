/-
  The contracts of package wide's signed, Mul and Scale: said of numbers of two words.
-/
import Derived.Test.YtieklkpjlbpnbaaDoorWide2
namespace Go.Proofs.YtieklkpjlbpnbaaDoor.Wt
open Go.RowKit
open Go.Proofs.YtieklkpjlbpnbaaDoor.Wm

/-- The least number of two words with a sign, and its opposite. -/
def low : Int := -170141183460469231731687303715884105728
theorem sg_lt {m : Int} (h0 : 0 ≤ m) (h : m ≤ 170141183460469231731687303715884105727) : hi m < 9223372036854775808 ∧ 0 ≤ hi m := by unfold hi; omega
theorem i128_of {m : Int} (h0 : 0 ≤ m) (h : m ≤ 170141183460469231731687303715884105727) : I128 m := by unfold I128; omega
theorem nw_of {m : Int} (h0 : 0 ≤ m) : nw m = -m := by unfold nw; rw [if_neg (by omega)]

theorem signed_pos (m : Int) (w : World) (h0 : 0 ≤ m) (h : m ≤ 170141183460469231731687303715884105727) :
    Calls Tryd.prog 53 #[.agg #[.int .u64 (hi m), .int .u64 (lo m)], .bool false] w fun e w' => e = .returned (.tuple #[.agg #[.int .i64 (hi m), .int .u64 (lo m)], .int .i64 0]) ∧ Below w.heap.size w w' := by
  obtain ⟨k1, k0⟩ := sg_lt h0 h
  clear h h0
  go_enter Tryd.func53, Tryd.ntmps53
  go_wp2_with fail
  simp [bodyPost, results, Tryd.results53, go_sem]
  exact (by repeat (first | assumption | exact Below.refl _ _ | refine Below.setCell ?_ (by first | exact Nat.le_refl _ | (simp; done) | (simp; omega) | omega) _ | refine Below.alloc ?_ (by first | exact Nat.le_refl _ | (simp; done) | (simp; omega) | omega) _ | refine Below.drew ?_ | exact Nat.le_refl _))

theorem signed_neg (m : Int) (w : World) (h0 : 0 ≤ m) (h : m ≤ 170141183460469231731687303715884105727) :
    Calls Tryd.prog 53 #[.agg #[.int .u64 (hi m), .int .u64 (lo m)], .bool true] w fun e w' => e = .returned (.tuple #[.agg #[.int .i64 (hi (-m)), .int .u64 (lo (-m))], .int .i64 0]) ∧ Below w.heap.size w w' := by
  obtain ⟨k1, k0⟩ := sg_lt h0 h
  have hi128 := Lib.hid (i128_of h0 h)
  have hnw := Lib.hid (nw_of h0)
  clear h h0
  go_enter Tryd.func53, Tryd.ntmps53
  go_wp2_with fail
  refine (negate_any m _ hi128.out).mono ?_
  rw [hnw.out]
  rintro e w1 ⟨rfl, hb1⟩
  obtain ⟨cc, cd, cf, cg⟩ := later2 hb1 (g := w.heap.size + 1) (u := .int .i64 0) (v := .int .u64 0) (by simp [go_sem]) (by simp [go_sem]) (by simp [go_sem]) (by simp [go_sem])
  have cz : w.heap.size + 1 < w1.heap.size := World.block_lt_of_cell? _ _ cc
  obtain ⟨dc, dd, df, dg⟩ := later2 hb1 (g := w.heap.size + 2) (u := .int .i64 (hi m)) (v := .int .u64 (lo m)) (by simp [go_sem]) (by simp [go_sem]) (by simp [go_sem]) (by simp [go_sem])
  have dz : w.heap.size + 2 < w1.heap.size := World.block_lt_of_cell? _ _ dc
  have b1 : Below w.heap.size w w1 := bl2 hb1 (by repeat (first | assumption | exact Below.refl _ _ | refine Below.setCell ?_ (by first | exact Nat.le_refl _ | (simp; done) | (simp; omega) | omega) _ | refine Below.alloc ?_ (by first | exact Nat.le_refl _ | (simp; done) | (simp; omega) | omega) _ | refine Below.drew ?_ | exact Nat.le_refl _))
  have z1 := hb1.size
  try simp at z1
  clear hb1
  go_wp2_with fail
  simp [bodyPost, results, Tryd.results53, go_sem, cc, cd]
  exact (by repeat (first | assumption | exact Below.refl _ _ | refine Below.setCell ?_ (by first | exact Nat.le_refl _ | (simp; done) | (simp; omega) | omega) _ | refine Below.alloc ?_ (by first | exact Nat.le_refl _ | (simp; done) | (simp; omega) | omega) _ | refine Below.drew ?_ | exact Nat.le_refl _))

theorem negate_low (w : World) : Calls Tryd.prog 58 #[.agg #[.int .i64 (-9223372036854775808), .int .u64 0]] w fun e w' => e = .returned (.agg #[.int .i64 (-9223372036854775808), .int .u64 0]) ∧ Below w.heap.size w w' := by
  have h := negate_any low w (by unfold I128 low; omega)
  rw [show nw low = low by decide, show hi low = -9223372036854775808 by decide, show lo low = 0 by decide] at h
  exact h
theorem w63 : wrap64 9223372036854775808 = -9223372036854775808 := by unfold wrap64; rfl
theorem signed_low (w : World) :
    Calls Tryd.prog 53 #[.agg #[.int .u64 9223372036854775808, .int .u64 0], .bool true] w fun e w' => e = .returned (.tuple #[.agg #[.int .i64 (-9223372036854775808), .int .u64 0], .int .i64 0]) ∧ Below w.heap.size w w' := by
  go_enter Tryd.func53, Tryd.ntmps53
  go_wp2_with fail
  rw [w63]
  refine (negate_low _).mono ?_
  rintro e w1 ⟨rfl, hb1⟩
  obtain ⟨cc, cd, cf, cg⟩ := later2 hb1 (g := w.heap.size + 1) (u := .int .i64 0) (v := .int .u64 0) (by simp [go_sem]) (by simp [go_sem]) (by simp [go_sem]) (by simp [go_sem])
  have cz : w.heap.size + 1 < w1.heap.size := World.block_lt_of_cell? _ _ cc
  obtain ⟨dc, dd, df, dg⟩ := later2 hb1 (g := w.heap.size + 2) (u := .int .i64 (-9223372036854775808)) (v := .int .u64 0) (by simp [go_sem]) (by simp [go_sem]) (by simp [go_sem]) (by simp [go_sem])
  have dz : w.heap.size + 2 < w1.heap.size := World.block_lt_of_cell? _ _ dc
  have b1 : Below w.heap.size w w1 := bl2 hb1 (by repeat (first | assumption | exact Below.refl _ _ | refine Below.setCell ?_ (by first | exact Nat.le_refl _ | (simp; done) | (simp; omega) | omega) _ | refine Below.alloc ?_ (by first | exact Nat.le_refl _ | (simp; done) | (simp; omega) | omega) _ | refine Below.drew ?_ | exact Nat.le_refl _))
  have z1 := hb1.size
  try simp at z1
  clear hb1
  go_wp2_with fail
  simp [bodyPost, results, Tryd.results53, go_sem, cc, cd]
  exact (by repeat (first | assumption | exact Below.refl _ _ | refine Below.setCell ?_ (by first | exact Nat.le_refl _ | (simp; done) | (simp; omega) | omega) _ | refine Below.alloc ?_ (by first | exact Nat.le_refl _ | (simp; done) | (simp; omega) | omega) _ | refine Below.drew ?_ | exact Nat.le_refl _))

/-- The refusal. -/
theorem signed_no1 (a b : Int) (minus : Bool) (w : World) (h : 9223372036854775808 < a) :
    Calls Tryd.prog 53 #[.agg #[.int .u64 a, .int .u64 b], .bool minus] w fun e w' => e = .returned (.tuple #[.agg #[.int .i64 0, .int .u64 0], .int .i64 6]) ∧ Below w.heap.size w w' := by
  go_enter Tryd.func53, Tryd.ntmps53
  go_wp2_with fail
  simp [bodyPost, results, Tryd.results53, go_sem]
  exact (by repeat (first | assumption | exact Below.refl _ _ | refine Below.setCell ?_ (by first | exact Nat.le_refl _ | (simp; done) | (simp; omega) | omega) _ | refine Below.alloc ?_ (by first | exact Nat.le_refl _ | (simp; done) | (simp; omega) | omega) _ | refine Below.drew ?_ | exact Nat.le_refl _))
theorem signed_no2 (b : Int) (minus : Bool) (w : World) (h : minus = false ∨ 0 < b) :
    Calls Tryd.prog 53 #[.agg #[.int .u64 9223372036854775808, .int .u64 b], .bool minus] w fun e w' => e = .returned (.tuple #[.agg #[.int .i64 0, .int .u64 0], .int .i64 6]) ∧ Below w.heap.size w w' := by
  cases minus
  · clear h
    go_enter Tryd.func53, Tryd.ntmps53
    go_wp2_with fail
    simp [bodyPost, results, Tryd.results53, go_sem]
    exact (by repeat (first | assumption | exact Below.refl _ _ | refine Below.setCell ?_ (by first | exact Nat.le_refl _ | (simp; done) | (simp; omega) | omega) _ | refine Below.alloc ?_ (by first | exact Nat.le_refl _ | (simp; done) | (simp; omega) | omega) _ | refine Below.drew ?_ | exact Nat.le_refl _))
  · have hb : 0 < b := by simpa using h
    clear h
    go_enter Tryd.func53, Tryd.ntmps53
    go_wp2_with fail
    simp [bodyPost, results, Tryd.results53, go_sem]
    exact (by repeat (first | assumption | exact Below.refl _ _ | refine Below.setCell ?_ (by first | exact Nat.le_refl _ | (simp; done) | (simp; omega) | omega) _ | refine Below.alloc ?_ (by first | exact Nat.le_refl _ | (simp; done) | (simp; omega) | omega) _ | refine Below.drew ?_ | exact Nat.le_refl _))

theorem hi_2127 : hi 170141183460469231731687303715884105728 = 9223372036854775808 := by decide
theorem lo_2127 : lo 170141183460469231731687303715884105728 = 0 := by decide
theorem hi_n2127 : hi (-170141183460469231731687303715884105728) = -9223372036854775808 := by decide
theorem lo_n2127 : lo (-170141183460469231731687303715884105728) = 0 := by decide

/-- The number with an absolute value and the sign of a number. -/
theorem signed_of (x : Int) (w : World) (hx : I128 x) :
    Calls Tryd.prog 53 #[.agg #[.int .u64 (hi (ab x)), .int .u64 (lo (ab x))], .bool (decide (x < 0))] w fun e w' => e = .returned (.tuple #[.agg #[.int .i64 (hi x), .int .u64 (lo x)], .int .i64 0]) ∧ Below w.heap.size w w' := by
  unfold I128 at hx
  by_cases h : x < 0
  · rw [ab_neg h, decide_eq_true h]
    by_cases g : x = -170141183460469231731687303715884105728
    · rw [g, Int.neg_neg, hi_2127, lo_2127, hi_n2127, lo_n2127]
      exact signed_low w
    · have := signed_neg (-x) w (by omega) (by omega)
      rw [Int.neg_neg] at this
      exact this
  · rw [ab_pos (by omega), decide_eq_false h]
    exact signed_pos x w (by omega) (by omega)
theorem signed_not (x : Int) (w : World) (hx : ¬ I128 x) (hu : U128 (ab x)) :
    Calls Tryd.prog 53 #[.agg #[.int .u64 (hi (ab x)), .int .u64 (lo (ab x))], .bool (decide (x < 0))] w fun e w' => e = .returned (.tuple #[.agg #[.int .i64 0, .int .u64 0], .int .i64 6]) ∧ Below w.heap.size w w' := by
  by_cases g : 9223372036854775808 < hi (ab x)
  · exact signed_no1 _ _ _ w g
  · unfold I128 at hx
    unfold U128 at hu
    by_cases h : x < 0
    · rw [ab_neg h] at g hu ⊢
      have e : hi (-x) = 9223372036854775808 := by unfold hi at g ⊢; omega
      have e2 : 0 < lo (-x) := by unfold lo; unfold hi at g; omega
      rw [e]
      exact signed_no2 _ _ w (.inr e2)
    · rw [ab_pos (by omega)] at g hu ⊢
      have e : hi x = 9223372036854775808 := by unfold hi at g ⊢; omega
      rw [e, decide_eq_false h]
      exact signed_no2 _ _ w (.inl rfl)
end Go.Proofs.YtieklkpjlbpnbaaDoor.Wt
