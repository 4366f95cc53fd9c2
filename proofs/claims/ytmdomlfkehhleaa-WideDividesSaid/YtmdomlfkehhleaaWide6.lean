/-
  The contract of package wide's Scale, whole: the product and OK, or zero and the error for what is too large.
-/
import Derived.Test.YtmdomlfkehhleaaWide5
namespace Go.Proofs.Ytmdomlfkehhleaa.Wt
open Go.RowKit
open Go.Proofs.Ytmdomlfkehhleaa
open Go.Proofs.Ytmdomlfkehhleaa.Wm

open Classical in
/-- The number, if it is one of two words with a sign, else 0. -/
noncomputable def fit (p : Int) : Int := if I128 p then p else 0
open Classical in
/-- OK, or ErrOverflow. -/
noncomputable def ovf (p : Int) : Int := if I128 p then 0 else 6
theorem fit_in {p : Int} (h : I128 p) : fit p = p := if_pos h
theorem fit_out {p : Int} (h : ¬ I128 p) : fit p = 0 := if_neg h
theorem ovf_in {p : Int} (h : I128 p) : ovf p = 0 := if_pos h
theorem ovf_out {p : Int} (h : ¬ I128 p) : ovf p = 6 := if_neg h
theorem fit_bd (p : Int) : I128 (fit p) := by
  by_cases h : I128 p
  · rw [fit_in h]; exact h
  · rw [fit_out h]; unfold I128; omega

theorem scale_over (x n : Int) (w : World) (hx : I128 x) (hn : I64 n) (HF : 340282366920938463463374607431768211455 < ab x * ab n) :
    Calls Try.prog 17 #[.agg #[.int .i64 (hi x), .int .u64 (lo x)], .int .i64 n] w fun e w' => e = .returned (.tuple #[.agg #[.int .i64 0, .int .u64 0], .int .i64 6]) ∧ Below w.heap.size w w' := by
  have HF' := Lib.hid HF
  clear HF
  go_enter Try.func17, Try.ntmps17
  go_wp2_with fail
  refine (absolute_any x _ hx).mono ?_
  rintro e w1 ⟨rfl, hb1⟩
  obtain ⟨dc, dd, df, dg⟩ := later2 hb1 (g := w.heap.size + 1) (u := .int .i64 0) (v := .int .u64 0) (by simp [go_sem]) (by simp [go_sem]) (by simp [go_sem]) (by simp [go_sem])
  have dz : w.heap.size + 1 < w1.heap.size := World.block_lt_of_cell? _ _ dc
  have b1 : Below w.heap.size w w1 := bl2 hb1 (by repeat (first | assumption | exact Below.refl _ _ | refine Below.setCell ?_ (by first | exact Nat.le_refl _ | (simp; done) | (simp; omega) | omega) _ | refine Below.alloc ?_ (by first | exact Nat.le_refl _ | (simp; done) | (simp; omega) | omega) _ | refine Below.drew ?_ | exact Nat.le_refl _))
  have z1 := hb1.size
  try simp at z1
  clear hb1
  go_wp2_with fail
  refine (abs_any n _ hn).mono ?_
  rintro e w' ⟨rfl, rfl⟩
  go_wp2_with fail
  refine (times0_not _ _ _ (ab_u128 hx) (ab_word hn) HF'.out).mono ?_
  rintro e w2 ⟨a, b, rfl, ha, hb, hb2⟩
  obtain ⟨fc, fd, ff, fg⟩ := later2 hb2 (g := w.heap.size + 1) (u := .int .i64 0) (v := .int .u64 0) (by simp [go_sem, *]) (by simp [go_sem, *]) (by simp [go_sem, *]) (by simp [go_sem, *])
  have fz : w.heap.size + 1 < w2.heap.size := World.block_lt_of_cell? _ _ fc
  have b2 : Below w.heap.size w w2 := bl2 hb2 (by repeat (first | assumption | exact Below.refl _ _ | refine Below.setCell ?_ (by first | exact Nat.le_refl _ | (simp; done) | (simp; omega) | omega) _ | refine Below.alloc ?_ (by first | exact Nat.le_refl _ | (simp; done) | (simp; omega) | omega) _ | refine Below.drew ?_ | exact Nat.le_refl _))
  have z2 := hb2.size
  try simp at z2
  clear hb2
  clear dc dd df dg
  go_wp2_with fail
  simp [bodyPost, results, Try.results17, go_sem, fc, fd, fz]
  exact (by repeat (first | assumption | exact Below.refl _ _ | refine Below.setCell ?_ (by first | exact Nat.le_refl _ | (simp; done) | (simp; omega) | omega) _ | refine Below.alloc ?_ (by first | exact Nat.le_refl _ | (simp; done) | (simp; omega) | omega) _ | refine Below.drew ?_ | exact Nat.le_refl _))

theorem hi_decide (x : Int) : decide (hi x < 0) = decide (x < 0) := by rw [decide_eq_decide]; exact hi_neg x
theorem hl_ne {m : Int} (h : m ≠ 0) : ¬ (hi m = 0 ∧ lo m = 0) := fun ⟨a, b⟩ => h (by have := hi_lo m; rw [a, b] at this; omega)

/-- What 'signed' returns for a product. -/
theorem signed_fit (p : Int) (hu : U128 (ab p)) : Hid (∀ W : World, Calls Try.prog 34 #[.agg #[.int .u64 (hi (ab p)), .int .u64 (lo (ab p))], .bool (decide (p < 0))] W fun e w' => e = .returned (.tuple #[.agg #[.int .i64 (hi (fit p)), .int .u64 (lo (fit p))], .int .i64 (ovf p)]) ∧ Below W.heap.size W w') := by
  intro W
  by_cases h : I128 p
  · rw [fit_in h, ovf_in h]; exact signed_of p W h
  · rw [fit_out h, ovf_out h, hi_0, lo_0]; exact signed_not p W h hu

theorem scale_any (x n : Int) (w : World) (hx : I128 x) (hn : I64 n) :
    Calls Try.prog 17 #[.agg #[.int .i64 (hi x), .int .u64 (lo x)], .int .i64 n] w fun e w' => e = .returned (.tuple #[.agg #[.int .i64 (hi (fit (x * n))), .int .u64 (lo (fit (x * n)))], .int .i64 (ovf (x * n))]) ∧ Below w.heap.size w w' := by
  have e1 := ab_mul x n
  by_cases hf : ab x * ab n ≤ 340282366920938463463374607431768211455
  · have hu : U128 (ab (x * n)) := by
      rw [← e1]; exact ⟨by rw [e1]; unfold ab; split <;> omega, hf⟩
    have hs := signed_fit (x * n) hu
    by_cases ht : decide (x < 0) = decide (n < 0)
    · have hd : decide (x * n < 0) = false := by
        by_cases h0 : x * n = 0
        · rw [h0]; rfl
        · rw [mul_sign x n h0, ht]; simp
      rw [hd] at hs
      exact scale_w1 x n _ _ _ _ w hx hn (Lib.hid hf) (Lib.hid e1) (by rw [hi_decide]; exact ht) hs
    · have ht' : decide (hi x < 0) = !decide (n < 0) := by
        rw [hi_decide]; revert ht; cases decide (x < 0) <;> cases decide (n < 0) <;> simp
      by_cases h0 : x * n = 0
      · rw [h0] at hs ⊢
        rw [h0] at e1
        rw [show ab 0 = 0 from rfl] at hs e1
        rw [hi_0, lo_0, show decide ((0 : Int) < 0) = false from rfl] at hs
        exact scale_w2 x n _ _ _ w hx hn (Lib.hid hf) (Lib.hid e1) ht' hs
      · have hd : decide (x * n < 0) = true := by
          rw [mul_sign x n h0]; revert ht; cases decide (x < 0) <;> cases decide (n < 0) <;> simp
        rw [hd] at hs
        have hne : ab (x * n) ≠ 0 := by unfold ab; split <;> omega
        exact scale_w3 x n _ _ _ _ w hx hn (Lib.hid hf) (Lib.hid e1) ht' (Lib.hid (hl_ne hne)) hs
  · have hn128 : ¬ I128 (x * n) := by
      rw [e1] at hf; intro h; unfold I128 at h; revert hf; unfold ab; split <;> omega
    rw [fit_out hn128, ovf_out hn128, hi_0, lo_0]
    exact scale_over x n w hx hn (by omega)

end Go.Proofs.Ytmdomlfkehhleaa.Wt
