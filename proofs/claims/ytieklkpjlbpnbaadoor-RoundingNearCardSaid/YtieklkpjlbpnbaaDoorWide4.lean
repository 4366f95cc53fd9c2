/-
  The contracts of package wide's Mul and Scale: said of numbers of two words.
-/
import Derived.Test.YtieklkpjlbpnbaaDoorWide3
namespace Go.Proofs.YtieklkpjlbpnbaaDoor.Wt
open Go.RowKit
open Go.Proofs.YtieklkpjlbpnbaaDoor.Wm

theorem ab_mul (a b : Int) : ab a * ab b = ab (a * b) := by
  unfold ab
  by_cases ha : a < 0
  · by_cases hb : b < 0
    · have := Int.mul_pos_of_neg_of_neg ha hb
      rw [if_pos ha, if_pos hb, if_neg (by omega)]; exact Int.neg_mul_neg a b
    · by_cases hb0 : b = 0
      · subst hb0; simp
      · have := Int.mul_neg_of_neg_of_pos ha (show 0 < b by omega)
        rw [if_pos ha, if_neg hb, if_pos this]; exact Int.neg_mul a b
  · by_cases hb : b < 0
    · by_cases ha0 : a = 0
      · subst ha0; simp
      · have := Int.mul_neg_of_pos_of_neg (show 0 < a by omega) hb
        rw [if_neg ha, if_pos hb, if_pos this]; exact Int.mul_neg a b
    · have := Int.mul_nonneg (show 0 ≤ a by omega) (show 0 ≤ b by omega)
      rw [if_neg ha, if_neg hb, if_neg (by omega)]
/-- The product is negative just where one factor is. -/
theorem mul_sign (a b : Int) (h : a * b ≠ 0) : decide (a * b < 0) = (decide (a < 0) != decide (b < 0)) := by
  have ha0 : a ≠ 0 := by rintro rfl; simp at h
  have hb0 : b ≠ 0 := by rintro rfl; simp at h
  by_cases ha : a < 0
  · by_cases hb : b < 0
    · have := Int.mul_pos_of_neg_of_neg ha hb
      rw [decide_eq_true ha, decide_eq_true hb, decide_eq_false (by omega)]; rfl
    · have := Int.mul_neg_of_neg_of_pos ha (show 0 < b by omega)
      rw [decide_eq_true ha, decide_eq_false hb, decide_eq_true this]; rfl
  · by_cases hb : b < 0
    · have := Int.mul_neg_of_pos_of_neg (show 0 < a by omega) hb
      rw [decide_eq_false ha, decide_eq_true hb, decide_eq_true this]; rfl
    · have := Int.mul_nonneg (show 0 ≤ a by omega) (show 0 ≤ b by omega)
      rw [decide_eq_false ha, decide_eq_false hb, decide_eq_false (by omega)]; rfl
theorem ab_word {n : Int} (h : I64 n) : U64 (ab n) := by have := ab_bd h; unfold U64; omega
theorem mul_bd {a b : Int} (ha : I64 a) (hb : I64 b) : I128 (a * b) ∧ ab (a * b) ≤ 85070591730234615865843651857942052864 := by
  have h1 := ab_bd ha
  have h2 := ab_bd hb
  have h3 : ab a * ab b ≤ 9223372036854775808 * 9223372036854775808 := Int.mul_le_mul h1.2 h2.2 h2.1 (by omega)
  rw [ab_mul] at h3
  refine ⟨?_, by omega⟩
  unfold I128
  unfold ab at h3
  split at h3 <;> omega

theorem mul_same (a b : Int) (w : World) (ha : I64 a) (hb : I64 b) (hs : 0 ≤ a * b) (ht : decide (a < 0) = decide (b < 0)) :
    Calls Tryd.prog 42 #[.int .i64 a, .int .i64 b] w fun e w' => e = .returned (.agg #[.int .i64 (hi (a * b)), .int .u64 (lo (a * b))]) ∧ Below w.heap.size w w' := by
  have e1 : ab a * ab b = a * b := by rw [ab_mul, ab_pos hs]
  have H1 := Lib.hid e1
  have hbd := hi_bd (mul_bd ha hb).1
  have hh : 0 ≤ hi (a * b) := by have := hi_neg (a * b); omega
  unfold I64 at hbd
  obtain ⟨k0, k1⟩ := hbd
  clear e1 hs
  by_cases hna : a < 0
  · have hnb : b < 0 := by rw [decide_eq_true hna] at ht; exact of_decide_eq_true ht.symm
    clear ht
    go_enter Tryd.func42, Tryd.ntmps42
    go_wp2_with fail
    refine (abs_any a _ ha).mono ?_
    rintro e w' ⟨rfl, rfl⟩
    go_wp2_with fail
    refine (abs_any b _ hb).mono ?_
    rintro e w' ⟨rfl, rfl⟩
    go_wp2_with fail
    refine (mul64 _ _ (ab_word ha) (ab_word hb) _).mono ?_
    rw [H1.out]
    rintro e w' ⟨rfl, rfl⟩
    go_wp2_with fail
    simp [bodyPost, results, Tryd.results42, go_sem]
    exact (by repeat (first | assumption | exact Below.refl _ _ | refine Below.setCell ?_ (by first | exact Nat.le_refl _ | (simp; done) | (simp; omega) | omega) _ | refine Below.alloc ?_ (by first | exact Nat.le_refl _ | (simp; done) | (simp; omega) | omega) _ | refine Below.drew ?_ | exact Nat.le_refl _))
  · have hnb : ¬ b < 0 := by rw [decide_eq_false hna] at ht; exact of_decide_eq_false ht.symm
    clear ht
    have hna' : decide (a < 0) = false := decide_eq_false hna
    have hnb' : decide (b < 0) = false := decide_eq_false hnb
    clear hna hnb
    go_enter Tryd.func42, Tryd.ntmps42
    go_wp2_with fail
    refine (abs_any a _ ha).mono ?_
    rintro e w' ⟨rfl, rfl⟩
    go_wp2_with fail
    refine (abs_any b _ hb).mono ?_
    rintro e w' ⟨rfl, rfl⟩
    go_wp2_with fail
    refine (mul64 _ _ (ab_word ha) (ab_word hb) _).mono ?_
    rw [H1.out]
    rintro e w' ⟨rfl, rfl⟩
    go_wp2_with fail
    simp [bodyPost, results, Tryd.results42, go_sem]
    exact (by repeat (first | assumption | exact Below.refl _ _ | refine Below.setCell ?_ (by first | exact Nat.le_refl _ | (simp; done) | (simp; omega) | omega) _ | refine Below.alloc ?_ (by first | exact Nat.le_refl _ | (simp; done) | (simp; omega) | omega) _ | refine Below.drew ?_ | exact Nat.le_refl _))

theorem mul_diff (a b : Int) (w : World) (ha : I64 a) (hb : I64 b) (hs : a * b ≤ 0) (ht : decide (a < 0) ≠ decide (b < 0)) :
    Calls Tryd.prog 42 #[.int .i64 a, .int .i64 b] w fun e w' => e = .returned (.agg #[.int .i64 (hi (a * b)), .int .u64 (lo (a * b))]) ∧ Below w.heap.size w w' := by
  have e1 : ab a * ab b = -(a * b) := by rw [ab_mul]; unfold ab; split <;> omega
  have H1 := Lib.hid e1
  have hm := (mul_bd ha hb).2
  have hm2 : ab (a * b) = -(a * b) := by rw [← ab_mul, e1]
  rw [hm2] at hm
  obtain ⟨m, hmm⟩ : ∃ m, m = -(a * b) := ⟨_, rfl⟩
  have hmn : nw m = a * b := by unfold nw; rw [if_neg (by omega)]; omega
  rw [← hmm] at hm
  have hmi : I128 m := by unfold I128; omega
  rw [← hmm] at H1
  have hbd := hi_bd hmi
  have hh : 0 ≤ hi m := by have := hi_neg m; omega
  unfold I64 at hbd
  obtain ⟨k0, k1⟩ := hbd
  have HN := Lib.hid hmn
  clear e1 hs hm hm2 hmm hmn
  by_cases hna : a < 0
  · have hnb : decide (b < 0) = false := by rw [decide_eq_true hna] at ht; revert ht; cases decide (b < 0) <;> simp
    clear ht
    go_enter Tryd.func42, Tryd.ntmps42
    go_wp2_with fail
    refine (abs_any a _ ha).mono ?_
    rintro e w' ⟨rfl, rfl⟩
    go_wp2_with fail
    refine (abs_any b _ hb).mono ?_
    rintro e w' ⟨rfl, rfl⟩
    go_wp2_with fail
    refine (mul64 _ _ (ab_word ha) (ab_word hb) _).mono ?_
    rw [H1.out]
    rintro e w' ⟨rfl, rfl⟩
    go_wp2_with fail
    refine (negate_any m _ hmi).mono ?_
    rw [HN.out]
    rintro e w1 ⟨rfl, hb1⟩
    obtain ⟨cc, cd, cf, cg⟩ := later2 hb1 (g := w.heap.size) (u := .int .i64 0) (v := .int .u64 0) (by simp [go_sem]) (by simp [go_sem]) (by simp [go_sem]) (by simp [go_sem])
    have cz : w.heap.size < w1.heap.size := World.block_lt_of_cell? _ _ cc
    obtain ⟨dc, dd, df, dg⟩ := later2 hb1 (g := w.heap.size + 1) (u := .int .i64 (hi m)) (v := .int .u64 (lo m)) (by simp [go_sem]) (by simp [go_sem]) (by simp [go_sem]) (by simp [go_sem])
    have dz : w.heap.size + 1 < w1.heap.size := World.block_lt_of_cell? _ _ dc
    have b1 : Below w.heap.size w w1 := bl2 hb1 (by repeat (first | assumption | exact Below.refl _ _ | refine Below.setCell ?_ (by first | exact Nat.le_refl _ | (simp; done) | (simp; omega) | omega) _ | refine Below.alloc ?_ (by first | exact Nat.le_refl _ | (simp; done) | (simp; omega) | omega) _ | refine Below.drew ?_ | exact Nat.le_refl _))
    have z1 := hb1.size
    try simp at z1
    clear hb1
    go_wp2_with fail
    simp [bodyPost, results, Tryd.results42, go_sem, cc, cd]
    exact (by repeat (first | assumption | exact Below.refl _ _ | refine Below.setCell ?_ (by first | exact Nat.le_refl _ | (simp; done) | (simp; omega) | omega) _ | refine Below.alloc ?_ (by first | exact Nat.le_refl _ | (simp; done) | (simp; omega) | omega) _ | refine Below.drew ?_ | exact Nat.le_refl _))
  · have hnb : b < 0 := by rw [decide_eq_false hna] at ht; exact of_decide_eq_true (by revert ht; cases decide (b < 0) <;> simp)
    have hna' : decide (a < 0) = false := decide_eq_false hna
    clear ht hna
    go_enter Tryd.func42, Tryd.ntmps42
    go_wp2_with fail
    refine (abs_any a _ ha).mono ?_
    rintro e w' ⟨rfl, rfl⟩
    go_wp2_with fail
    refine (abs_any b _ hb).mono ?_
    rintro e w' ⟨rfl, rfl⟩
    go_wp2_with fail
    refine (mul64 _ _ (ab_word ha) (ab_word hb) _).mono ?_
    rw [H1.out]
    rintro e w' ⟨rfl, rfl⟩
    go_wp2_with fail
    refine (negate_any m _ hmi).mono ?_
    rw [HN.out]
    rintro e w1 ⟨rfl, hb1⟩
    obtain ⟨cc, cd, cf, cg⟩ := later2 hb1 (g := w.heap.size) (u := .int .i64 0) (v := .int .u64 0) (by simp [go_sem]) (by simp [go_sem]) (by simp [go_sem]) (by simp [go_sem])
    have cz : w.heap.size < w1.heap.size := World.block_lt_of_cell? _ _ cc
    obtain ⟨dc, dd, df, dg⟩ := later2 hb1 (g := w.heap.size + 1) (u := .int .i64 (hi m)) (v := .int .u64 (lo m)) (by simp [go_sem]) (by simp [go_sem]) (by simp [go_sem]) (by simp [go_sem])
    have dz : w.heap.size + 1 < w1.heap.size := World.block_lt_of_cell? _ _ dc
    have b1 : Below w.heap.size w w1 := bl2 hb1 (by repeat (first | assumption | exact Below.refl _ _ | refine Below.setCell ?_ (by first | exact Nat.le_refl _ | (simp; done) | (simp; omega) | omega) _ | refine Below.alloc ?_ (by first | exact Nat.le_refl _ | (simp; done) | (simp; omega) | omega) _ | refine Below.drew ?_ | exact Nat.le_refl _))
    have z1 := hb1.size
    try simp at z1
    clear hb1
    go_wp2_with fail
    simp [bodyPost, results, Tryd.results42, go_sem, cc, cd]
    exact (by repeat (first | assumption | exact Below.refl _ _ | refine Below.setCell ?_ (by first | exact Nat.le_refl _ | (simp; done) | (simp; omega) | omega) _ | refine Below.alloc ?_ (by first | exact Nat.le_refl _ | (simp; done) | (simp; omega) | omega) _ | refine Below.drew ?_ | exact Nat.le_refl _))

/-- Mul returns the product. -/
theorem mul_any (a b : Int) (w : World) (ha : I64 a) (hb : I64 b) :
    Calls Tryd.prog 42 #[.int .i64 a, .int .i64 b] w fun e w' => e = .returned (.agg #[.int .i64 (hi (a * b)), .int .u64 (lo (a * b))]) ∧ Below w.heap.size w w' := by
  by_cases ht : decide (a < 0) = decide (b < 0)
  · refine mul_same a b w ha hb ?_ ht
    by_cases h0 : a * b = 0
    · omega
    · have := mul_sign a b h0
      rw [ht] at this; simp at this; exact this
  · refine mul_diff a b w ha hb ?_ ht
    by_cases h0 : a * b = 0
    · omega
    · have := mul_sign a b h0
      have h2 : decide (a * b < 0) = true := by
        rw [this]; revert ht; cases decide (a < 0) <;> cases decide (b < 0) <;> simp
      have := of_decide_eq_true h2; omega
end Go.Proofs.YtieklkpjlbpnbaaDoor.Wt
