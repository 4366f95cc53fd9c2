/-
  The contract of the reference's Add.
-/
import Derived.Test.YtieklkpjlbpnbaaDoorR7
namespace Go.Proofs.YtieklkpjlbpnbaaDoor.Wt
open Go.RowKit
open Go.Proofs.YtieklkpjlbpnbaaDoor
open Go.Proofs.YtieklkpjlbpnbaaDoor.Wm

theorem sgn_of (x : Int) : Sgn (decide (x < 0)) x := by
  by_cases h : x < 0
  · exact .inl ⟨decide_eq_true h, by omega⟩
  · exact .inr ⟨decide_eq_false h, by omega⟩
theorem radd_any (x y : Int) (w : World) (hx : I128 x) (hy : I128 y) :
    Calls Tryd.prog 18 #[.agg #[.int .i64 (hi x), .int .u64 (lo x)], .agg #[.int .i64 (hi y), .int .u64 (lo y)]] w (SumPost w (x + y)) := by
  have hS := Lib.hid (fun W => rsum_any2 (decide (x < 0)) (decide (y < 0)) x y W hx (ab_u128 hy) (sgn_of x) (sgn_of y))
  go_enter Tryd.func18, Tryd.ntmps18
  go_wp2_with fail
  refine (rsplit_any x _ hx).mono ?_
  rintro e w1 ⟨rfl, hb1⟩
  generalize decide (x < 0) = sx at *
  obtain ⟨y1c, y1d, y1f, y1g⟩ := later2 hb1 (g := w.heap.size + 1) (u := .int .i64 (hi y)) (v := .int .u64 (lo y)) (by simp [go_sem]) (by simp [go_sem]) (by simp [go_sem]) (by simp [go_sem])
  have y1z : w.heap.size + 1 < w1.heap.size := World.block_lt_of_cell? _ _ y1c
  obtain ⟨r1c, r1d, r1f, r1g⟩ := later2 hb1 (g := w.heap.size + 2) (u := .int .i64 0) (v := .int .u64 0) (by simp [go_sem]) (by simp [go_sem]) (by simp [go_sem]) (by simp [go_sem])
  have r1z : w.heap.size + 2 < w1.heap.size := World.block_lt_of_cell? _ _ r1c
  have b1 : Below w.heap.size w w1 := bl2 hb1 (by repeat (first | assumption | exact Below.refl _ _ | refine Below.setCell ?_ (by first | exact Nat.le_refl _ | (simp; done) | (simp; omega) | omega) _ | refine Below.alloc ?_ (by first | exact Nat.le_refl _ | (simp; done) | (simp; omega) | omega) _ | refine Below.drew ?_ | exact Nat.le_refl _))
  have z1 := hb1.size
  try simp at z1
  clear hb1
  go_wp2_with fail
  refine (rsplit_any y _ hy).mono ?_
  rintro e w2 ⟨rfl, hb2⟩
  generalize decide (y < 0) = sy at *
  obtain ⟨r2c, r2d, r2f, r2g⟩ := later2 hb2 (g := w.heap.size + 2) (u := .int .i64 0) (v := .int .u64 0) (by simp [go_sem, *]) (by simp [go_sem, *]) (by simp [go_sem, *]) (by simp [go_sem, *])
  have r2z : w.heap.size + 2 < w2.heap.size := World.block_lt_of_cell? _ _ r2c
  obtain ⟨x2c, x2d, x2f, x2g⟩ := later2 hb2 (g := w1.heap.size) (u := .int .u64 (hi (ab x))) (v := .int .u64 (lo (ab x))) (by simp [go_sem, *]) (by simp [go_sem, *]) (by simp [go_sem, *]) (by simp [go_sem, *])
  have x2z : w1.heap.size < w2.heap.size := World.block_lt_of_cell? _ _ x2c
  have b2 : Below w.heap.size w w2 := bl2 hb2 (by repeat (first | assumption | exact Below.refl _ _ | refine Below.setCell ?_ (by first | exact Nat.le_refl _ | (simp; done) | (simp; omega) | omega) _ | refine Below.alloc ?_ (by first | exact Nat.le_refl _ | (simp; done) | (simp; omega) | omega) _ | refine Below.drew ?_ | exact Nat.le_refl _))
  have z2 := hb2.size
  try simp at z2
  clear hb2
  clear y1c y1d y1f y1g r1c r1d r1f r1g
  go_wp2_with fail
  refine (hS.out _).mono ?_
  rintro e w3 ⟨rfl, hb3⟩
  obtain ⟨r3c, r3d, r3f, r3g⟩ := later2 hb3 (g := w.heap.size + 2) (u := .int .i64 0) (v := .int .u64 0) (by simp [go_sem, *]) (by simp [go_sem, *]) (by simp [go_sem, *]) (by simp [go_sem, *])
  have r3z : w.heap.size + 2 < w3.heap.size := World.block_lt_of_cell? _ _ r3c
  have b3 : Below w.heap.size w w3 := bl2 hb3 (by repeat (first | assumption | exact Below.refl _ _ | refine Below.setCell ?_ (by first | exact Nat.le_refl _ | (simp; done) | (simp; omega) | omega) _ | refine Below.alloc ?_ (by first | exact Nat.le_refl _ | (simp; done) | (simp; omega) | omega) _ | refine Below.drew ?_ | exact Nat.le_refl _))
  clear hb3 r2c r2d r2f r2g x2c x2d x2f x2g
  go_wp2_with fail
  simp [bodyPost, results, Tryd.results18, go_sem, r3c, r3d]
  exact ⟨rfl, (by repeat (first | assumption | exact Below.refl _ _ | refine Below.setCell ?_ (by first | exact Nat.le_refl _ | (simp; done) | (simp; omega) | omega) _ | refine Below.alloc ?_ (by first | exact Nat.le_refl _ | (simp; done) | (simp; omega) | omega) _ | refine Below.drew ?_ | exact Nat.le_refl _))⟩

theorem rsum_neg (x y : Int) (W : World) (hx : I128 x) (hy : I128 y) :
    Calls Tryd.prog 44 #[.bool (decide (x < 0)), .agg #[.int .u64 (hi (ab x)), .int .u64 (lo (ab x))], .bool (!decide (y < 0)), .agg #[.int .u64 (hi (ab y)), .int .u64 (lo (ab y))]] W (SumPost W (x - y)) := by
  have e : ab (-y) = ab y := by unfold ab; split <;> split <;> omega
  have h := rsum_any2 (decide (x < 0)) (!decide (y < 0)) x (-y) W hx (by rw [e]; exact ab_u128 hy) (sgn_of x) (by
    by_cases h : y < 0
    · exact .inr ⟨by rw [decide_eq_true h]; rfl, by omega⟩
    · exact .inl ⟨by rw [decide_eq_false h]; rfl, by omega⟩)
  rw [e, ← Int.sub_eq_add_neg] at h
  exact h
theorem rsub_any (x y : Int) (w : World) (hx : I128 x) (hy : I128 y) :
    Calls Tryd.prog 28 #[.agg #[.int .i64 (hi x), .int .u64 (lo x)], .agg #[.int .i64 (hi y), .int .u64 (lo y)]] w (SumPost w (x - y)) := by
  have hS := Lib.hid (fun W => rsum_neg x y W hx hy)
  go_enter Tryd.func28, Tryd.ntmps28
  go_wp2_with fail
  refine (rsplit_any x _ hx).mono ?_
  rintro e w1 ⟨rfl, hb1⟩
  generalize decide (x < 0) = sx at *
  obtain ⟨y1c, y1d, y1f, y1g⟩ := later2 hb1 (g := w.heap.size + 1) (u := .int .i64 (hi y)) (v := .int .u64 (lo y)) (by simp [go_sem]) (by simp [go_sem]) (by simp [go_sem]) (by simp [go_sem])
  have y1z : w.heap.size + 1 < w1.heap.size := World.block_lt_of_cell? _ _ y1c
  obtain ⟨r1c, r1d, r1f, r1g⟩ := later2 hb1 (g := w.heap.size + 2) (u := .int .i64 0) (v := .int .u64 0) (by simp [go_sem]) (by simp [go_sem]) (by simp [go_sem]) (by simp [go_sem])
  have r1z : w.heap.size + 2 < w1.heap.size := World.block_lt_of_cell? _ _ r1c
  have b1 : Below w.heap.size w w1 := bl2 hb1 (by repeat (first | assumption | exact Below.refl _ _ | refine Below.setCell ?_ (by first | exact Nat.le_refl _ | (simp; done) | (simp; omega) | omega) _ | refine Below.alloc ?_ (by first | exact Nat.le_refl _ | (simp; done) | (simp; omega) | omega) _ | refine Below.drew ?_ | exact Nat.le_refl _))
  have z1 := hb1.size
  try simp at z1
  clear hb1
  go_wp2_with fail
  refine (rsplit_any y _ hy).mono ?_
  rintro e w2 ⟨rfl, hb2⟩
  generalize decide (y < 0) = sy at *
  obtain ⟨r2c, r2d, r2f, r2g⟩ := later2 hb2 (g := w.heap.size + 2) (u := .int .i64 0) (v := .int .u64 0) (by simp [go_sem, *]) (by simp [go_sem, *]) (by simp [go_sem, *]) (by simp [go_sem, *])
  have r2z : w.heap.size + 2 < w2.heap.size := World.block_lt_of_cell? _ _ r2c
  obtain ⟨x2c, x2d, x2f, x2g⟩ := later2 hb2 (g := w1.heap.size) (u := .int .u64 (hi (ab x))) (v := .int .u64 (lo (ab x))) (by simp [go_sem, *]) (by simp [go_sem, *]) (by simp [go_sem, *]) (by simp [go_sem, *])
  have x2z : w1.heap.size < w2.heap.size := World.block_lt_of_cell? _ _ x2c
  have b2 : Below w.heap.size w w2 := bl2 hb2 (by repeat (first | assumption | exact Below.refl _ _ | refine Below.setCell ?_ (by first | exact Nat.le_refl _ | (simp; done) | (simp; omega) | omega) _ | refine Below.alloc ?_ (by first | exact Nat.le_refl _ | (simp; done) | (simp; omega) | omega) _ | refine Below.drew ?_ | exact Nat.le_refl _))
  have z2 := hb2.size
  try simp at z2
  clear hb2
  clear y1c y1d y1f y1g r1c r1d r1f r1g
  go_wp2_with fail
  refine (hS.out _).mono ?_
  rintro e w3 ⟨rfl, hb3⟩
  obtain ⟨r3c, r3d, r3f, r3g⟩ := later2 hb3 (g := w.heap.size + 2) (u := .int .i64 0) (v := .int .u64 0) (by simp [go_sem, *]) (by simp [go_sem, *]) (by simp [go_sem, *]) (by simp [go_sem, *])
  have r3z : w.heap.size + 2 < w3.heap.size := World.block_lt_of_cell? _ _ r3c
  have b3 : Below w.heap.size w w3 := bl2 hb3 (by repeat (first | assumption | exact Below.refl _ _ | refine Below.setCell ?_ (by first | exact Nat.le_refl _ | (simp; done) | (simp; omega) | omega) _ | refine Below.alloc ?_ (by first | exact Nat.le_refl _ | (simp; done) | (simp; omega) | omega) _ | refine Below.drew ?_ | exact Nat.le_refl _))
  clear hb3 r2c r2d r2f r2g x2c x2d x2f x2g
  go_wp2_with fail
  simp [bodyPost, results, Tryd.results28, go_sem, r3c, r3d]
  exact ⟨rfl, (by repeat (first | assumption | exact Below.refl _ _ | refine Below.setCell ?_ (by first | exact Nat.le_refl _ | (simp; done) | (simp; omega) | omega) _ | refine Below.alloc ?_ (by first | exact Nat.le_refl _ | (simp; done) | (simp; omega) | omega) _ | refine Below.drew ?_ | exact Nat.le_refl _))⟩

/-- Where the result is one of two words. -/
theorem radd_in (x y s : Int) (w : World) (hx : I128 x) (hy : I128 y) (hs : x + y = s) (h : I128 s) :
    Calls Tryd.prog 18 #[.agg #[.int .i64 (hi x), .int .u64 (lo x)], .agg #[.int .i64 (hi y), .int .u64 (lo y)]] w fun e w' => e = .returned (.tuple #[.agg #[.int .i64 (hi s), .int .u64 (lo s)], .int .i64 0]) ∧ Below w.heap.size w w' :=
  (radd_any x y w hx hy).mono fun _ _ h' => by
    rw [hs] at h'
    unfold SumPost at h'
    rw [fit_in h, ovf_in h] at h'
    exact h'
end Go.Proofs.YtieklkpjlbpnbaaDoor.Wt
