/-
  Parts of the proof: Wb, Ra, Rga, Rb, Rc.
-/
import Derived.Test.YtlolflephnbbcaaGreatDoorQ01
import Derived.Test.YtlolflephnbbcaaGreatDoorQ02
import Derived.StillTailTactics
import Derived.Deep.RegionHeld3
import Derived.BigQuiet
import Derived.Laws.BitsAllLaws
import Derived.Deep.RegionWith
namespace Go.Proofs.YtlolflephnbbcaaGreatDoor.Wt
open Go.RowKit
open Go.Proofs.YtlolflephnbbcaaGreatDoor.Wm

theorem absneg_hi {x : Int} (hx : I128 x) (h : x < 0) : IntKind.u64.wrap (hi (nw x)) = hi (ab x) := by
 rw [ab_neg h, IntKind.wrap_u64]; unfold I128 at hx; unfold nw hi; split <;> omega
theorem absneg_lo {x : Int} (h : x < 0) : lo (nw x) = lo (ab x) := by
 rw [ab_neg h]; unfold nw lo; split <;> omega
theorem abspos_hi {x : Int} (hx : I128 x) (h : 0 ≤ x) : IntKind.u64.wrap (hi x) = hi (ab x) := by
 rw [ab_pos h, IntKind.wrap_u64]; unfold I128 at hx; unfold hi; omega

theorem later2 {W w1 : World} (hb : Below W.heap.size W w1) {g : Nat} {u v : Value} (h0 : W.cell? ⟨g, 0, none⟩ = some u) (h1 : W.cell? ⟨g, 1, none⟩ = some v) (f0 : W.frozen? ⟨g, 0, none⟩ = false) (f1 : W.frozen? ⟨g, 1, none⟩ = false) :
  w1.cell? ⟨g, 0, none⟩ = some u ∧ w1.cell? ⟨g, 1, none⟩ = some v ∧ w1.frozen? ⟨g, 0, none⟩ = false ∧ w1.frozen? ⟨g, 1, none⟩ = false :=
 ⟨cell_later hb h0, cell_later hb h1, (hb.frozen (World.block_lt_of_cell? _ _ h0)).trans f0, (hb.frozen (World.block_lt_of_cell? _ _ h1)).trans f1⟩

theorem bl2 {w W w1 : World} (hb : Below W.heap.size W w1) (h : Below w.heap.size w W) : Below w.heap.size w w1 := h.trans (hb.mono h.size)

theorem absolute_any (x : Int) (w : World) (hx : I128 x) : Calls Tryz.prog 162 #[.agg #[.int .i64 (hi x), .int .u64 (lo x)]] w fun e w' => e = .returned (.agg #[.int .u64 (hi (ab x)), .int .u64 (lo (ab x))]) ∧ Below w.heap.size w w' := by
 by_cases h : x < 0
 ·have H1 := Lib.hid (absneg_hi hx h)
  have H2 := Lib.hid (absneg_lo h)
  have hneg : hi x < 0 := (hi_neg x).2 h
  clear h
  go_enter Tryz.func162, Tryz.ntmps162
  go_wp2_with fail
  refine (negate_any x _ hx).mono ?_
  rintro e w1 ⟨rfl, hb1⟩
  obtain ⟨cc, cd, cf, cg⟩ := later2 hb1 (g := w.heap.size) (u := .int .i64 (hi x)) (v := .int .u64 (lo x)) (by simp [go_sem]) (by simp [go_sem]) (by simp [go_sem]) (by simp [go_sem])
  have cz : w.heap.size < w1.heap.size := World.block_lt_of_cell? _ _ cc
  obtain ⟨dc, dd, df, dg⟩ := later2 hb1 (g := w.heap.size + 1) (u := .int .u64 0) (v := .int .u64 0) (by simp [go_sem]) (by simp [go_sem]) (by simp [go_sem]) (by simp [go_sem])
  have dz : w.heap.size + 1 < w1.heap.size := World.block_lt_of_cell? _ _ dc
  have b1 : Below w.heap.size w w1 := bl2 hb1 Bk.be
  have z1 := hb1.size
  try simp at z1
  clear hb1
  go_wp2_with fail
  simp [bodyPost, results, Tryz.results162, go_sem, dc, dd]
  exact ⟨⟨H1.out, H2.out⟩, Bk.be⟩
 ·have hp : 0 ≤ x := by omega
  have H1 := Lib.hid (abspos_hi hx hp)
  have H2 := Lib.hid (show lo x = lo (ab x) by rw [ab_pos hp])
  have hneg : 0 ≤ hi x := by have := hi_neg x; omega
  clear h
  go_enter Tryz.func162, Tryz.ntmps162
  go_wp2_with fail
  simp [bodyPost, results, Tryz.results162, go_sem]
  exact ⟨⟨H1.out, H2.out⟩, Bk.be⟩

theorem times_yes (m n r : Int) (w : World) (hm : U128 m) (hn : U64 n) (hr : U64 r) (h : m * n + r ≤ 340282366920938463463374607431768211455) :
  Calls Tryz.prog 164 #[.agg #[.int .u64 (hi m), .int .u64 (lo m)], .int .u64 n, .int .u64 r] w fun e w' => e = .returned (.tuple #[.agg #[.int .u64 (hi (m * n + r)), .int .u64 (lo (m * n + r))], .bool true]) ∧ Below w.heap.size w w' := by
 obtain ⟨q1, q2, q3, q4⟩ := times_ok hm hn hr h
 obtain ⟨s0, s1⟩ := tsum_bd (m := m) hn hr
 have H1 := Lib.hid q1
 have H2 := Lib.hid q2
 have H3 := Lib.hid q3
 have H4 := Lib.hid q4
 have t1 : (hi (hi m * n) == 0) = true := by rw [q1]; rfl
 have t2 : (hi (lo (hi m * n) + (hi (lo m * n) + hi (lo (lo m * n) + r))) == 0) = true := by unfold tsum at q2; rw [q2]; rfl
 unfold tsum at s0 s1
 have l0 := (lo_bd (lo m * n)).1
 have l1 := (lo_bd (hi m * n)).1
 clear q1 q2 q3 q4 h
 have a1 := fun w => add64_0 (lo (lo m * n)) r l0 hr.1 w
 have a2 := fun w => add64_0 (lo (hi m * n)) (hi (lo m * n) + hi (lo (lo m * n) + r)) l1 s0 w
 go_enter Tryz.func164, Tryz.ntmps164
 go_wp2_with fail
 refine (mul64 _ _ (lo_bd m) hn _).mono ?_
 rintro e w' ⟨rfl, rfl⟩
 go_wp2_with fail
 refine (mul64 _ _ (hi_bdu hm) hn _).mono ?_
 rintro e w' ⟨rfl, rfl⟩
 go_wp2_with fail
 simp [bodyPost, results, Tryz.results164, go_sem]
 exact ⟨⟨H3.out, H4.out⟩, Bk.be⟩
def NoFit (w : World) (e : Ending) (w' : World) : Prop := ∃ a b : Int, e = .returned (.tuple #[.agg #[.int .u64 a, .int .u64 b], .bool false]) ∧ U64 a ∧ U64 b ∧ Below w.heap.size w w'
end Go.Proofs.YtlolflephnbbcaaGreatDoor.Wt

namespace Go.Proofs.YtlolflephnbbcaaGreatDoor.Wt
open Go.RowKit
open Go.Proofs.YtlolflephnbbcaaGreatDoor.Wm

def low : Int := -170141183460469231731687303715884105728
theorem sg_lt {m : Int} (h0 : 0 ≤ m) (h : m ≤ 170141183460469231731687303715884105727) : hi m < 9223372036854775808 ∧ 0 ≤ hi m := by unfold hi; omega
theorem i128_of {m : Int} (h0 : 0 ≤ m) (h : m ≤ 170141183460469231731687303715884105727) : I128 m := by unfold I128; omega
theorem nw_of {m : Int} (h0 : 0 ≤ m) : nw m = -m := by unfold nw; rw [if_neg (by omega)]

theorem signed_pos (m : Int) (w : World) (h0 : 0 ≤ m) (h : m ≤ 170141183460469231731687303715884105727) :
  Calls Tryz.prog 165 #[.agg #[.int .u64 (hi m), .int .u64 (lo m)], .bool false] w fun e w' => e = .returned (.tuple #[.agg #[.int .i64 (hi m), .int .u64 (lo m)], .int .i64 0]) ∧ Below w.heap.size w w' := by
 obtain ⟨k1, k0⟩ := sg_lt h0 h
 clear h h0
 go_enter Tryz.func165, Tryz.ntmps165
 go_wp2_with fail
 simp [bodyPost, results, Tryz.results165, go_sem]
 exact Bk.be

theorem signed_neg (m : Int) (w : World) (h0 : 0 ≤ m) (h : m ≤ 170141183460469231731687303715884105727) :
  Calls Tryz.prog 165 #[.agg #[.int .u64 (hi m), .int .u64 (lo m)], .bool true] w fun e w' => e = .returned (.tuple #[.agg #[.int .i64 (hi (-m)), .int .u64 (lo (-m))], .int .i64 0]) ∧ Below w.heap.size w w' := by
 obtain ⟨k1, k0⟩ := sg_lt h0 h
 have hi128 := Lib.hid (i128_of h0 h)
 have hnw := Lib.hid (nw_of h0)
 clear h h0
 go_enter Tryz.func165, Tryz.ntmps165
 go_wp2_with fail
 refine (negate_any m _ hi128.out).mono ?_
 rw [hnw.out]
 rintro e w1 ⟨rfl, hb1⟩
 obtain ⟨cc, cd, cf, cg⟩ := later2 hb1 (g := w.heap.size + 1) (u := .int .i64 0) (v := .int .u64 0) (by simp [go_sem]) (by simp [go_sem]) (by simp [go_sem]) (by simp [go_sem])
 have cz : w.heap.size + 1 < w1.heap.size := World.block_lt_of_cell? _ _ cc
 obtain ⟨dc, dd, df, dg⟩ := later2 hb1 (g := w.heap.size + 2) (u := .int .i64 (hi m)) (v := .int .u64 (lo m)) (by simp [go_sem]) (by simp [go_sem]) (by simp [go_sem]) (by simp [go_sem])
 have dz : w.heap.size + 2 < w1.heap.size := World.block_lt_of_cell? _ _ dc
 have b1 : Below w.heap.size w w1 := bl2 hb1 Bk.be
 have z1 := hb1.size
 try simp at z1
 clear hb1
 go_wp2_with fail
 simp [bodyPost, results, Tryz.results165, go_sem, cc, cd]
 exact Bk.be

theorem negate_low (w : World) : Calls Tryz.prog 127 #[.agg #[.int .i64 (-9223372036854775808), .int .u64 0]] w fun e w' => e = .returned (.agg #[.int .i64 (-9223372036854775808), .int .u64 0]) ∧ Below w.heap.size w w' := by
 have h := negate_any low w (by unfold I128 low; omega)
 rw [show nw low = low by decide, show hi low = -9223372036854775808 by decide, show lo low = 0 by decide] at h
 exact h
theorem w63 : wrap64 9223372036854775808 = -9223372036854775808 := by unfold wrap64; rfl
theorem signed_low (w : World) :
  Calls Tryz.prog 165 #[.agg #[.int .u64 9223372036854775808, .int .u64 0], .bool true] w fun e w' => e = .returned (.tuple #[.agg #[.int .i64 (-9223372036854775808), .int .u64 0], .int .i64 0]) ∧ Below w.heap.size w w' := by
 go_enter Tryz.func165, Tryz.ntmps165
 go_wp2_with fail
 rw [w63]
 refine (negate_low _).mono ?_
 rintro e w1 ⟨rfl, hb1⟩
 obtain ⟨cc, cd, cf, cg⟩ := later2 hb1 (g := w.heap.size + 1) (u := .int .i64 0) (v := .int .u64 0) (by simp [go_sem]) (by simp [go_sem]) (by simp [go_sem]) (by simp [go_sem])
 have cz : w.heap.size + 1 < w1.heap.size := World.block_lt_of_cell? _ _ cc
 obtain ⟨dc, dd, df, dg⟩ := later2 hb1 (g := w.heap.size + 2) (u := .int .i64 (-9223372036854775808)) (v := .int .u64 0) (by simp [go_sem]) (by simp [go_sem]) (by simp [go_sem]) (by simp [go_sem])
 have dz : w.heap.size + 2 < w1.heap.size := World.block_lt_of_cell? _ _ dc
 have b1 : Below w.heap.size w w1 := bl2 hb1 Bk.be
 have z1 := hb1.size
 try simp at z1
 clear hb1
 go_wp2_with fail
 simp [bodyPost, results, Tryz.results165, go_sem, cc, cd]
 exact Bk.be

theorem signed_no1 (a b : Int) (minus : Bool) (w : World) (h : 9223372036854775808 < a) :
  Calls Tryz.prog 165 #[.agg #[.int .u64 a, .int .u64 b], .bool minus] w fun e w' => e = .returned (.tuple #[.agg #[.int .i64 0, .int .u64 0], .int .i64 6]) ∧ Below w.heap.size w w' := by
 go_enter Tryz.func165, Tryz.ntmps165
 go_wp2_with fail
 simp [bodyPost, results, Tryz.results165, go_sem]
 exact Bk.be
theorem signed_no2 (b : Int) (minus : Bool) (w : World) (h : minus = false ∨ 0 < b) :
  Calls Tryz.prog 165 #[.agg #[.int .u64 9223372036854775808, .int .u64 b], .bool minus] w fun e w' => e = .returned (.tuple #[.agg #[.int .i64 0, .int .u64 0], .int .i64 6]) ∧ Below w.heap.size w w' := by
 cases minus
 ·clear h
  go_enter Tryz.func165, Tryz.ntmps165
  go_wp2_with fail
  simp [bodyPost, results, Tryz.results165, go_sem]
  exact Bk.be
 ·have hb : 0 < b := by simpa using h
  clear h
  go_enter Tryz.func165, Tryz.ntmps165
  go_wp2_with fail
  simp [bodyPost, results, Tryz.results165, go_sem]
  exact Bk.be

theorem hi_2127 : hi 170141183460469231731687303715884105728 = 9223372036854775808 := by decide
theorem lo_2127 : lo 170141183460469231731687303715884105728 = 0 := by decide
theorem hi_n2127 : hi (-170141183460469231731687303715884105728) = -9223372036854775808 := by decide
theorem lo_n2127 : lo (-170141183460469231731687303715884105728) = 0 := by decide

theorem signed_of (x : Int) (w : World) (hx : I128 x) :
  Calls Tryz.prog 165 #[.agg #[.int .u64 (hi (ab x)), .int .u64 (lo (ab x))], .bool (decide (x < 0))] w fun e w' => e = .returned (.tuple #[.agg #[.int .i64 (hi x), .int .u64 (lo x)], .int .i64 0]) ∧ Below w.heap.size w w' := by
 unfold I128 at hx
 by_cases h : x < 0
 ·rw [ab_neg h, decide_eq_true h]
  by_cases g : x = -170141183460469231731687303715884105728
  ·rw [g, Int.neg_neg, hi_2127, lo_2127, hi_n2127, lo_n2127]
   exact signed_low w
  ·have := signed_neg (-x) w (by omega) (by omega)
   rw [Int.neg_neg] at this
   exact this
 ·rw [ab_pos (by omega), decide_eq_false h]
  exact signed_pos x w (by omega) (by omega)
theorem signed_not (x : Int) (w : World) (hx : ¬ I128 x) (hu : U128 (ab x)) :
  Calls Tryz.prog 165 #[.agg #[.int .u64 (hi (ab x)), .int .u64 (lo (ab x))], .bool (decide (x < 0))] w fun e w' => e = .returned (.tuple #[.agg #[.int .i64 0, .int .u64 0], .int .i64 6]) ∧ Below w.heap.size w w' := by
 by_cases g : 9223372036854775808 < hi (ab x)
 ·exact signed_no1 _ _ _ w g
 ·unfold I128 at hx
  unfold U128 at hu
  by_cases h : x < 0
  ·rw [ab_neg h] at g hu ⊢
   have e : hi (-x) = 9223372036854775808 := by unfold hi at g ⊢; omega
   have e2 : 0 < lo (-x) := by unfold lo; unfold hi at g; omega
   rw [e]
   exact signed_no2 _ _ w (.inr e2)
  ·rw [ab_pos (by omega)] at g hu ⊢
   have e : hi x = 9223372036854775808 := by unfold hi at g ⊢; omega
   rw [e, decide_eq_false h]
   exact signed_no2 _ _ w (.inl rfl)
end Go.Proofs.YtlolflephnbbcaaGreatDoor.Wt

namespace Go.Proofs.YtlolflephnbbcaaGreatDoor.Wt
open Go.RowKit
open Go.Proofs.YtlolflephnbbcaaGreatDoor.Wm

theorem ab_mul (a b : Int) : ab a * ab b = ab (a * b) := by
 unfold ab
 by_cases ha : a < 0
 ·by_cases hb : b < 0
  ·have := Int.mul_pos_of_neg_of_neg ha hb
   rw [if_pos ha, if_pos hb, if_neg (by omega)]; exact Int.neg_mul_neg a b
  ·by_cases hb0 : b = 0
   ·subst hb0; simp
   ·have := Int.mul_neg_of_neg_of_pos ha (show 0 < b by omega)
    rw [if_pos ha, if_neg hb, if_pos this]; exact Int.neg_mul a b
 ·by_cases hb : b < 0
  ·by_cases ha0 : a = 0
   ·subst ha0; simp
   ·have := Int.mul_neg_of_pos_of_neg (show 0 < a by omega) hb
    rw [if_neg ha, if_pos hb, if_pos this]; exact Int.mul_neg a b
  ·have := Int.mul_nonneg (show 0 ≤ a by omega) (show 0 ≤ b by omega)
   rw [if_neg ha, if_neg hb, if_neg (by omega)]
theorem mul_sign (a b : Int) (h : a * b ≠ 0) : decide (a * b < 0) = (decide (a < 0) != decide (b < 0)) := by
 have ha0 : a ≠ 0 := by rintro rfl; simp at h
 have hb0 : b ≠ 0 := by rintro rfl; simp at h
 by_cases ha : a < 0
 ·by_cases hb : b < 0
  ·have := Int.mul_pos_of_neg_of_neg ha hb
   rw [decide_eq_true ha, decide_eq_true hb, decide_eq_false (by omega)]; rfl
  ·have := Int.mul_neg_of_neg_of_pos ha (show 0 < b by omega)
   rw [decide_eq_true ha, decide_eq_false hb, decide_eq_true this]; rfl
 ·by_cases hb : b < 0
  ·have := Int.mul_neg_of_pos_of_neg (show 0 < a by omega) hb
   rw [decide_eq_false ha, decide_eq_true hb, decide_eq_true this]; rfl
  ·have := Int.mul_nonneg (show 0 ≤ a by omega) (show 0 ≤ b by omega)
   rw [decide_eq_false ha, decide_eq_false hb, decide_eq_false (by omega)]; rfl
theorem ab_word {n : Int} (h : I64 n) : U64 (ab n) := by have := ab_bd h; unfold U64; omega
theorem mul_bd {a b : Int} (ha : I64 a) (hb : I64 b) : I128 (a * b) ∧ ab (a * b) ≤ 85070591730234615865843651857942052864 := by
 have h1 := ab_bd ha
 have h2 := ab_bd hb
 have h3 : ab a * ab b ≤ 9223372036854775808 * 9223372036854775808 := Int.mul_le_mul h1.2 h2.2 h2.1 (by omega)
 rw [ab_mul] at h3
 refine ⟨?_, by omega⟩
 unfold I128
 unfold ab at h3
 split at h3 <;> omega

theorem mul_same (a b : Int) (w : World) (ha : I64 a) (hb : I64 b) (hs : 0 ≤ a * b) (ht : decide (a < 0) = decide (b < 0)) :
  Calls Tryz.prog 83 #[.int .i64 a, .int .i64 b] w fun e w' => e = .returned (.agg #[.int .i64 (hi (a * b)), .int .u64 (lo (a * b))]) ∧ Below w.heap.size w w' := by
 have e1 : ab a * ab b = a * b := by rw [ab_mul, ab_pos hs]
 have H1 := Lib.hid e1
 have hbd := hi_bd (mul_bd ha hb).1
 have hh : 0 ≤ hi (a * b) := by have := hi_neg (a * b); omega
 unfold I64 at hbd
 obtain ⟨k0, k1⟩ := hbd
 clear e1 hs
 by_cases hna : a < 0
 ·have hnb : b < 0 := by rw [decide_eq_true hna] at ht; exact of_decide_eq_true ht.symm
  clear ht
  go_enter Tryz.func83, Tryz.ntmps83
  go_wp2_with fail
  refine (abs_any a _ ha).mono ?_
  rintro e w' ⟨rfl, rfl⟩
  go_wp2_with fail
  refine (abs_any b _ hb).mono ?_
  rintro e w' ⟨rfl, rfl⟩
  go_wp2_with fail
  refine (mul64 _ _ (ab_word ha) (ab_word hb) _).mono ?_
  rw [H1.out]
  rintro e w' ⟨rfl, rfl⟩
  go_wp2_with fail
  simp [bodyPost, results, Tryz.results83, go_sem]
  exact Bk.be
 ·have hnb : ¬ b < 0 := by rw [decide_eq_false hna] at ht; exact of_decide_eq_false ht.symm
  clear ht
  have hna' : decide (a < 0) = false := decide_eq_false hna
  have hnb' : decide (b < 0) = false := decide_eq_false hnb
  clear hna hnb
  go_enter Tryz.func83, Tryz.ntmps83
  go_wp2_with fail
  refine (abs_any a _ ha).mono ?_
  rintro e w' ⟨rfl, rfl⟩
  go_wp2_with fail
  refine (abs_any b _ hb).mono ?_
  rintro e w' ⟨rfl, rfl⟩
  go_wp2_with fail
  refine (mul64 _ _ (ab_word ha) (ab_word hb) _).mono ?_
  rw [H1.out]
  rintro e w' ⟨rfl, rfl⟩
  go_wp2_with fail
  simp [bodyPost, results, Tryz.results83, go_sem]
  exact Bk.be

theorem mul_diff (a b : Int) (w : World) (ha : I64 a) (hb : I64 b) (hs : a * b ≤ 0) (ht : decide (a < 0) ≠ decide (b < 0)) :
  Calls Tryz.prog 83 #[.int .i64 a, .int .i64 b] w fun e w' => e = .returned (.agg #[.int .i64 (hi (a * b)), .int .u64 (lo (a * b))]) ∧ Below w.heap.size w w' := by
 have e1 : ab a * ab b = -(a * b) := by rw [ab_mul]; unfold ab; split <;> omega
 have H1 := Lib.hid e1
 have hm := (mul_bd ha hb).2
 have hm2 : ab (a * b) = -(a * b) := by rw [← ab_mul, e1]
 rw [hm2] at hm
 obtain ⟨m, hmm⟩ : ∃ m, m = -(a * b) := ⟨_, rfl⟩
 have hmn : nw m = a * b := by unfold nw; rw [if_neg (by omega)]; omega
 rw [← hmm] at hm
 have hmi : I128 m := by unfold I128; omega
 rw [← hmm] at H1
 have hbd := hi_bd hmi
 have hh : 0 ≤ hi m := by have := hi_neg m; omega
 unfold I64 at hbd
 obtain ⟨k0, k1⟩ := hbd
 have HN := Lib.hid hmn
 clear e1 hs hm hm2 hmm hmn
 by_cases hna : a < 0
 ·have hnb : decide (b < 0) = false := by rw [decide_eq_true hna] at ht; revert ht; cases decide (b < 0) <;> simp
  clear ht
  go_enter Tryz.func83, Tryz.ntmps83
  go_wp2_with fail
  refine (abs_any a _ ha).mono ?_
  rintro e w' ⟨rfl, rfl⟩
  go_wp2_with fail
  refine (abs_any b _ hb).mono ?_
  rintro e w' ⟨rfl, rfl⟩
  go_wp2_with fail
  refine (mul64 _ _ (ab_word ha) (ab_word hb) _).mono ?_
  rw [H1.out]
  rintro e w' ⟨rfl, rfl⟩
  go_wp2_with fail
  refine (negate_any m _ hmi).mono ?_
  rw [HN.out]
  rintro e w1 ⟨rfl, hb1⟩
  obtain ⟨cc, cd, cf, cg⟩ := later2 hb1 (g := w.heap.size) (u := .int .i64 0) (v := .int .u64 0) (by simp [go_sem]) (by simp [go_sem]) (by simp [go_sem]) (by simp [go_sem])
  have cz : w.heap.size < w1.heap.size := World.block_lt_of_cell? _ _ cc
  obtain ⟨dc, dd, df, dg⟩ := later2 hb1 (g := w.heap.size + 1) (u := .int .i64 (hi m)) (v := .int .u64 (lo m)) (by simp [go_sem]) (by simp [go_sem]) (by simp [go_sem]) (by simp [go_sem])
  have dz : w.heap.size + 1 < w1.heap.size := World.block_lt_of_cell? _ _ dc
  have b1 : Below w.heap.size w w1 := bl2 hb1 Bk.be
  have z1 := hb1.size
  try simp at z1
  clear hb1
  go_wp2_with fail
  simp [bodyPost, results, Tryz.results83, go_sem, cc, cd]
  exact Bk.be
 ·have hnb : b < 0 := by rw [decide_eq_false hna] at ht; exact of_decide_eq_true (by revert ht; cases decide (b < 0) <;> simp)
  have hna' : decide (a < 0) = false := decide_eq_false hna
  clear ht hna
  go_enter Tryz.func83, Tryz.ntmps83
  go_wp2_with fail
  refine (abs_any a _ ha).mono ?_
  rintro e w' ⟨rfl, rfl⟩
  go_wp2_with fail
  refine (abs_any b _ hb).mono ?_
  rintro e w' ⟨rfl, rfl⟩
  go_wp2_with fail
  refine (mul64 _ _ (ab_word ha) (ab_word hb) _).mono ?_
  rw [H1.out]
  rintro e w' ⟨rfl, rfl⟩
  go_wp2_with fail
  refine (negate_any m _ hmi).mono ?_
  rw [HN.out]
  rintro e w1 ⟨rfl, hb1⟩
  obtain ⟨cc, cd, cf, cg⟩ := later2 hb1 (g := w.heap.size) (u := .int .i64 0) (v := .int .u64 0) (by simp [go_sem]) (by simp [go_sem]) (by simp [go_sem]) (by simp [go_sem])
  have cz : w.heap.size < w1.heap.size := World.block_lt_of_cell? _ _ cc
  obtain ⟨dc, dd, df, dg⟩ := later2 hb1 (g := w.heap.size + 1) (u := .int .i64 (hi m)) (v := .int .u64 (lo m)) (by simp [go_sem]) (by simp [go_sem]) (by simp [go_sem]) (by simp [go_sem])
  have dz : w.heap.size + 1 < w1.heap.size := World.block_lt_of_cell? _ _ dc
  have b1 : Below w.heap.size w w1 := bl2 hb1 Bk.be
  have z1 := hb1.size
  try simp at z1
  clear hb1
  go_wp2_with fail
  simp [bodyPost, results, Tryz.results83, go_sem, cc, cd]
  exact Bk.be

theorem mul_any (a b : Int) (w : World) (ha : I64 a) (hb : I64 b) :
  Calls Tryz.prog 83 #[.int .i64 a, .int .i64 b] w fun e w' => e = .returned (.agg #[.int .i64 (hi (a * b)), .int .u64 (lo (a * b))]) ∧ Below w.heap.size w w' := by
 by_cases ht : decide (a < 0) = decide (b < 0)
 ·refine mul_same a b w ha hb ?_ ht
  by_cases h0 : a * b = 0
  ·omega
  ·have := mul_sign a b h0
   rw [ht] at this; simp at this; exact this
 ·refine mul_diff a b w ha hb ?_ ht
  by_cases h0 : a * b = 0
  ·omega
  ·have := mul_sign a b h0
   have h2 : decide (a * b < 0) = true := by
    rw [this]; revert ht; cases decide (a < 0) <;> cases decide (b < 0) <;> simp
   have := of_decide_eq_true h2; omega
end Go.Proofs.YtlolflephnbbcaaGreatDoor.Wt

namespace Go.Proofs.YtlolflephnbbcaaGreatDoor.Wt
open Go.RowKit
open Go.Proofs.YtlolflephnbbcaaGreatDoor
open Go.Proofs.YtlolflephnbbcaaGreatDoor.Wm

theorem ab_u128 {x : Int} (h : I128 x) : U128 (ab x) := by unfold I128 at h; unfold U128 ab; split <;> omega

theorem ne_zero_pick {α : Type} {a b : Int} {x y : α} (h : ¬ (a = 0 ∧ b = 0)) : (if a = 0 then if b = 0 then x else y else y) = y := by
 split
 ·split
  ·next h1 h2 => exact absurd ⟨h1, h2⟩ h
  ·rfl
 ·rfl

end Go.Proofs.YtlolflephnbbcaaGreatDoor.Wt

namespace Go.Proofs.YtlolflephnbbcaaGreatDoor.Wt
open Go.RowKit
open Go.Proofs.YtlolflephnbbcaaGreatDoor
open Go.Proofs.YtlolflephnbbcaaGreatDoor.Wm

open Classical in
noncomputable def fit (p : Int) : Int := if I128 p then p else 0
open Classical in
noncomputable def ovf (p : Int) : Int := if I128 p then 0 else 6
theorem fit_in {p : Int} (h : I128 p) : fit p = p := if_pos h
theorem fit_out {p : Int} (h : ¬ I128 p) : fit p = 0 := if_neg h
theorem ovf_in {p : Int} (h : I128 p) : ovf p = 0 := if_pos h
theorem ovf_out {p : Int} (h : ¬ I128 p) : ovf p = 6 := if_neg h
theorem hi_decide (x : Int) : decide (hi x < 0) = decide (x < 0) := by rw [decide_eq_decide]; exact hi_neg x
theorem hl_ne {m : Int} (h : m ≠ 0) : ¬ (hi m = 0 ∧ lo m = 0) := fun ⟨a, b⟩ => h (by have := hi_lo m; rw [a, b] at this; omega)

theorem signed_fit (p : Int) (hu : U128 (ab p)) : Hid (∀ W : World, Calls Tryz.prog 165 #[.agg #[.int .u64 (hi (ab p)), .int .u64 (lo (ab p))], .bool (decide (p < 0))] W fun e w' => e = .returned (.tuple #[.agg #[.int .i64 (hi (fit p)), .int .u64 (lo (fit p))], .int .i64 (ovf p)]) ∧ Below W.heap.size W w') := by
 intro W
 by_cases h : I128 p
 ·rw [fit_in h, ovf_in h]; exact signed_of p W h
 ·rw [fit_out h, ovf_out h, hi_0, lo_0]; exact signed_not p W h hu

end Go.Proofs.YtlolflephnbbcaaGreatDoor.Wt
namespace Go.Proofs.YtlolflephnbbcaaGreatDoor.Wt
open Go.RowKit
open Go.Proofs.YtlolflephnbbcaaGreatDoor
open Go.Proofs.YtlolflephnbbcaaGreatDoor.Wm

section
attribute [local go_sem] u64_signed i64_signed xor_u64 xor_i64
end

def NoFit2 (w : World) (e : Ending) (w' : World) : Prop := ∃ a b : Int, e = .returned (.tuple #[.agg #[.int .u64 a, .int .u64 b], .bool false]) ∧ U64 a ∧ U64 b ∧ Below w.heap.size w w'
theorem wrap_bd (x : Int) : U64 (IntKind.u64.wrap x) := by rw [IntKind.wrap_u64]; unfold U64; omega
def SomeMag (w : World) (e : Ending) (w' : World) : Prop := ∃ (o : Int) (f : Bool), U128 o ∧ e = .returned (.tuple #[.agg #[.int .u64 (hi o), .int .u64 (lo o)], .bool f]) ∧ Below w.heap.size w w'
/-! ### Split -/
section
attribute [local go_sem] u64_signed i64_signed xor_u64 xor_i64
end
end Go.Proofs.YtlolflephnbbcaaGreatDoor.Wt

namespace Go.Proofs.YtlolflephnbbcaaGreatDoor.Wt
open Go.RowKit
open Go.Proofs.YtlolflephnbbcaaGreatDoor
open Go.Proofs.YtlolflephnbbcaaGreatDoor.Wm

def NoJoin (w : World) (e : Ending) (w' : World) : Prop := ∃ a b : Int, e = .returned (.tuple #[.agg #[.int .i64 a, .int .u64 b], .bool false]) ∧ Below w.heap.size w w'

section
attribute [local go_sem] u64_signed i64_signed xor_u64 xor_i64
end
end Go.Proofs.YtlolflephnbbcaaGreatDoor.Wt
namespace Go.Proofs.YtlolflephnbbcaaGreatDoor.Wt
open Go.RowKit
open Go.Proofs.YtlolflephnbbcaaGreatDoor
open Go.Proofs.YtlolflephnbbcaaGreatDoor.Wm

def maxM : Int := 340282366920938463463374607431768211455
structure TimesRel (m n : Int) (k : Nat) (p x o : Int) (fb : Bool) : Prop where
 le : k ≤ 64
 eq : p * 18446744073709551616 + x = n * 2 ^ k
 p0 : 0 ≤ p
 xw : U64 x
 om : U128 o
 fits : fb = decide (m * p ≤ maxM)
 prod : fb = true → o = m * p
theorem TimesRel.start (m n : Int) (hn : U64 n) : TimesRel m n 0 0 n 0 true :=
 ⟨by omega, by omega, by omega, hn, by unfold U128; omega, by rw [Int.mul_zero]; decide, fun _ => by rw [Int.mul_zero]⟩
theorem pow_step (n : Int) (k : Nat) : n * 2 ^ (k + 1) = 2 * (n * 2 ^ k) := by
 rw [Int.pow_succ, ← Int.mul_assoc, Int.mul_comm]
section
variable {m n p x o : Int} {k : Nat} {fb : Bool}
theorem TimesRel.odd (h : TimesRel m n k p x o true) (hk : k < 64) (hx : 9223372036854775808 ≤ x) (hf : o + o + m ≤ maxM) (hm : 0 ≤ m) : TimesRel m n (k + 1) (2 * p + 1) (IntKind.u64.wrap (x * 2)) (o + o + m) true := by
 have ho := h.prod rfl
 have e : m * (2 * p + 1) = o + o + m := by rw [Int.mul_add, Int.mul_one, ho, Int.mul_left_comm]; omega
 refine ⟨by omega, ?_, by have := h.p0; omega, wrap_bd _, ⟨by have := h.om.1; omega, hf⟩, ?_, fun _ => e.symm⟩
 ·have := h.eq; have := h.xw.2; rw [pow_step, IntKind.wrap_u64]; omega
 ·rw [e]; exact (decide_eq_true hf).symm
theorem TimesRel.over (h : TimesRel m n k p x o true) (hk : k < 64) (hm : 0 ≤ m) {o' : Int} (ho' : U128 o') (hf : maxM < o + o ∨ (9223372036854775808 ≤ x ∧ maxM < o + o + m)) :
  TimesRel m n (k + 1) (if 9223372036854775808 ≤ x then 2 * p + 1 else 2 * p) (IntKind.u64.wrap (x * 2)) o' false := by
 have ho := h.prod rfl
 have e : m * (2 * p) = o + o := by rw [ho, Int.mul_left_comm]; omega
 have e2 : m * (2 * p + 1) = o + o + m := by rw [Int.mul_add, Int.mul_one, e]
 have := h.eq; have := h.xw; have := h.p0
 unfold U64 at *
 by_cases hb : 9223372036854775808 ≤ x
 ·rw [if_pos hb]
  refine ⟨by omega, by rw [pow_step, IntKind.wrap_u64]; omega, by omega, wrap_bd _, ho', ?_, fun e => by cases e⟩
  rw [e2]; exact (decide_eq_false (by omega)).symm
 ·rw [if_neg hb]
  refine ⟨by omega, by rw [pow_step, IntKind.wrap_u64]; omega, by omega, wrap_bd _, ho', ?_, fun e => by cases e⟩
  rw [e]; exact (decide_eq_false (by omega)).symm
end

def Two (W : World) (g : Nat) (u v : Value) : Prop := W.cell? ⟨g, 0, none⟩ = some u ∧ W.cell? ⟨g, 1, none⟩ = some v ∧ W.frozen? ⟨g, 0, none⟩ = false ∧ W.frozen? ⟨g, 1, none⟩ = false
def TimesLoop (w : World) (m n : Int) (vx vf vi : Value) (wr : World) : Prop := ∃ (k : Nat) (p x o : Int) (fb : Bool), TimesRel m n k p x o fb ∧ vx = .int .u64 x ∧ vf = .bool fb ∧ vi = .int .i64 k ∧
 Two wr w.heap.size (.int .u64 (hi m)) (.int .u64 (lo m)) ∧ Two wr (w.heap.size + 1) (.int .u64 0) (.int .u64 0) ∧ Two wr (w.heap.size + 2) (.int .u64 (hi o)) (.int .u64 (lo o)) ∧ Below w.heap.size w wr

def NoMag (w : World) (e : Ending) (w' : World) : Prop := ∃ o : Int, U128 o ∧ e = .returned (.tuple #[.agg #[.int .u64 (hi o), .int .u64 (lo o)], .bool false]) ∧ Below w.heap.size w w'
def TimesPost (w : World) (m n : Int) (e : Ending) (w' : World) : Prop := ∃ o : Int, U128 o ∧ e = .returned (.tuple #[.agg #[.int .u64 (hi o), .int .u64 (lo o)], .bool (decide (m * n ≤ maxM))]) ∧ (m * n ≤ maxM → o = m * n) ∧ Below w.heap.size w w'

end Go.Proofs.YtlolflephnbbcaaGreatDoor.Wt

namespace Go.Proofs.YtlolflephnbbcaaGreatDoor.Wt
open Go.RowKit
open Go.Proofs.YtlolflephnbbcaaGreatDoor
open Go.Proofs.YtlolflephnbbcaaGreatDoor.Wm

def SomeJoin (w : World) (e : Ending) (w' : World) : Prop := ∃ (a b : Int) (f : Bool), e = .returned (.tuple #[.agg #[.int .i64 a, .int .u64 b], .bool f]) ∧ Below w.heap.size w w'
end Go.Proofs.YtlolflephnbbcaaGreatDoor.Wt
namespace Go.Proofs.YtlolflephnbbcaaGreatDoor.Wt
open Go.RowKit
open Go.Proofs.YtlolflephnbbcaaGreatDoor
open Go.Proofs.YtlolflephnbbcaaGreatDoor.Wm

end Go.Proofs.YtlolflephnbbcaaGreatDoor.Wt

namespace Go.Proofs.YtlolflephnbbcaaGreatDoor.Wt
open Go.RowKit
open Go.Proofs.YtlolflephnbbcaaGreatDoor
open Go.Proofs.YtlolflephnbbcaaGreatDoor.Wm

def Sgn (neg : Bool) (x : Int) : Prop := (neg = true ∧ x ≤ 0) ∨ (neg = false ∧ 0 ≤ x)
def SumPost (w : World) (s : Int) (e : Ending) (w' : World) : Prop := e = .returned (.tuple #[.agg #[.int .i64 (hi (fit s)), .int .u64 (lo (fit s))], .int .i64 (ovf s)]) ∧ Below w.heap.size w w'
end Go.Proofs.YtlolflephnbbcaaGreatDoor.Wt

namespace Go.Proofs.YtlolflephnbbcaaGreatDoor.Wt
open Go.RowKit
open Go.Proofs.YtlolflephnbbcaaGreatDoor
open Go.Proofs.YtlolflephnbbcaaGreatDoor.Wm

end Go.Proofs.YtlolflephnbbcaaGreatDoor.Wt
namespace Go.Proofs.YtlolflephnbbcaaGreatDoor.Wt
open Go.RowKit
open Go.Proofs.YtlolflephnbbcaaGreatDoor
open Go.Proofs.YtlolflephnbbcaaGreatDoor.Wm

def dbl (m : Int) : Int := 2 * m % 340282366920938463463374607431768211456
def ShPost (w : World) (o : Int) (e : Ending) (w' : World) : Prop := ∃ f : Bool, e = .returned (.tuple #[.agg #[.int .u64 (hi o), .int .u64 (lo o)], .bool f]) ∧ Below w.heap.size w w'

/-! ### the division bit by bit -/
structure QRel (m n : Int) (k : Nat) (mm q r : Int) : Prop where
 le : k ≤ 128
 w : ∃ P E l : Int, 0 < P ∧ 0 < E ∧ P * E = 340282366920938463463374607431768211456 ∧ (k < 128 → ∃ P', P = 2 * P') ∧ (k = 128 → P = 1) ∧ P = 2 ^ (128 - k) ∧ m = (q * n + r) * P + l ∧ 0 ≤ l ∧ l < P ∧ mm = l * E ∧ q < E
 r0 : 0 ≤ r
 r1 : r < n
 q0 : 0 ≤ q
theorem QRel.start {m n : Int} (hm : U128 m) (hn : 0 < n) : QRel m n 0 m 0 0 :=
 ⟨by omega, ⟨340282366920938463463374607431768211456, 1, m, by omega, by omega, by omega, fun _ => ⟨170141183460469231731687303715884105728, by omega⟩, fun h => by omega, rfl, by omega, hm.1, by have := hm.2; omega, by omega, by omega⟩, by omega, hn, by omega⟩
theorem QRel.mmb {m n mm q r : Int} {k : Nat} (h : QRel m n k mm q r) : U128 mm ∧ (k < 128 → q < 170141183460469231731687303715884105728) := by
 obtain ⟨P, E, l, hP, hE, hPE, h2, h1, _, hm, l0, l1, e, qE⟩ := h.w
 constructor
 ·rw [e]
  have a := Int.mul_nonneg l0 (show 0 ≤ E by omega)
  have b : l * E ≤ (P - 1) * E := Int.mul_le_mul_of_nonneg_right (by omega) (by omega)
  rw [Int.sub_mul, hPE, Int.one_mul] at b
  exact ⟨a, by omega⟩
 ·intro hk
  obtain ⟨P', rfl⟩ := h2 hk
  have : 1 * E ≤ P' * E := Int.mul_le_mul_of_nonneg_right (by omega) (by omega)
  rw [Int.mul_assoc] at hPE
  omega
theorem QRel.step {m n mm q r : Int} {k : Nat} (h : QRel m n k mm q r) (hk : k < 128) (b : Int) (hb : b = if 170141183460469231731687303715884105728 ≤ mm then 1 else 0) :
  (2 * r + b < n → QRel m n (k + 1) (dbl mm) (2 * q) (2 * r + b)) ∧ (n ≤ 2 * r + b → QRel m n (k + 1) (dbl mm) (2 * q + 1) (2 * r + b - n)) := by
 obtain ⟨P, E, l, hP, hE, hPE, h2, h1, hpow, hm, l0, l1, e, qE⟩ := h.w
 obtain ⟨P', rfl⟩ := h2 hk
 have hPE' : P' * E = 170141183460469231731687303715884105728 := by rw [Int.mul_assoc] at hPE; omega
 have hb01 : (b = 0 ∧ l < P') ∨ (b = 1 ∧ P' ≤ l) := by
  rw [hb]
  split
  ·rename_i hge
   refine .inr ⟨rfl, ?_⟩
   rw [e, ← hPE'] at hge
   exact Int.le_of_mul_le_mul_right hge hE
  ·rename_i hlt
   refine .inl ⟨rfl, ?_⟩
   rw [e, ← hPE'] at hlt
   exact Int.lt_of_not_ge fun hge => hlt (Int.mul_le_mul_of_nonneg_right hge (by omega))
 have hbb : b * P' = 0 ∧ b = 0 ∨ b * P' = P' ∧ b = 1 := by rcases hb01 with ⟨rfl, _⟩ | ⟨rfl, _⟩ <;> omega
 have hd : dbl mm = (l - b * P') * (2 * E) := by
  have e1 : (l - b * P') * (2 * E) = 2 * (l * E) - b * 340282366920938463463374607431768211456 := by
   rw [Int.sub_mul, Int.mul_left_comm l 2 E, Int.mul_assoc b P' (2 * E), Int.mul_left_comm P' 2 E, hPE']
   omega
  rw [e1, ← e]
  have hmm := h.mmb.1
  unfold U128 at hmm
  unfold dbl
  rw [hb]
  split <;> omega
 have hT : ∀ q' r' : Int, q' * n + r' = 2 * (q * n + r) + b → m = (q' * n + r') * P' + (l - b * P') := fun q' r' h' => by
  rw [h', Int.add_mul, hm, Int.mul_assoc 2, ← Int.mul_assoc (q * n + r) 2 P', Int.mul_comm (q * n + r) 2, Int.mul_assoc 2]
  omega
 have hpow' : P' = 2 ^ (128 - (k + 1)) := by
  have : 128 - k = (128 - (k + 1)) + 1 := by omega
  rw [this, Int.pow_succ] at hpow
  omega
 clear h2 h1
 have := h.r0
 have := h.r1
 have := h.q0
 have a1 : 0 < P' := by omega
 have a2 : 0 < 2 * E := by omega
 have a3 : P' * (2 * E) = 340282366920938463463374607431768211456 := by rw [Int.mul_left_comm]; omega
 have a4 : 0 ≤ l - b * P' := by omega
 have a5 : l - b * P' < P' := by omega
 have a6 : 2 * q < 2 * E := by omega
 have a7 : 2 * q + 1 < 2 * E := by omega
 have a8 : 0 ≤ 2 * r + b := by omega
 have a9 : n ≤ 2 * r + b → 0 ≤ 2 * r + b - n := by omega
 have a10 : 2 * r + b - n < n := by omega
 have a11 : 0 ≤ 2 * q := by omega
 have a12 : 0 ≤ 2 * q + 1 := by omega
 have a13 : k + 1 ≤ 128 := by omega
 have t1 : 2 * q * n + (2 * r + b) = 2 * (q * n + r) + b := by rw [Int.mul_assoc]; omega
 have t2 : (2 * q + 1) * n + (2 * r + b - n) = 2 * (q * n + r) + b := by rw [Int.add_mul, Int.mul_assoc]; omega
 have heven : k + 1 < 128 → ∃ P'', P' = 2 * P'' := fun hk' => ⟨2 ^ (128 - (k + 1) - 1), by
  rw [hpow']
  have : 128 - (k + 1) = (128 - (k + 1) - 1) + 1 := by omega
  conv => lhs; rw [this]
  rw [Int.pow_succ, Int.mul_comm]⟩
 have hone : k + 1 = 128 → P' = 1 := fun hk' => by rw [hpow', hk']; rfl
 exact ⟨fun hlt => ⟨a13, ⟨P', 2 * E, l - b * P', a1, a2, a3, heven, hone, hpow', hT _ _ t1, a4, a5, hd, a6⟩, a8, hlt, a11⟩,
  fun hge => ⟨a13, ⟨P', 2 * E, l - b * P', a1, a2, a3, heven, hone, hpow', hT _ _ t2, a4, a5, hd, a7⟩, a9 hge, a10, a12⟩⟩
end Go.Proofs.YtlolflephnbbcaaGreatDoor.Wt

namespace Go.Proofs.YtlolflephnbbcaaGreatDoor.Wt
open Go.RowKit
open Go.Proofs.YtlolflephnbbcaaGreatDoor
open Go.Proofs.YtlolflephnbbcaaGreatDoor.Wm

def QLoop (w : World) (m n : Int) (vr vi : Value) (wr : World) : Prop := ∃ (k : Nat) (mm q r : Int), QRel m n k mm q r ∧ vr = .int .u64 r ∧ vi = .int .i64 k ∧
 Two wr w.heap.size (.int .u64 (hi mm)) (.int .u64 (lo mm)) ∧ Two wr (w.heap.size + 1) (.int .u64 0) (.int .u64 0) ∧ Two wr (w.heap.size + 2) (.int .u64 (hi q)) (.int .u64 (lo q)) ∧ Below w.heap.size w wr
end Go.Proofs.YtlolflephnbbcaaGreatDoor.Wt
