/-
 The contracts of the reference's minus, Less, sum and Add: said of numbers of two words.
 The contracts of the reference's sum: the sum of two numbers that are given by signs and magnitudes.
 The contract of the reference's Add.
-/
import Derived.Test.YtaanicginfjgdaaGreatDoorRga
namespace Go.Proofs.YtaanicginfjgdaaGreatDoor.Wt
open Go.RowKit
open Go.Proofs.YtaanicginfjgdaaGreatDoor
open Go.Proofs.YtaanicginfjgdaaGreatDoor.Wm

theorem rminus_any (a b : Int) (w : World) (ha : U128 a) (hb : U128 b) (h : b ≤ a) :
  Calls Tryz.prog 143 #[.agg #[.int .u64 (hi a), .int .u64 (lo a)], .agg #[.int .u64 (hi b), .int .u64 (lo b)]] w fun e w' => e = .returned (.agg #[.int .u64 (hi (a - b)), .int .u64 (lo (a - b))]) ∧ Below w.heap.size w w' := by
 have e1 := hi_lo a
 have e2 := hi_lo b
 obtain ⟨l1, l2⟩ := lo_bd a
 obtain ⟨m1, m2⟩ := lo_bd b
 obtain ⟨k1, k2⟩ := hi_bdu ha
 obtain ⟨j1, j2⟩ := hi_bdu hb
 by_cases hc : lo a < lo b
 ·have hh : hi b + 1 ≤ hi a := by omega
  have H1 := Lib.hid (show hi a - hi b - 1 = hi (a - b) by unfold hi lo at *; omega)
  have H2 := Lib.hid (show IntKind.u64.wrap (lo a - lo b) = lo (a - b) by rw [IntKind.wrap_u64]; unfold hi lo at *; omega)
  clear e1 e2 h ha hb
  go_enter Tryz.func143, Tryz.ntmps143
  go_wp2
  simp [bodyPost, results, Tryz.results143, go_sem]
  exact ⟨⟨H1.out, H2.out⟩, Bk.be⟩
 ·have hh : hi b ≤ hi a := by omega
  have H1 := Lib.hid (show hi a - hi b = hi (a - b) by unfold hi lo at *; omega)
  have H2 := Lib.hid (show lo a - lo b = lo (a - b) by unfold hi lo at *; omega)
  have hc' : lo b ≤ lo a := by omega
  clear e1 e2 h ha hb hc
  go_enter Tryz.func143, Tryz.ntmps143
  go_wp2
  simp [bodyPost, results, Tryz.results143, go_sem]
  exact ⟨⟨H1.out, H2.out⟩, Bk.be⟩

theorem rless_any (a b : Int) (w : World) :
  Calls Tryz.prog 142 #[.agg #[.int .u64 (hi a), .int .u64 (lo a)], .agg #[.int .u64 (hi b), .int .u64 (lo b)]] w fun e w' => e = .returned (.bool (decide (a < b))) ∧ Below w.heap.size w w' := by
 have e1 := hi_lo a
 have e2 := hi_lo b
 obtain ⟨l1, l2⟩ := lo_bd a
 obtain ⟨m1, m2⟩ := lo_bd b
 by_cases hc : hi a < hi b
 ·rw [decide_eq_true (show a < b by omega)]
  clear e1 e2
  go_enter Tryz.func142, Tryz.ntmps142
  go_wp2
  go_ret
  exact ⟨rfl, Bk.be⟩
 ·by_cases hd : hi a = hi b
  ·have t1 : (hi a == hi b) = true := by simpa using hd
   have H := Lib.hid (show decide (lo a < lo b) = decide (a < b) by rw [decide_eq_decide]; omega)
   have t0 : decide (hi a < hi b) = false := decide_eq_false hc
   clear e1 e2 hd hc
   go_enter Tryz.func142, Tryz.ntmps142
   go_wp2
   go_ret
   exact ⟨by rw [← H.out]; rfl, Bk.be⟩
  ·have t1 : (hi a == hi b) = false := by simpa using hd
   rw [decide_eq_false (show ¬ a < b by omega)]
   have t0 : decide (hi a < hi b) = false := decide_eq_false hc
   clear e1 e2 hd hc
   go_enter Tryz.func142, Tryz.ntmps142
   go_wp2
   go_ret
   exact ⟨rfl, Bk.be⟩
end Go.Proofs.YtaanicginfjgdaaGreatDoor.Wt

namespace Go.Proofs.YtaanicginfjgdaaGreatDoor.Wt
open Go.RowKit
open Go.Proofs.YtaanicginfjgdaaGreatDoor
open Go.Proofs.YtaanicginfjgdaaGreatDoor.Wm

def Sgn (neg : Bool) (x : Int) : Prop := (neg = true ∧ x ≤ 0) ∨ (neg = false ∧ 0 ≤ x)
theorem join_fit (s : Int) (neg : Bool) (hs : Sgn neg s) (hu : U128 (ab s)) (W : World) :
  Calls Tryz.prog 123 #[.bool neg, .agg #[.int .u64 (hi (ab s)), .int .u64 (lo (ab s))]] W fun e w' => ∃ (a b : Int) (f : Bool), e = .returned (.tuple #[.agg #[.int .i64 a, .int .u64 b], .bool f]) ∧ Below W.heap.size W w' ∧ ((f = true ∧ I128 s ∧ a = hi s ∧ b = lo s) ∨ (f = false ∧ ¬ I128 s)) := by
 by_cases hi128 : I128 s
 ·refine (join_of s neg W hi128 ?_).mono fun _ _ ⟨he, hb⟩ => ⟨_, _, _, he, hb, .inl ⟨rfl, hi128, rfl, rfl⟩⟩
  rcases hs with ⟨h, g⟩ | ⟨h, g⟩
  ·by_cases h0 : s = 0
   ·exact .inr h0
   ·exact .inl (by rw [h, decide_eq_true (show s < 0 by omega)])
  ·exact .inl (by rw [h, decide_eq_false (by omega)])
 ·refine (join_not s neg W hi128 hu ?_).mono fun _ _ ⟨a, b, he, hb⟩ => ⟨a, b, _, he, hb, .inr ⟨rfl, hi128⟩⟩
  rcases hs with ⟨h, g⟩ | ⟨h, g⟩
  ·have h0 : s ≠ 0 := fun e => hi128 (by rw [e]; unfold I128; omega)
   rw [h, decide_eq_true (show s < 0 by omega)]
  ·rw [h, decide_eq_false (by omega)]

def SumPost (w : World) (s : Int) (e : Ending) (w' : World) : Prop := e = .returned (.tuple #[.agg #[.int .i64 (hi (fit s)), .int .u64 (lo (fit s))], .int .i64 (ovf s)]) ∧ Below w.heap.size w w'
theorem sumpost_in {w w' : World} {s : Int} (h : I128 s) (hb : Below w.heap.size w w') : SumPost w s (.returned (.tuple #[.agg #[.int .i64 (hi s), .int .u64 (lo s)], .int .i64 0])) w' := by
 unfold SumPost; rw [fit_in h, ovf_in h]; exact ⟨rfl, hb⟩
theorem sumpost_out {w w' : World} {s : Int} (h : ¬ I128 s) (hb : Below w.heap.size w w') : SumPost w s (.returned (.tuple #[.agg #[.int .i64 0, .int .u64 0], .int .i64 6])) w' := by
 unfold SumPost; rw [fit_out h, ovf_out h, hi_0, lo_0]; exact ⟨rfl, hb⟩

theorem sum_w1 (an bn : Bool) (x y : Int) (w : World) (hx : I128 x) (hy : U128 (ab y)) (sx : Sgn an x) (sy : Sgn bn y) (hab : an = bn) (hfit : ab x + ab y ≤ maxM) :
  Calls Tryz.prog 124 #[.bool an, .agg #[.int .u64 (hi (ab x)), .int .u64 (lo (ab x))], .bool bn, .agg #[.int .u64 (hi (ab y)), .int .u64 (lo (ab y))]] w (SumPost w (x + y)) := by
 subst hab
 have es : ab x + ab y = ab (x + y) := by
  unfold ab
  rcases sx with ⟨h, g⟩ | ⟨h, g⟩ <;> rcases sy with ⟨h', g'⟩ | ⟨h', g'⟩
  ·split <;> split <;> split <;> omega
  ·rw [h] at h'; cases h'
  ·rw [h] at h'; cases h'
  ·split <;> split <;> split <;> omega
 have ss : Sgn an (x + y) := by
  rcases sx with ⟨h, g⟩ | ⟨h, g⟩ <;> rcases sy with ⟨h', g'⟩ | ⟨h', g'⟩
  ·exact .inl ⟨h, by omega⟩
  ·rw [h] at h'; cases h'
  ·rw [h] at h'; cases h'
  ·exact .inr ⟨h, by omega⟩
 have hP0 := (fun W => rplus_yes (ab x) (ab y) W (ab_u128 hx) hy hfit)
 rw [es] at hP0
 have hu : ab (x + y) ≤ 340282366920938463463374607431768211455 := by rw [← es]; exact hfit
 have hP := Lib.hid hP0
 have hJ := Lib.hid (fun W => join_fit (x + y) an ss ⟨by unfold ab; split <;> omega, hu⟩ W)
 clear hP0 es ss sx sy hfit hu
 go_enter Tryz.func124, Tryz.ntmps124
 go_wp2_with fail
 go_region
 go_wp2_with fail
 refine (hP.out _).mono ?_
 rintro e w1 ⟨rfl, hb1⟩
 obtain ⟨r1c, r1d, r1f, r1g⟩ := later2 hb1 (g := w.heap.size + 2) (u := .int .i64 0) (v := .int .u64 0) (by simp [go_sem]) (by simp [go_sem]) (by simp [go_sem]) (by simp [go_sem])
 have r1z : w.heap.size + 2 < w1.heap.size := World.block_lt_of_cell? _ _ r1c
 obtain ⟨x1c, x1d, x1f, x1g⟩ := later2 hb1 (g := w.heap.size) (u := .int .u64 (hi (ab x))) (v := .int .u64 (lo (ab x))) (by simp [go_sem]) (by simp [go_sem]) (by simp [go_sem]) (by simp [go_sem])
 have x1z : w.heap.size < w1.heap.size := World.block_lt_of_cell? _ _ x1c
 obtain ⟨y1c, y1d, y1f, y1g⟩ := later2 hb1 (g := w.heap.size + 1) (u := .int .u64 (hi (ab y))) (v := .int .u64 (lo (ab y))) (by simp [go_sem]) (by simp [go_sem]) (by simp [go_sem]) (by simp [go_sem])
 have y1z : w.heap.size + 1 < w1.heap.size := World.block_lt_of_cell? _ _ y1c
 obtain ⟨m1c, m1d, m1f, m1g⟩ := later2 hb1 (g := w.heap.size + 3) (u := .int .u64 (hi (ab x))) (v := .int .u64 (lo (ab x))) (by simp [go_sem]) (by simp [go_sem]) (by simp [go_sem]) (by simp [go_sem])
 have m1z : w.heap.size + 3 < w1.heap.size := World.block_lt_of_cell? _ _ m1c
 have b1 : Below w.heap.size w w1 := bl2 hb1 Bk.be
 have z1 := hb1.size
 try simp at z1
 clear hb1
 go_wp2_with fail
 refine (hJ.out _).mono ?_
 rintro e w2 ⟨ja, jb, jf, rfl, hb2, hcase⟩
 obtain ⟨jc, jd, jf, jg⟩ := later2 hb2 (g := w.heap.size + 2) (u := .int .i64 0) (v := .int .u64 0) (by simp [go_sem, *]) (by simp [go_sem, *]) (by simp [go_sem, *]) (by simp [go_sem, *])
 have jz : w.heap.size + 2 < w2.heap.size := World.block_lt_of_cell? _ _ jc
 have b2 : Below w.heap.size w w2 := bl2 hb2 Bk.be
 clear hb2
 rcases hcase with ⟨rfl, h128, rfl, rfl⟩ | ⟨rfl, h128⟩
 ·have H128 := Lib.hid h128
  clear h128
  go_wp2_with fail
  simp [bodyPost, results, Tryz.results124, go_sem, jc, jd, jz]
  exact sumpost_in H128.out Bk.be
 ·have H128 := Lib.hid h128
  clear h128
  go_wp2_with fail
  simp [bodyPost, results, Tryz.results124, go_sem, jc, jd, jz]
  exact sumpost_out H128.out Bk.be

theorem sum_w2 (an bn : Bool) (x y : Int) (w : World) (hx : I128 x) (hy : U128 (ab y)) (sx : Sgn an x) (sy : Sgn bn y) (hab : an = bn) (hfit : maxM < ab x + ab y) :
  Calls Tryz.prog 124 #[.bool an, .agg #[.int .u64 (hi (ab x)), .int .u64 (lo (ab x))], .bool bn, .agg #[.int .u64 (hi (ab y)), .int .u64 (lo (ab y))]] w (SumPost w (x + y)) := by
 subst hab
 have hn : ¬ I128 (x + y) := by
  unfold I128 at *; unfold maxM ab at hfit
  intro hh
  rcases sx with ⟨h, g⟩ | ⟨h, g⟩ <;> rcases sy with ⟨h', g'⟩ | ⟨h', g'⟩
  ·revert hfit; split <;> split <;> omega
  ·rw [h] at h'; cases h'
  ·rw [h] at h'; cases h'
  ·revert hfit; split <;> split <;> omega
 have HN := Lib.hid hn
 have hP := Lib.hid (fun W => rplus_nom (ab x) (ab y) W (ab_u128 hx) hy hfit)
 clear hn sx sy hfit
 go_enter Tryz.func124, Tryz.ntmps124
 go_wp2_with fail
 go_region
 go_wp2_with fail
 refine (hP.out _).mono ?_
 rintro e w1 ⟨o, ho, rfl, hb1⟩
 obtain ⟨r1c, r1d, r1f, r1g⟩ := later2 hb1 (g := w.heap.size + 2) (u := .int .i64 0) (v := .int .u64 0) (by simp [go_sem]) (by simp [go_sem]) (by simp [go_sem]) (by simp [go_sem])
 have r1z : w.heap.size + 2 < w1.heap.size := World.block_lt_of_cell? _ _ r1c
 obtain ⟨x1c, x1d, x1f, x1g⟩ := later2 hb1 (g := w.heap.size) (u := .int .u64 (hi (ab x))) (v := .int .u64 (lo (ab x))) (by simp [go_sem]) (by simp [go_sem]) (by simp [go_sem]) (by simp [go_sem])
 have x1z : w.heap.size < w1.heap.size := World.block_lt_of_cell? _ _ x1c
 obtain ⟨y1c, y1d, y1f, y1g⟩ := later2 hb1 (g := w.heap.size + 1) (u := .int .u64 (hi (ab y))) (v := .int .u64 (lo (ab y))) (by simp [go_sem]) (by simp [go_sem]) (by simp [go_sem]) (by simp [go_sem])
 have y1z : w.heap.size + 1 < w1.heap.size := World.block_lt_of_cell? _ _ y1c
 obtain ⟨m1c, m1d, m1f, m1g⟩ := later2 hb1 (g := w.heap.size + 3) (u := .int .u64 (hi (ab x))) (v := .int .u64 (lo (ab x))) (by simp [go_sem]) (by simp [go_sem]) (by simp [go_sem]) (by simp [go_sem])
 have m1z : w.heap.size + 3 < w1.heap.size := World.block_lt_of_cell? _ _ m1c
 have b1 : Below w.heap.size w w1 := bl2 hb1 Bk.be
 have z1 := hb1.size
 try simp at z1
 clear hb1
 go_wp2_with fail
 refine (join_some o _ _ ho).mono ?_
 rintro e w2 ⟨ja, jb, jf, rfl, hb2⟩
 obtain ⟨jc, jd, jf, jg⟩ := later2 hb2 (g := w.heap.size + 2) (u := .int .i64 0) (v := .int .u64 0) (by simp [go_sem, *]) (by simp [go_sem, *]) (by simp [go_sem, *]) (by simp [go_sem, *])
 have jz : w.heap.size + 2 < w2.heap.size := World.block_lt_of_cell? _ _ jc
 have b2 : Below w.heap.size w w2 := bl2 hb2 Bk.be
 clear hb2
 go_wp2_with fail
 simp [bodyPost, results, Tryz.results124, go_sem, jc, jd, jz]
 exact sumpost_out HN.out Bk.be

theorem sum_w3 (an bn : Bool) (x y : Int) (w : World) (hx : I128 x) (hy : U128 (ab y)) (sx : Sgn an x) (sy : Sgn bn y) (hab : bn = !an) (hl : ab x < ab y) :
  Calls Tryz.prog 124 #[.bool an, .agg #[.int .u64 (hi (ab x)), .int .u64 (lo (ab x))], .bool bn, .agg #[.int .u64 (hi (ab y)), .int .u64 (lo (ab y))]] w (SumPost w (x + y)) := by
 subst hab
 have es : ab y - ab x = ab (x + y) := by
  unfold ab at *
  rcases sx with ⟨h, g⟩ | ⟨h, g⟩ <;> rcases sy with ⟨h', g'⟩ | ⟨h', g'⟩
  ·rw [h] at h'; cases h'
  ·revert hl; split <;> split <;> split <;> omega
  ·revert hl; split <;> split <;> split <;> omega
  ·rw [h] at h'; cases h'
 have ss : Sgn (!an) (x + y) := by
  unfold ab at hl
  rcases sx with ⟨h, g⟩ | ⟨h, g⟩ <;> rcases sy with ⟨h', g'⟩ | ⟨h', g'⟩
  ·rw [h] at h'; cases h'
  ·exact .inr ⟨h', by revert hl; split <;> split <;> omega⟩
  ·exact .inl ⟨h', by revert hl; split <;> split <;> omega⟩
  ·rw [h] at h'; cases h'
 have hu : ab (x + y) ≤ 340282366920938463463374607431768211455 := by rw [← es]; have := hy.2; have := (ab_u128 hx).1; omega
 have hM0 := (fun W => rminus_any (ab y) (ab x) W hy (ab_u128 hx) (by omega))
 rw [es] at hM0
 have hM := Lib.hid hM0
 have hL := Lib.hid (fun W => (decide_eq_true hl) ▸ rless_any (ab x) (ab y) W)
 have hJ := Lib.hid (fun W => join_fit (x + y) (!an) ss ⟨by unfold ab; split <;> omega, hu⟩ W)
 clear hM0 es ss sx sy hl hu
 cases an
 all_goals
  go_enter Tryz.func124, Tryz.ntmps124
  go_wp2_with fail
  go_region
  go_wp2_with fail
  refine (hL.out _).mono ?_
  rintro e w1 ⟨rfl, hb1⟩
  obtain ⟨r1c, r1d, r1f, r1g⟩ := later2 hb1 (g := w.heap.size + 2) (u := .int .i64 0) (v := .int .u64 0) (by simp [go_sem]) (by simp [go_sem]) (by simp [go_sem]) (by simp [go_sem])
  have r1z : w.heap.size + 2 < w1.heap.size := World.block_lt_of_cell? _ _ r1c
  obtain ⟨x1c, x1d, x1f, x1g⟩ := later2 hb1 (g := w.heap.size) (u := .int .u64 (hi (ab x))) (v := .int .u64 (lo (ab x))) (by simp [go_sem]) (by simp [go_sem]) (by simp [go_sem]) (by simp [go_sem])
  have x1z : w.heap.size < w1.heap.size := World.block_lt_of_cell? _ _ x1c
  obtain ⟨y1c, y1d, y1f, y1g⟩ := later2 hb1 (g := w.heap.size + 1) (u := .int .u64 (hi (ab y))) (v := .int .u64 (lo (ab y))) (by simp [go_sem]) (by simp [go_sem]) (by simp [go_sem]) (by simp [go_sem])
  have y1z : w.heap.size + 1 < w1.heap.size := World.block_lt_of_cell? _ _ y1c
  obtain ⟨m1c, m1d, m1f, m1g⟩ := later2 hb1 (g := w.heap.size + 3) (u := .int .u64 (hi (ab x))) (v := .int .u64 (lo (ab x))) (by simp [go_sem]) (by simp [go_sem]) (by simp [go_sem]) (by simp [go_sem])
  have m1z : w.heap.size + 3 < w1.heap.size := World.block_lt_of_cell? _ _ m1c
  have b1 : Below w.heap.size w w1 := bl2 hb1 Bk.be
  have z1 := hb1.size
  try simp at z1
  clear hb1
  go_wp2_with fail
  refine (hM.out _).mono ?_
  rintro e w2 ⟨rfl, hb2⟩
  obtain ⟨r2c, r2d, r2f, r2g⟩ := later2 hb2 (g := w.heap.size + 2) (u := .int .i64 0) (v := .int .u64 0) (by simp [go_sem, *]) (by simp [go_sem, *]) (by simp [go_sem, *]) (by simp [go_sem, *])
  have r2z : w.heap.size + 2 < w2.heap.size := World.block_lt_of_cell? _ _ r2c
  obtain ⟨x2c, x2d, x2f, x2g⟩ := later2 hb2 (g := w.heap.size) (u := .int .u64 (hi (ab x))) (v := .int .u64 (lo (ab x))) (by simp [go_sem, *]) (by simp [go_sem, *]) (by simp [go_sem, *]) (by simp [go_sem, *])
  have x2z : w.heap.size < w2.heap.size := World.block_lt_of_cell? _ _ x2c
  obtain ⟨y2c, y2d, y2f, y2g⟩ := later2 hb2 (g := w.heap.size + 1) (u := .int .u64 (hi (ab y))) (v := .int .u64 (lo (ab y))) (by simp [go_sem, *]) (by simp [go_sem, *]) (by simp [go_sem, *]) (by simp [go_sem, *])
  have y2z : w.heap.size + 1 < w2.heap.size := World.block_lt_of_cell? _ _ y2c
  obtain ⟨m2c, m2d, m2f, m2g⟩ := later2 hb2 (g := w.heap.size + 3) (u := .int .u64 (hi (ab x))) (v := .int .u64 (lo (ab x))) (by simp [go_sem, *]) (by simp [go_sem, *]) (by simp [go_sem, *]) (by simp [go_sem, *])
  have m2z : w.heap.size + 3 < w2.heap.size := World.block_lt_of_cell? _ _ m2c
  have b2 : Below w.heap.size w w2 := bl2 hb2 Bk.be
  have z2 := hb2.size
  try simp at z2
  clear hb2
  clear r1c r1d r1f r1g x1c x1d x1f x1g y1c y1d y1f y1g m1c m1d m1f m1g
  go_wp2_with fail
  refine (hJ.out _).mono ?_
  rintro e w3 ⟨ja, jb, jf, rfl, hb3, hcase⟩
  obtain ⟨jc, jd, jf, jg⟩ := later2 hb3 (g := w.heap.size + 2) (u := .int .i64 0) (v := .int .u64 0) (by simp [go_sem, *]) (by simp [go_sem, *]) (by simp [go_sem, *]) (by simp [go_sem, *])
  have jz : w.heap.size + 2 < w3.heap.size := World.block_lt_of_cell? _ _ jc
  have b3 : Below w.heap.size w w3 := bl2 hb3 Bk.be
  clear hb3
  rcases hcase with ⟨rfl, h128, rfl, rfl⟩ | ⟨rfl, h128⟩
  ·have H128 := Lib.hid h128
   clear h128
   go_wp2_with fail
   simp [bodyPost, results, Tryz.results124, go_sem, jc, jd, jz]
   exact sumpost_in H128.out Bk.be
  ·have H128 := Lib.hid h128
   clear h128
   go_wp2_with fail
   simp [bodyPost, results, Tryz.results124, go_sem, jc, jd, jz]
   exact sumpost_out H128.out Bk.be

theorem sum_w4 (an bn : Bool) (x y : Int) (w : World) (hx : I128 x) (hy : U128 (ab y)) (sx : Sgn an x) (sy : Sgn bn y) (hab : bn = !an) (hl : ¬ ab x < ab y) :
  Calls Tryz.prog 124 #[.bool an, .agg #[.int .u64 (hi (ab x)), .int .u64 (lo (ab x))], .bool bn, .agg #[.int .u64 (hi (ab y)), .int .u64 (lo (ab y))]] w (SumPost w (x + y)) := by
 subst hab
 have es : ab x - ab y = ab (x + y) := by
  unfold ab at *
  rcases sx with ⟨h, g⟩ | ⟨h, g⟩ <;> rcases sy with ⟨h', g'⟩ | ⟨h', g'⟩
  ·rw [h] at h'; cases h'
  ·revert hl; split <;> split <;> split <;> omega
  ·revert hl; split <;> split <;> split <;> omega
  ·rw [h] at h'; cases h'
 have ss : Sgn an (x + y) := by
  unfold ab at hl
  rcases sx with ⟨h, g⟩ | ⟨h, g⟩ <;> rcases sy with ⟨h', g'⟩ | ⟨h', g'⟩
  ·rw [h] at h'; cases h'
  ·exact .inl ⟨h, by revert hl; split <;> split <;> omega⟩
  ·exact .inr ⟨h, by revert hl; split <;> split <;> omega⟩
  ·rw [h] at h'; cases h'
 have hu : ab (x + y) ≤ 340282366920938463463374607431768211455 := by rw [← es]; have := (ab_u128 hx).2; have := hy.1; omega
 have hM0 := (fun W => rminus_any (ab x) (ab y) W (ab_u128 hx) hy (by omega))
 rw [es] at hM0
 have hM := Lib.hid hM0
 have hL := Lib.hid (fun W => (decide_eq_false hl) ▸ rless_any (ab x) (ab y) W)
 have hJ := Lib.hid (fun W => join_fit (x + y) an ss ⟨by unfold ab; split <;> omega, hu⟩ W)
 clear hM0 es ss sx sy hl hu
 cases an
 all_goals
  go_enter Tryz.func124, Tryz.ntmps124
  go_wp2_with fail
  go_region
  go_wp2_with fail
  refine (hL.out _).mono ?_
  rintro e w1 ⟨rfl, hb1⟩
  obtain ⟨r1c, r1d, r1f, r1g⟩ := later2 hb1 (g := w.heap.size + 2) (u := .int .i64 0) (v := .int .u64 0) (by simp [go_sem]) (by simp [go_sem]) (by simp [go_sem]) (by simp [go_sem])
  have r1z : w.heap.size + 2 < w1.heap.size := World.block_lt_of_cell? _ _ r1c
  obtain ⟨x1c, x1d, x1f, x1g⟩ := later2 hb1 (g := w.heap.size) (u := .int .u64 (hi (ab x))) (v := .int .u64 (lo (ab x))) (by simp [go_sem]) (by simp [go_sem]) (by simp [go_sem]) (by simp [go_sem])
  have x1z : w.heap.size < w1.heap.size := World.block_lt_of_cell? _ _ x1c
  obtain ⟨y1c, y1d, y1f, y1g⟩ := later2 hb1 (g := w.heap.size + 1) (u := .int .u64 (hi (ab y))) (v := .int .u64 (lo (ab y))) (by simp [go_sem]) (by simp [go_sem]) (by simp [go_sem]) (by simp [go_sem])
  have y1z : w.heap.size + 1 < w1.heap.size := World.block_lt_of_cell? _ _ y1c
  obtain ⟨m1c, m1d, m1f, m1g⟩ := later2 hb1 (g := w.heap.size + 3) (u := .int .u64 (hi (ab x))) (v := .int .u64 (lo (ab x))) (by simp [go_sem]) (by simp [go_sem]) (by simp [go_sem]) (by simp [go_sem])
  have m1z : w.heap.size + 3 < w1.heap.size := World.block_lt_of_cell? _ _ m1c
  have b1 : Below w.heap.size w w1 := bl2 hb1 Bk.be
  have z1 := hb1.size
  try simp at z1
  clear hb1
  go_wp2_with fail
  refine (hM.out _).mono ?_
  rintro e w2 ⟨rfl, hb2⟩
  obtain ⟨r2c, r2d, r2f, r2g⟩ := later2 hb2 (g := w.heap.size + 2) (u := .int .i64 0) (v := .int .u64 0) (by simp [go_sem, *]) (by simp [go_sem, *]) (by simp [go_sem, *]) (by simp [go_sem, *])
  have r2z : w.heap.size + 2 < w2.heap.size := World.block_lt_of_cell? _ _ r2c
  obtain ⟨x2c, x2d, x2f, x2g⟩ := later2 hb2 (g := w.heap.size) (u := .int .u64 (hi (ab x))) (v := .int .u64 (lo (ab x))) (by simp [go_sem, *]) (by simp [go_sem, *]) (by simp [go_sem, *]) (by simp [go_sem, *])
  have x2z : w.heap.size < w2.heap.size := World.block_lt_of_cell? _ _ x2c
  obtain ⟨y2c, y2d, y2f, y2g⟩ := later2 hb2 (g := w.heap.size + 1) (u := .int .u64 (hi (ab y))) (v := .int .u64 (lo (ab y))) (by simp [go_sem, *]) (by simp [go_sem, *]) (by simp [go_sem, *]) (by simp [go_sem, *])
  have y2z : w.heap.size + 1 < w2.heap.size := World.block_lt_of_cell? _ _ y2c
  obtain ⟨m2c, m2d, m2f, m2g⟩ := later2 hb2 (g := w.heap.size + 3) (u := .int .u64 (hi (ab x))) (v := .int .u64 (lo (ab x))) (by simp [go_sem, *]) (by simp [go_sem, *]) (by simp [go_sem, *]) (by simp [go_sem, *])
  have m2z : w.heap.size + 3 < w2.heap.size := World.block_lt_of_cell? _ _ m2c
  have b2 : Below w.heap.size w w2 := bl2 hb2 Bk.be
  have z2 := hb2.size
  try simp at z2
  clear hb2
  clear r1c r1d r1f r1g x1c x1d x1f x1g y1c y1d y1f y1g m1c m1d m1f m1g
  go_wp2_with fail
  refine (hJ.out _).mono ?_
  rintro e w3 ⟨ja, jb, jf, rfl, hb3, hcase⟩
  obtain ⟨jc, jd, jf, jg⟩ := later2 hb3 (g := w.heap.size + 2) (u := .int .i64 0) (v := .int .u64 0) (by simp [go_sem, *]) (by simp [go_sem, *]) (by simp [go_sem, *]) (by simp [go_sem, *])
  have jz : w.heap.size + 2 < w3.heap.size := World.block_lt_of_cell? _ _ jc
  have b3 : Below w.heap.size w w3 := bl2 hb3 Bk.be
  clear hb3
  rcases hcase with ⟨rfl, h128, rfl, rfl⟩ | ⟨rfl, h128⟩
  ·have H128 := Lib.hid h128
   clear h128
   go_wp2_with fail
   simp [bodyPost, results, Tryz.results124, go_sem, jc, jd, jz]
   exact sumpost_in H128.out Bk.be
  ·have H128 := Lib.hid h128
   clear h128
   go_wp2_with fail
   simp [bodyPost, results, Tryz.results124, go_sem, jc, jd, jz]
   exact sumpost_out H128.out Bk.be

theorem rsum_any2 (an bn : Bool) (x y : Int) (w : World) (hx : I128 x) (hy : U128 (ab y)) (sx : Sgn an x) (sy : Sgn bn y) :
  Calls Tryz.prog 124 #[.bool an, .agg #[.int .u64 (hi (ab x)), .int .u64 (lo (ab x))], .bool bn, .agg #[.int .u64 (hi (ab y)), .int .u64 (lo (ab y))]] w (SumPost w (x + y)) := by
 by_cases hab : an = bn
 ·by_cases hfit : ab x + ab y ≤ maxM
  ·exact sum_w1 an bn x y w hx hy sx sy hab hfit
  ·exact sum_w2 an bn x y w hx hy sx sy hab (by omega)
 ·have hab' : bn = !an := by revert hab; cases an <;> cases bn <;> simp
  by_cases hl : ab x < ab y
  ·exact sum_w3 an bn x y w hx hy sx sy hab' hl
  ·exact sum_w4 an bn x y w hx hy sx sy hab' hl
end Go.Proofs.YtaanicginfjgdaaGreatDoor.Wt

namespace Go.Proofs.YtaanicginfjgdaaGreatDoor.Wt
open Go.RowKit
open Go.Proofs.YtaanicginfjgdaaGreatDoor
open Go.Proofs.YtaanicginfjgdaaGreatDoor.Wm

theorem sgn_of (x : Int) : Sgn (decide (x < 0)) x := by
 by_cases h : x < 0
 ·exact .inl ⟨decide_eq_true h, by omega⟩
 ·exact .inr ⟨decide_eq_false h, by omega⟩
theorem radd_any (x y : Int) (w : World) (hx : I128 x) (hy : I128 y) :
  Calls Tryz.prog 89 #[.agg #[.int .i64 (hi x), .int .u64 (lo x)], .agg #[.int .i64 (hi y), .int .u64 (lo y)]] w (SumPost w (x + y)) := by
 have hS := Lib.hid (fun W => rsum_any2 (decide (x < 0)) (decide (y < 0)) x y W hx (ab_u128 hy) (sgn_of x) (sgn_of y))
 go_enter Tryz.func89, Tryz.ntmps89
 go_wp2_with fail
 refine (rsplit_any x _ hx).mono ?_
 rintro e w1 ⟨rfl, hb1⟩
 generalize decide (x < 0) = sx at *
 obtain ⟨y1c, y1d, y1f, y1g⟩ := later2 hb1 (g := w.heap.size + 1) (u := .int .i64 (hi y)) (v := .int .u64 (lo y)) (by simp [go_sem]) (by simp [go_sem]) (by simp [go_sem]) (by simp [go_sem])
 have y1z : w.heap.size + 1 < w1.heap.size := World.block_lt_of_cell? _ _ y1c
 obtain ⟨r1c, r1d, r1f, r1g⟩ := later2 hb1 (g := w.heap.size + 2) (u := .int .i64 0) (v := .int .u64 0) (by simp [go_sem]) (by simp [go_sem]) (by simp [go_sem]) (by simp [go_sem])
 have r1z : w.heap.size + 2 < w1.heap.size := World.block_lt_of_cell? _ _ r1c
 have b1 : Below w.heap.size w w1 := bl2 hb1 Bk.be
 have z1 := hb1.size
 try simp at z1
 clear hb1
 go_wp2_with fail
 refine (rsplit_any y _ hy).mono ?_
 rintro e w2 ⟨rfl, hb2⟩
 generalize decide (y < 0) = sy at *
 obtain ⟨r2c, r2d, r2f, r2g⟩ := later2 hb2 (g := w.heap.size + 2) (u := .int .i64 0) (v := .int .u64 0) (by simp [go_sem, *]) (by simp [go_sem, *]) (by simp [go_sem, *]) (by simp [go_sem, *])
 have r2z : w.heap.size + 2 < w2.heap.size := World.block_lt_of_cell? _ _ r2c
 obtain ⟨x2c, x2d, x2f, x2g⟩ := later2 hb2 (g := w1.heap.size) (u := .int .u64 (hi (ab x))) (v := .int .u64 (lo (ab x))) (by simp [go_sem, *]) (by simp [go_sem, *]) (by simp [go_sem, *]) (by simp [go_sem, *])
 have x2z : w1.heap.size < w2.heap.size := World.block_lt_of_cell? _ _ x2c
 have b2 : Below w.heap.size w w2 := bl2 hb2 Bk.be
 have z2 := hb2.size
 try simp at z2
 clear hb2
 clear y1c y1d y1f y1g r1c r1d r1f r1g
 go_wp2_with fail
 refine (hS.out _).mono ?_
 rintro e w3 ⟨rfl, hb3⟩
 obtain ⟨r3c, r3d, r3f, r3g⟩ := later2 hb3 (g := w.heap.size + 2) (u := .int .i64 0) (v := .int .u64 0) (by simp [go_sem, *]) (by simp [go_sem, *]) (by simp [go_sem, *]) (by simp [go_sem, *])
 have r3z : w.heap.size + 2 < w3.heap.size := World.block_lt_of_cell? _ _ r3c
 have b3 : Below w.heap.size w w3 := bl2 hb3 Bk.be
 clear hb3 r2c r2d r2f r2g x2c x2d x2f x2g
 go_wp2_with fail
 simp [bodyPost, results, Tryz.results89, go_sem, r3c, r3d]
 exact ⟨rfl, Bk.be⟩

end Go.Proofs.YtaanicginfjgdaaGreatDoor.Wt
