/-
 The contract of the reference's times: a magnitude is doubled bit by bit; the product, or false.
 The contracts of the reference's Scale and Mul: the product, or zero and the error.
-/
import Derived.Test.YtaanicginfjgdaaGreatDoorRa
import Derived.Laws.BitsAllLaws
import Derived.Deep.RegionWith
namespace Go.Proofs.YtaanicginfjgdaaGreatDoor.Wt
open Go.RowKit
open Go.Proofs.YtaanicginfjgdaaGreatDoor
open Go.Proofs.YtaanicginfjgdaaGreatDoor.Wm

theorem top0 {x : Int} (h0 : 0 ≤ x) (h : x < 9223372036854775808) : (bits .and .u64 x 9223372036854775808 != 0) = false := by
 rw [u64_and x 9223372036854775808 h0 (by omega) (by omega) (by omega)]
 rw [show (9223372036854775808 : Int).toNat = 9223372036854775808 from rfl, nat_bit63]
 simp; omega
theorem top1 {x : Int} (h : 9223372036854775808 ≤ x) (h1 : x < 18446744073709551616) : (bits .and .u64 x 9223372036854775808 != 0) = true := by
 rw [u64_and x 9223372036854775808 (by omega) h1 (by omega) (by omega)]
 rw [show (9223372036854775808 : Int).toNat = 9223372036854775808 from rfl, nat_bit63]
 simp; omega

def maxM : Int := 340282366920938463463374607431768211455
structure TimesRel (m n : Int) (k : Nat) (p x o : Int) (fb : Bool) : Prop where
 le : k ≤ 64
 eq : p * 18446744073709551616 + x = n * 2 ^ k
 p0 : 0 ≤ p
 xw : U64 x
 om : U128 o
 fits : fb = decide (m * p ≤ maxM)
 prod : fb = true → o = m * p
theorem TimesRel.start (m n : Int) (hn : U64 n) : TimesRel m n 0 0 n 0 true :=
 ⟨by omega, by omega, by omega, hn, by unfold U128; omega, by rw [Int.mul_zero]; decide, fun _ => by rw [Int.mul_zero]⟩
theorem pow_step (n : Int) (k : Nat) : n * 2 ^ (k + 1) = 2 * (n * 2 ^ k) := by
 rw [Int.pow_succ, ← Int.mul_assoc, Int.mul_comm]
section
variable {m n p x o : Int} {k : Nat} {fb : Bool}
theorem TimesRel.end_ (h : TimesRel m n 64 p x o fb) : p = n := by
 have e := h.eq
 have := h.xw
 unfold U64 at this
 rw [show (2 : Int) ^ 64 = 18446744073709551616 from rfl] at e
 omega
theorem TimesRel.even (h : TimesRel m n k p x o true) (hk : k < 64) (hx : x < 9223372036854775808) (hf : o + o ≤ maxM) : TimesRel m n (k + 1) (2 * p) (IntKind.u64.wrap (x * 2)) (o + o) true := by
 have ho := h.prod rfl
 have e : m * (2 * p) = o + o := by rw [ho, Int.mul_left_comm]; omega
 refine ⟨by omega, ?_, by have := h.p0; omega, wrap_bd _, ⟨by have := h.om.1; omega, hf⟩, ?_, fun _ => e.symm⟩
 ·have := h.eq; have := h.xw.1; rw [pow_step, IntKind.wrap_u64]; omega
 ·rw [e]; exact (decide_eq_true hf).symm
theorem TimesRel.odd (h : TimesRel m n k p x o true) (hk : k < 64) (hx : 9223372036854775808 ≤ x) (hf : o + o + m ≤ maxM) (hm : 0 ≤ m) : TimesRel m n (k + 1) (2 * p + 1) (IntKind.u64.wrap (x * 2)) (o + o + m) true := by
 have ho := h.prod rfl
 have e : m * (2 * p + 1) = o + o + m := by rw [Int.mul_add, Int.mul_one, ho, Int.mul_left_comm]; omega
 refine ⟨by omega, ?_, by have := h.p0; omega, wrap_bd _, ⟨by have := h.om.1; omega, hf⟩, ?_, fun _ => e.symm⟩
 ·have := h.eq; have := h.xw.2; rw [pow_step, IntKind.wrap_u64]; omega
 ·rw [e]; exact (decide_eq_true hf).symm
theorem TimesRel.over (h : TimesRel m n k p x o true) (hk : k < 64) (hm : 0 ≤ m) {o' : Int} (ho' : U128 o') (hf : maxM < o + o ∨ (9223372036854775808 ≤ x ∧ maxM < o + o + m)) :
  TimesRel m n (k + 1) (if 9223372036854775808 ≤ x then 2 * p + 1 else 2 * p) (IntKind.u64.wrap (x * 2)) o' false := by
 have ho := h.prod rfl
 have e : m * (2 * p) = o + o := by rw [ho, Int.mul_left_comm]; omega
 have e2 : m * (2 * p + 1) = o + o + m := by rw [Int.mul_add, Int.mul_one, e]
 have := h.eq; have := h.xw; have := h.p0
 unfold U64 at *
 by_cases hb : 9223372036854775808 ≤ x
 ·rw [if_pos hb]
  refine ⟨by omega, by rw [pow_step, IntKind.wrap_u64]; omega, by omega, wrap_bd _, ho', ?_, fun e => by cases e⟩
  rw [e2]; exact (decide_eq_false (by omega)).symm
 ·rw [if_neg hb]
  refine ⟨by omega, by rw [pow_step, IntKind.wrap_u64]; omega, by omega, wrap_bd _, ho', ?_, fun e => by cases e⟩
  rw [e]; exact (decide_eq_false (by omega)).symm
theorem TimesRel.lost (h : TimesRel m n k p x o false) (hk : k < 64) (hm : 0 ≤ m) {o' : Int} (ho' : U128 o') :
  TimesRel m n (k + 1) (if 9223372036854775808 ≤ x then 2 * p + 1 else 2 * p) (IntKind.u64.wrap (x * 2)) o' false := by
 have hf := of_decide_eq_false h.fits.symm
 have := h.eq; have := h.xw; have hp := h.p0
 have h1 : 0 ≤ m * p := Int.mul_nonneg hm hp
 have e : m * (2 * p) = 2 * (m * p) := by rw [Int.mul_left_comm]
 have e2 : m * (2 * p + 1) = 2 * (m * p) + m := by rw [Int.mul_add, Int.mul_one, e]
 unfold U64 at *
 by_cases hb : 9223372036854775808 ≤ x
 ·rw [if_pos hb]
  refine ⟨by omega, by rw [pow_step, IntKind.wrap_u64]; omega, by omega, wrap_bd _, ho', ?_, fun e => by cases e⟩
  rw [e2]; exact (decide_eq_false (by omega)).symm
 ·rw [if_neg hb]
  refine ⟨by omega, by rw [pow_step, IntKind.wrap_u64]; omega, by omega, wrap_bd _, ho', ?_, fun e => by cases e⟩
  rw [e]; exact (decide_eq_false (by omega)).symm
end

def Two (W : World) (g : Nat) (u v : Value) : Prop := W.cell? ⟨g, 0, none⟩ = some u ∧ W.cell? ⟨g, 1, none⟩ = some v ∧ W.frozen? ⟨g, 0, none⟩ = false ∧ W.frozen? ⟨g, 1, none⟩ = false
def TimesLoop (w : World) (m n : Int) (vx vf vi : Value) (wr : World) : Prop := ∃ (k : Nat) (p x o : Int) (fb : Bool), TimesRel m n k p x o fb ∧ vx = .int .u64 x ∧ vf = .bool fb ∧ vi = .int .i64 k ∧
 Two wr w.heap.size (.int .u64 (hi m)) (.int .u64 (lo m)) ∧ Two wr (w.heap.size + 1) (.int .u64 0) (.int .u64 0) ∧ Two wr (w.heap.size + 2) (.int .u64 (hi o)) (.int .u64 (lo o)) ∧ Below w.heap.size w wr

def NoMag (w : World) (e : Ending) (w' : World) : Prop := ∃ o : Int, U128 o ∧ e = .returned (.tuple #[.agg #[.int .u64 (hi o), .int .u64 (lo o)], .bool false]) ∧ Below w.heap.size w w'
theorem rplus_nom (a b : Int) (w : World) (ha : U128 a) (hb : U128 b) (h : maxM < a + b) :
  Calls Tryz.prog 122 #[.agg #[.int .u64 (hi a), .int .u64 (lo a)], .agg #[.int .u64 (hi b), .int .u64 (lo b)]] w (NoMag w) :=
 (rplus_no a b w ha hb h).mono fun _ _ ⟨x, y, he, hx, hy, hb'⟩ => ⟨val x y, val_bdu hx hy, by rw [hi_val hy, lo_val hy]; exact he, hb'⟩

def TimesPost (w : World) (m n : Int) (e : Ending) (w' : World) : Prop := ∃ o : Int, U128 o ∧ e = .returned (.tuple #[.agg #[.int .u64 (hi o), .int .u64 (lo o)], .bool (decide (m * n ≤ maxM))]) ∧ (m * n ≤ maxM → o = m * n) ∧ Below w.heap.size w w'

set_option maxHeartbeats 4000000 in
theorem rtimes_any (m n : Int) (w : World) (hm : U128 m) (hn : U64 n) :
  Calls Tryz.prog 125 #[.agg #[.int .u64 (hi m), .int .u64 (lo m)], .int .u64 n] w (TimesPost w m n) := by
 go_enter Tryz.func125, Tryz.ntmps125
 go_wp2_with fail
 go_loopw [1, 7, 8] (TimesLoop w m n) (fun _ _ i _ => (64 - intOf i).toNat)
 case atStart => exact ⟨0, 0, n, 0, true, TimesRel.start m n hn, rfl, rfl, rfl, ⟨by simp [go_sem], by simp [go_sem], by simp [go_sem], by simp [go_sem]⟩, ⟨by simp [go_sem], by simp [go_sem], by simp [go_sem], by simp [go_sem]⟩, ⟨by simp [go_sem, hi_0], by simp [go_sem, lo_0], by simp [go_sem], by simp [go_sem]⟩, Bk.be⟩
 case round =>
  obtain ⟨k, p, x, o, fb, hr, rfl, rfl, rfl, ⟨m1, m2, m3, m4⟩, ⟨r1, r2, r3, r4⟩, ⟨o1, o2, o3, o4⟩, hbe⟩ := hrel
  have HR := Lib.hid hr
  have hk64 := hr.le
  have hxw := hr.xw
  have hom := hr.om
  clear hr
  have sz2 : w.heap.size + 2 < wr.heap.size := World.block_lt_of_cell? _ _ o1
  by_cases hlt : k < 64
  ·by_cases hx : x < 9223372036854775808
   ·have t1 := top0 hxw.1 hx
    cases fb
    ·go_wp2_with fail
     refine (rplus_some _ _ _ hom hom).mono ?_
     rintro e w1 ⟨q, f, hq, rfl, hb1⟩
     obtain ⟨m1c, m1d, m1f, m1g⟩ := later2 hb1 (g := w.heap.size) (u := .int .u64 (hi m)) (v := .int .u64 (lo m)) (by simp [go_sem, *]) (by simp [go_sem, *]) (by simp [go_sem, *]) (by simp [go_sem, *])
     have m1z : w.heap.size < w1.heap.size := World.block_lt_of_cell? _ _ m1c
     obtain ⟨r1c, r1d, r1f, r1g⟩ := later2 hb1 (g := w.heap.size + 1) (u := .int .u64 0) (v := .int .u64 0) (by simp [go_sem, *]) (by simp [go_sem, *]) (by simp [go_sem, *]) (by simp [go_sem, *])
     have r1z : w.heap.size + 1 < w1.heap.size := World.block_lt_of_cell? _ _ r1c
     obtain ⟨o1c, o1d, o1f, o1g⟩ := later2 hb1 (g := w.heap.size + 2) (u := .int .u64 (hi o)) (v := .int .u64 (lo o)) (by simp [go_sem, *]) (by simp [go_sem, *]) (by simp [go_sem, *]) (by simp [go_sem, *])
     have o1z : w.heap.size + 2 < w1.heap.size := World.block_lt_of_cell? _ _ o1c
     have b1 : Below w.heap.size w w1 := bl2 hb1 hbe
     clear hb1 m1 m2 m3 m4 r1 r2 r3 r4 o1 o2 o3 o4
     go_wp2_with fail
     go_roundw
     case rel =>
      refine ⟨k + 1, _, _, q, _, HR.out.lost hlt hm.1 hq, rfl, rfl, by go_num, ⟨?_, ?_, ?_, ?_⟩, ⟨?_, ?_, ?_, ?_⟩, ⟨?_, ?_, ?_, ?_⟩, ?_⟩
      all_goals (first | (simp [go_sem, *]; done) | exact Bk.be)
     case measure => simp [intOf]; omega
    ·by_cases h1 : o + o ≤ maxM
     ·go_wp2_with fail
      refine (rplus_yes _ _ _ hom hom h1).mono ?_
      rintro e w1 ⟨rfl, hb1⟩
      obtain ⟨m1c, m1d, m1f, m1g⟩ := later2 hb1 (g := w.heap.size) (u := .int .u64 (hi m)) (v := .int .u64 (lo m)) (by simp [go_sem, *]) (by simp [go_sem, *]) (by simp [go_sem, *]) (by simp [go_sem, *])
      have m1z : w.heap.size < w1.heap.size := World.block_lt_of_cell? _ _ m1c
      obtain ⟨r1c, r1d, r1f, r1g⟩ := later2 hb1 (g := w.heap.size + 1) (u := .int .u64 0) (v := .int .u64 0) (by simp [go_sem, *]) (by simp [go_sem, *]) (by simp [go_sem, *]) (by simp [go_sem, *])
      have r1z : w.heap.size + 1 < w1.heap.size := World.block_lt_of_cell? _ _ r1c
      obtain ⟨o1c, o1d, o1f, o1g⟩ := later2 hb1 (g := w.heap.size + 2) (u := .int .u64 (hi o)) (v := .int .u64 (lo o)) (by simp [go_sem, *]) (by simp [go_sem, *]) (by simp [go_sem, *]) (by simp [go_sem, *])
      have o1z : w.heap.size + 2 < w1.heap.size := World.block_lt_of_cell? _ _ o1c
      have b1 : Below w.heap.size w w1 := bl2 hb1 hbe
      clear hb1 m1 m2 m3 m4 r1 r2 r3 r4 o1 o2 o3 o4
      go_wp2_with fail
      go_roundw
      case rel =>
       refine ⟨k + 1, _, _, (o + o), _, HR.out.even hlt hx h1, rfl, rfl, by go_num, ⟨?_, ?_, ?_, ?_⟩, ⟨?_, ?_, ?_, ?_⟩, ⟨?_, ?_, ?_, ?_⟩, ?_⟩
       all_goals (first | (simp [go_sem, *]; done) | exact Bk.be)
      case measure => simp [intOf]; omega
     ·have h1 : maxM < o + o := by omega
      go_wp2_with fail
      refine (rplus_nom _ _ _ hom hom h1).mono ?_
      rintro e w1 ⟨q, hq, rfl, hb1⟩
      obtain ⟨m1c, m1d, m1f, m1g⟩ := later2 hb1 (g := w.heap.size) (u := .int .u64 (hi m)) (v := .int .u64 (lo m)) (by simp [go_sem, *]) (by simp [go_sem, *]) (by simp [go_sem, *]) (by simp [go_sem, *])
      have m1z : w.heap.size < w1.heap.size := World.block_lt_of_cell? _ _ m1c
      obtain ⟨r1c, r1d, r1f, r1g⟩ := later2 hb1 (g := w.heap.size + 1) (u := .int .u64 0) (v := .int .u64 0) (by simp [go_sem, *]) (by simp [go_sem, *]) (by simp [go_sem, *]) (by simp [go_sem, *])
      have r1z : w.heap.size + 1 < w1.heap.size := World.block_lt_of_cell? _ _ r1c
      obtain ⟨o1c, o1d, o1f, o1g⟩ := later2 hb1 (g := w.heap.size + 2) (u := .int .u64 (hi o)) (v := .int .u64 (lo o)) (by simp [go_sem, *]) (by simp [go_sem, *]) (by simp [go_sem, *]) (by simp [go_sem, *])
      have o1z : w.heap.size + 2 < w1.heap.size := World.block_lt_of_cell? _ _ o1c
      have b1 : Below w.heap.size w w1 := bl2 hb1 hbe
      clear hb1 m1 m2 m3 m4 r1 r2 r3 r4 o1 o2 o3 o4
      go_wp2_with fail
      go_roundw
      case rel =>
       refine ⟨k + 1, _, _, q, _, HR.out.over hlt hm.1 hq (.inl h1), rfl, rfl, by go_num, ⟨?_, ?_, ?_, ?_⟩, ⟨?_, ?_, ?_, ?_⟩, ⟨?_, ?_, ?_, ?_⟩, ?_⟩
       all_goals (first | (simp [go_sem, *]; done) | exact Bk.be)
      case measure => simp [intOf]; omega
   ·have hx : 9223372036854775808 ≤ x := by omega
    have t1 := top1 hx hxw.2
    cases fb
    ·go_wp2_with fail
     refine (rplus_some _ _ _ hom hom).mono ?_
     rintro e w1 ⟨q, f, hq, rfl, hb1⟩
     obtain ⟨m1c, m1d, m1f, m1g⟩ := later2 hb1 (g := w.heap.size) (u := .int .u64 (hi m)) (v := .int .u64 (lo m)) (by simp [go_sem, *]) (by simp [go_sem, *]) (by simp [go_sem, *]) (by simp [go_sem, *])
     have m1z : w.heap.size < w1.heap.size := World.block_lt_of_cell? _ _ m1c
     obtain ⟨r1c, r1d, r1f, r1g⟩ := later2 hb1 (g := w.heap.size + 1) (u := .int .u64 0) (v := .int .u64 0) (by simp [go_sem, *]) (by simp [go_sem, *]) (by simp [go_sem, *]) (by simp [go_sem, *])
     have r1z : w.heap.size + 1 < w1.heap.size := World.block_lt_of_cell? _ _ r1c
     obtain ⟨o1c, o1d, o1f, o1g⟩ := later2 hb1 (g := w.heap.size + 2) (u := .int .u64 (hi o)) (v := .int .u64 (lo o)) (by simp [go_sem, *]) (by simp [go_sem, *]) (by simp [go_sem, *]) (by simp [go_sem, *])
     have o1z : w.heap.size + 2 < w1.heap.size := World.block_lt_of_cell? _ _ o1c
     have b1 : Below w.heap.size w w1 := bl2 hb1 hbe
     clear hb1 m1 m2 m3 m4 r1 r2 r3 r4 o1 o2 o3 o4
     go_wp2_with fail
     refine (rplus_some _ _ _ hq hm).mono ?_
     rintro e w2 ⟨r, g, hr, rfl, hb2⟩
     obtain ⟨m2c, m2d, m2f, m2g⟩ := later2 hb2 (g := w.heap.size) (u := .int .u64 (hi m)) (v := .int .u64 (lo m)) (by simp [go_sem, *]) (by simp [go_sem, *]) (by simp [go_sem, *]) (by simp [go_sem, *])
     have m2z : w.heap.size < w2.heap.size := World.block_lt_of_cell? _ _ m2c
     obtain ⟨r2c, r2d, r2f, r2g⟩ := later2 hb2 (g := w.heap.size + 1) (u := .int .u64 0) (v := .int .u64 0) (by simp [go_sem, *]) (by simp [go_sem, *]) (by simp [go_sem, *]) (by simp [go_sem, *])
     have r2z : w.heap.size + 1 < w2.heap.size := World.block_lt_of_cell? _ _ r2c
     obtain ⟨o2c, o2d, o2f, o2g⟩ := later2 hb2 (g := w.heap.size + 2) (u := .int .u64 (hi q)) (v := .int .u64 (lo q)) (by simp [go_sem, *]) (by simp [go_sem, *]) (by simp [go_sem, *]) (by simp [go_sem, *])
     have o2z : w.heap.size + 2 < w2.heap.size := World.block_lt_of_cell? _ _ o2c
     obtain ⟨n2c, n2d, n2f, n2g⟩ := later2 hb2 (g := w1.heap.size) (u := .int .u64 (hi q)) (v := .int .u64 (lo q)) (by simp [go_sem, *]) (by simp [go_sem, *]) (by simp [go_sem, *]) (by simp [go_sem, *])
     have n2z : w1.heap.size < w2.heap.size := World.block_lt_of_cell? _ _ n2c
     have b2 : Below w.heap.size w w2 := bl2 hb2 Bk.be
     clear hb2 m1c m1d m1f m1g r1c r1d r1f r1g o1c o1d o1f o1g
     go_wp2_with fail
     go_roundw
     case rel =>
      refine ⟨k + 1, _, _, r, _, HR.out.lost hlt hm.1 hr, rfl, rfl, by go_num, ⟨?_, ?_, ?_, ?_⟩, ⟨?_, ?_, ?_, ?_⟩, ⟨?_, ?_, ?_, ?_⟩, ?_⟩
      all_goals (first | (simp [go_sem, *]; done) | exact Bk.be)
     case measure => simp [intOf]; omega
    ·by_cases h1 : o + o ≤ maxM
     ·have h2o : U128 (o + o) := ⟨by have := hom.1; omega, h1⟩
      by_cases h3 : o + o + m ≤ maxM
      ·go_wp2_with fail
       refine (rplus_yes _ _ _ hom hom h1).mono ?_
       rintro e w1 ⟨rfl, hb1⟩
       obtain ⟨m1c, m1d, m1f, m1g⟩ := later2 hb1 (g := w.heap.size) (u := .int .u64 (hi m)) (v := .int .u64 (lo m)) (by simp [go_sem, *]) (by simp [go_sem, *]) (by simp [go_sem, *]) (by simp [go_sem, *])
       have m1z : w.heap.size < w1.heap.size := World.block_lt_of_cell? _ _ m1c
       obtain ⟨r1c, r1d, r1f, r1g⟩ := later2 hb1 (g := w.heap.size + 1) (u := .int .u64 0) (v := .int .u64 0) (by simp [go_sem, *]) (by simp [go_sem, *]) (by simp [go_sem, *]) (by simp [go_sem, *])
       have r1z : w.heap.size + 1 < w1.heap.size := World.block_lt_of_cell? _ _ r1c
       obtain ⟨o1c, o1d, o1f, o1g⟩ := later2 hb1 (g := w.heap.size + 2) (u := .int .u64 (hi o)) (v := .int .u64 (lo o)) (by simp [go_sem, *]) (by simp [go_sem, *]) (by simp [go_sem, *]) (by simp [go_sem, *])
       have o1z : w.heap.size + 2 < w1.heap.size := World.block_lt_of_cell? _ _ o1c
       have b1 : Below w.heap.size w w1 := bl2 hb1 hbe
       clear hb1 m1 m2 m3 m4 r1 r2 r3 r4 o1 o2 o3 o4
       go_wp2_with fail
       refine (rplus_yes _ _ _ h2o hm h3).mono ?_
       rintro e w2 ⟨rfl, hb2⟩
       obtain ⟨m2c, m2d, m2f, m2g⟩ := later2 hb2 (g := w.heap.size) (u := .int .u64 (hi m)) (v := .int .u64 (lo m)) (by simp [go_sem, *]) (by simp [go_sem, *]) (by simp [go_sem, *]) (by simp [go_sem, *])
       have m2z : w.heap.size < w2.heap.size := World.block_lt_of_cell? _ _ m2c
       obtain ⟨r2c, r2d, r2f, r2g⟩ := later2 hb2 (g := w.heap.size + 1) (u := .int .u64 0) (v := .int .u64 0) (by simp [go_sem, *]) (by simp [go_sem, *]) (by simp [go_sem, *]) (by simp [go_sem, *])
       have r2z : w.heap.size + 1 < w2.heap.size := World.block_lt_of_cell? _ _ r2c
       obtain ⟨o2c, o2d, o2f, o2g⟩ := later2 hb2 (g := w.heap.size + 2) (u := .int .u64 (hi (o + o))) (v := .int .u64 (lo (o + o))) (by simp [go_sem, *]) (by simp [go_sem, *]) (by simp [go_sem, *]) (by simp [go_sem, *])
       have o2z : w.heap.size + 2 < w2.heap.size := World.block_lt_of_cell? _ _ o2c
       obtain ⟨n2c, n2d, n2f, n2g⟩ := later2 hb2 (g := w1.heap.size) (u := .int .u64 (hi (o + o))) (v := .int .u64 (lo (o + o))) (by simp [go_sem, *]) (by simp [go_sem, *]) (by simp [go_sem, *]) (by simp [go_sem, *])
       have n2z : w1.heap.size < w2.heap.size := World.block_lt_of_cell? _ _ n2c
       have b2 : Below w.heap.size w w2 := bl2 hb2 Bk.be
       clear hb2 m1c m1d m1f m1g r1c r1d r1f r1g o1c o1d o1f o1g
       go_wp2_with fail
       go_roundw
       case rel =>
        refine ⟨k + 1, _, _, (o + o + m), _, HR.out.odd hlt hx h3 hm.1, rfl, rfl, by go_num, ⟨?_, ?_, ?_, ?_⟩, ⟨?_, ?_, ?_, ?_⟩, ⟨?_, ?_, ?_, ?_⟩, ?_⟩
        all_goals (first | (simp [go_sem, *]; done) | exact Bk.be)
       case measure => simp [intOf]; omega
      ·have h3 : maxM < o + o + m := by omega
       go_wp2_with fail
       refine (rplus_yes _ _ _ hom hom h1).mono ?_
       rintro e w1 ⟨rfl, hb1⟩
       obtain ⟨m1c, m1d, m1f, m1g⟩ := later2 hb1 (g := w.heap.size) (u := .int .u64 (hi m)) (v := .int .u64 (lo m)) (by simp [go_sem, *]) (by simp [go_sem, *]) (by simp [go_sem, *]) (by simp [go_sem, *])
       have m1z : w.heap.size < w1.heap.size := World.block_lt_of_cell? _ _ m1c
       obtain ⟨r1c, r1d, r1f, r1g⟩ := later2 hb1 (g := w.heap.size + 1) (u := .int .u64 0) (v := .int .u64 0) (by simp [go_sem, *]) (by simp [go_sem, *]) (by simp [go_sem, *]) (by simp [go_sem, *])
       have r1z : w.heap.size + 1 < w1.heap.size := World.block_lt_of_cell? _ _ r1c
       obtain ⟨o1c, o1d, o1f, o1g⟩ := later2 hb1 (g := w.heap.size + 2) (u := .int .u64 (hi o)) (v := .int .u64 (lo o)) (by simp [go_sem, *]) (by simp [go_sem, *]) (by simp [go_sem, *]) (by simp [go_sem, *])
       have o1z : w.heap.size + 2 < w1.heap.size := World.block_lt_of_cell? _ _ o1c
       have b1 : Below w.heap.size w w1 := bl2 hb1 hbe
       clear hb1 m1 m2 m3 m4 r1 r2 r3 r4 o1 o2 o3 o4
       go_wp2_with fail
       refine (rplus_nom _ _ _ h2o hm h3).mono ?_
       rintro e w2 ⟨r, hr, rfl, hb2⟩
       obtain ⟨m2c, m2d, m2f, m2g⟩ := later2 hb2 (g := w.heap.size) (u := .int .u64 (hi m)) (v := .int .u64 (lo m)) (by simp [go_sem, *]) (by simp [go_sem, *]) (by simp [go_sem, *]) (by simp [go_sem, *])
       have m2z : w.heap.size < w2.heap.size := World.block_lt_of_cell? _ _ m2c
       obtain ⟨r2c, r2d, r2f, r2g⟩ := later2 hb2 (g := w.heap.size + 1) (u := .int .u64 0) (v := .int .u64 0) (by simp [go_sem, *]) (by simp [go_sem, *]) (by simp [go_sem, *]) (by simp [go_sem, *])
       have r2z : w.heap.size + 1 < w2.heap.size := World.block_lt_of_cell? _ _ r2c
       obtain ⟨o2c, o2d, o2f, o2g⟩ := later2 hb2 (g := w.heap.size + 2) (u := .int .u64 (hi (o + o))) (v := .int .u64 (lo (o + o))) (by simp [go_sem, *]) (by simp [go_sem, *]) (by simp [go_sem, *]) (by simp [go_sem, *])
       have o2z : w.heap.size + 2 < w2.heap.size := World.block_lt_of_cell? _ _ o2c
       obtain ⟨n2c, n2d, n2f, n2g⟩ := later2 hb2 (g := w1.heap.size) (u := .int .u64 (hi (o + o))) (v := .int .u64 (lo (o + o))) (by simp [go_sem, *]) (by simp [go_sem, *]) (by simp [go_sem, *]) (by simp [go_sem, *])
       have n2z : w1.heap.size < w2.heap.size := World.block_lt_of_cell? _ _ n2c
       have b2 : Below w.heap.size w w2 := bl2 hb2 Bk.be
       clear hb2 m1c m1d m1f m1g r1c r1d r1f r1g o1c o1d o1f o1g
       go_wp2_with fail
       go_roundw
       case rel =>
        refine ⟨k + 1, _, _, r, _, HR.out.over hlt hm.1 hr (.inr ⟨hx, h3⟩), rfl, rfl, by go_num, ⟨?_, ?_, ?_, ?_⟩, ⟨?_, ?_, ?_, ?_⟩, ⟨?_, ?_, ?_, ?_⟩, ?_⟩
        all_goals (first | (simp [go_sem, *]; done) | exact Bk.be)
       case measure => simp [intOf]; omega
     ·have h1 : maxM < o + o := by omega
      go_wp2_with fail
      refine (rplus_nom _ _ _ hom hom h1).mono ?_
      rintro e w1 ⟨q, hq, rfl, hb1⟩
      obtain ⟨m1c, m1d, m1f, m1g⟩ := later2 hb1 (g := w.heap.size) (u := .int .u64 (hi m)) (v := .int .u64 (lo m)) (by simp [go_sem, *]) (by simp [go_sem, *]) (by simp [go_sem, *]) (by simp [go_sem, *])
      have m1z : w.heap.size < w1.heap.size := World.block_lt_of_cell? _ _ m1c
      obtain ⟨r1c, r1d, r1f, r1g⟩ := later2 hb1 (g := w.heap.size + 1) (u := .int .u64 0) (v := .int .u64 0) (by simp [go_sem, *]) (by simp [go_sem, *]) (by simp [go_sem, *]) (by simp [go_sem, *])
      have r1z : w.heap.size + 1 < w1.heap.size := World.block_lt_of_cell? _ _ r1c
      obtain ⟨o1c, o1d, o1f, o1g⟩ := later2 hb1 (g := w.heap.size + 2) (u := .int .u64 (hi o)) (v := .int .u64 (lo o)) (by simp [go_sem, *]) (by simp [go_sem, *]) (by simp [go_sem, *]) (by simp [go_sem, *])
      have o1z : w.heap.size + 2 < w1.heap.size := World.block_lt_of_cell? _ _ o1c
      have b1 : Below w.heap.size w w1 := bl2 hb1 hbe
      clear hb1 m1 m2 m3 m4 r1 r2 r3 r4 o1 o2 o3 o4
      go_wp2_with fail
      refine (rplus_some _ _ _ hq hm).mono ?_
      rintro e w2 ⟨r, g, hr, rfl, hb2⟩
      obtain ⟨m2c, m2d, m2f, m2g⟩ := later2 hb2 (g := w.heap.size) (u := .int .u64 (hi m)) (v := .int .u64 (lo m)) (by simp [go_sem, *]) (by simp [go_sem, *]) (by simp [go_sem, *]) (by simp [go_sem, *])
      have m2z : w.heap.size < w2.heap.size := World.block_lt_of_cell? _ _ m2c
      obtain ⟨r2c, r2d, r2f, r2g⟩ := later2 hb2 (g := w.heap.size + 1) (u := .int .u64 0) (v := .int .u64 0) (by simp [go_sem, *]) (by simp [go_sem, *]) (by simp [go_sem, *]) (by simp [go_sem, *])
      have r2z : w.heap.size + 1 < w2.heap.size := World.block_lt_of_cell? _ _ r2c
      obtain ⟨o2c, o2d, o2f, o2g⟩ := later2 hb2 (g := w.heap.size + 2) (u := .int .u64 (hi q)) (v := .int .u64 (lo q)) (by simp [go_sem, *]) (by simp [go_sem, *]) (by simp [go_sem, *]) (by simp [go_sem, *])
      have o2z : w.heap.size + 2 < w2.heap.size := World.block_lt_of_cell? _ _ o2c
      obtain ⟨n2c, n2d, n2f, n2g⟩ := later2 hb2 (g := w1.heap.size) (u := .int .u64 (hi q)) (v := .int .u64 (lo q)) (by simp [go_sem, *]) (by simp [go_sem, *]) (by simp [go_sem, *]) (by simp [go_sem, *])
      have n2z : w1.heap.size < w2.heap.size := World.block_lt_of_cell? _ _ n2c
      have b2 : Below w.heap.size w w2 := bl2 hb2 Bk.be
      clear hb2 m1c m1d m1f m1g r1c r1d r1f r1g o1c o1d o1f o1g
      go_wp2_with fail
      go_roundw
      case rel =>
       refine ⟨k + 1, _, _, r, _, HR.out.over hlt hm.1 hr (.inl h1), rfl, rfl, by go_num, ⟨?_, ?_, ?_, ?_⟩, ⟨?_, ?_, ?_, ?_⟩, ⟨?_, ?_, ?_, ?_⟩, ?_⟩
       all_goals (first | (simp [go_sem, *]; done) | exact Bk.be)
      case measure => simp [intOf]; omega
  ·have hk : k = 64 := by omega
   subst hk
   have e : p = n := HR.out.end_
   subst e
   have hfb := Lib.hid HR.out.fits
   have hpr := Lib.hid HR.out.prod
   clear hlt
   go_wp2_with fail
   simp [bodyPost, results, Tryz.results125, go_sem, r1, r2]
   exact ⟨o, hom, by rw [hfb.out], fun h => hpr.out (by rw [hfb.out]; exact decide_eq_true h), Bk.be⟩
end Go.Proofs.YtaanicginfjgdaaGreatDoor.Wt

namespace Go.Proofs.YtaanicginfjgdaaGreatDoor.Wt
open Go.RowKit
open Go.Proofs.YtaanicginfjgdaaGreatDoor
open Go.Proofs.YtaanicginfjgdaaGreatDoor.Wm

theorem join_of (x : Int) (neg : Bool) (w : World) (hx : I128 x) (hneg : neg = decide (x < 0) ∨ x = 0) :
  Calls Tryz.prog 123 #[.bool neg, .agg #[.int .u64 (hi (ab x)), .int .u64 (lo (ab x))]] w fun e w' => e = .returned (.tuple #[.agg #[.int .i64 (hi x), .int .u64 (lo x)], .bool true]) ∧ Below w.heap.size w w' := by
 unfold I128 at hx
 cases neg
 ·have h0 : 0 ≤ x := by
   rcases hneg with h | h
   ·have := of_decide_eq_false h.symm; omega
   ·omega
  rw [ab_pos h0]
  exact join_pos x w h0 (by omega)
 ·have h0 : x ≤ 0 := by
   rcases hneg with h | h
   ·have := of_decide_eq_true h.symm; omega
   ·omega
  have e : ab x = -x := by unfold ab; split <;> omega
  rw [e]
  by_cases g : x = -170141183460469231731687303715884105728
  ·rw [g, Int.neg_neg, hi_2127, lo_2127, hi_n2127, lo_n2127]
   exact join_low w
  ·have := join_neg (-x) w (by omega) (by omega)
   rw [Int.neg_neg] at this
   exact this
theorem join_not (x : Int) (neg : Bool) (w : World) (hx : ¬ I128 x) (hu : U128 (ab x)) (hneg : neg = decide (x < 0)) :
  Calls Tryz.prog 123 #[.bool neg, .agg #[.int .u64 (hi (ab x)), .int .u64 (lo (ab x))]] w (NoJoin w) := by
 unfold I128 at hx
 cases neg
 ·have h0 := of_decide_eq_false hneg.symm
  have e : ab x = x := ab_pos (by omega)
  rw [e] at hu ⊢
  exact join_pos_no x w hu (by omega)
 ·have h0 := of_decide_eq_true hneg.symm
  have e : ab x = -x := ab_neg h0
  rw [e] at hu ⊢
  by_cases g : 9223372036854775808 < hi (-x)
  ·exact join_neg_no1 _ _ w g
  ·have e1 : hi (-x) = 9223372036854775808 := by unfold hi at g ⊢; omega
   have e2 : 0 < lo (-x) := by unfold lo; unfold hi at g; omega
   rw [e1]
   exact join_neg_no2 _ w e2
def SomeJoin (w : World) (e : Ending) (w' : World) : Prop := ∃ (a b : Int) (f : Bool), e = .returned (.tuple #[.agg #[.int .i64 a, .int .u64 b], .bool f]) ∧ Below w.heap.size w w'
theorem join_some (m : Int) (neg : Bool) (w : World) (hu : U128 m) :
  Calls Tryz.prog 123 #[.bool neg, .agg #[.int .u64 (hi m), .int .u64 (lo m)]] w (SomeJoin w) := by
 cases neg
 ·by_cases h : m ≤ 170141183460469231731687303715884105727
  ·exact (join_pos m w hu.1 h).mono fun _ _ ⟨he, hb⟩ => ⟨_, _, _, he, hb⟩
  ·exact (join_pos_no m w hu (by omega)).mono fun _ _ ⟨a, b, he, hb⟩ => ⟨a, b, _, he, hb⟩
 ·by_cases h : m ≤ 170141183460469231731687303715884105727
  ·exact (join_neg m w hu.1 h).mono fun _ _ ⟨he, hb⟩ => ⟨_, _, _, he, hb⟩
  ·by_cases g : 9223372036854775808 < hi m
   ·exact (join_neg_no1 _ _ w g).mono fun _ _ ⟨a, b, he, hb⟩ => ⟨a, b, _, he, hb⟩
   ·have e1 : hi m = 9223372036854775808 := by unfold hi at g ⊢; omega
    rw [e1]
    by_cases g2 : lo m = 0
    ·rw [g2]; exact (join_low w).mono fun _ _ ⟨he, hb⟩ => ⟨_, _, _, he, hb⟩
    ·have := (lo_bd m).1
     exact (join_neg_no2 _ w (by omega)).mono fun _ _ ⟨a, b, he, hb⟩ => ⟨a, b, _, he, hb⟩

theorem rtimes_fit (m n : Int) (w : World) (hm : U128 m) (hn : U64 n) (h : m * n ≤ maxM) :
  Calls Tryz.prog 125 #[.agg #[.int .u64 (hi m), .int .u64 (lo m)], .int .u64 n] w fun e w' => e = .returned (.tuple #[.agg #[.int .u64 (hi (m * n)), .int .u64 (lo (m * n))], .bool true]) ∧ Below w.heap.size w w' :=
 (rtimes_any m n w hm hn).mono fun _ _ ⟨o, _, he, hp, hb⟩ => by
  have := hp h
  subst this
  rw [decide_eq_true h] at he
  exact ⟨he, hb⟩
theorem rtimes_big (m n : Int) (w : World) (hm : U128 m) (hn : U64 n) (h : ¬ m * n ≤ maxM) :
  Calls Tryz.prog 125 #[.agg #[.int .u64 (hi m), .int .u64 (lo m)], .int .u64 n] w (NoMag w) :=
 (rtimes_any m n w hm hn).mono fun _ _ ⟨o, ho, he, _, hb⟩ => by
  rw [decide_eq_false h] at he
  exact ⟨o, ho, he, hb⟩

set_option maxHeartbeats 1000000 in
set_option maxHeartbeats 1000000 in
set_option maxHeartbeats 1000000 in
theorem rscale_yes (x n : Int) (w : World) (hx : I128 x) (hn : I64 n) (hd : ab x * ab n ≤ maxM) (hp : I128 (x * n)) :
  Calls Tryz.prog 92 #[.agg #[.int .i64 (hi x), .int .u64 (lo x)], .int .i64 n] w fun e w' => e = .returned (.tuple #[.agg #[.int .i64 (hi (x * n)), .int .u64 (lo (x * n))], .int .i64 0]) ∧ Below w.heap.size w w' := by
 have HJ := Lib.hid (fun W => join_of (x * n) (decide (x < 0) != decide (n < 0)) W hp (by by_cases h : x * n = 0; exact .inr h; exact .inl (mul_sign x n h).symm))
 have HA := Lib.hid (ab_mul x n)
 have hc := Lib.hid (fun W => rsize_any n W hn)
 have ht0 := (fun W => rtimes_fit (ab x) (ab n) W (ab_u128 hx) (ab_word hn) hd)
 try simp only [ab_mul] at ht0
 have ht := Lib.hid ht0
 clear ht0
 go_enter Tryz.func92, Tryz.ntmps92
 go_wp2_with fail
 refine (rsplit_any x _ hx).mono ?_
 rintro e w1 ⟨rfl, hb1⟩
 generalize decide (x < 0) = sg at *
 obtain ⟨cc, cd, cf, cg⟩ := later2 hb1 (g := w.heap.size) (u := .int .i64 (hi x)) (v := .int .u64 (lo x)) (by simp [go_sem]) (by simp [go_sem]) (by simp [go_sem]) (by simp [go_sem])
 have cz : w.heap.size < w1.heap.size := World.block_lt_of_cell? _ _ cc
 obtain ⟨dc, dd, df, dg⟩ := later2 hb1 (g := w.heap.size + 1) (u := .int .i64 0) (v := .int .u64 0) (by simp [go_sem]) (by simp [go_sem]) (by simp [go_sem]) (by simp [go_sem])
 have dz : w.heap.size + 1 < w1.heap.size := World.block_lt_of_cell? _ _ dc
 have b1 : Below w.heap.size w w1 := bl2 hb1 Bk.be
 have z1 := hb1.size
 try simp at z1
 clear hb1
 go_wp2_with fail
 have hb2 : Below (w1).heap.size (w1) ((w1).alloc (.cells #[.int .u64 (hi (ab x)), .int .u64 (lo (ab x))] 143)) := (Below.refl _ _).alloc (Nat.le_refl _) _
 have pc : ((w1).alloc (.cells #[.int .u64 (hi (ab x)), .int .u64 (lo (ab x))] 143)).cell? ⟨(w1).heap.size, 0, none⟩ = some (.int .u64 (hi (ab x))) := by simp [go_sem]
 have pd : ((w1).alloc (.cells #[.int .u64 (hi (ab x)), .int .u64 (lo (ab x))] 143)).cell? ⟨(w1).heap.size, 1, none⟩ = some (.int .u64 (lo (ab x))) := by simp [go_sem]
 have pf : ((w1).alloc (.cells #[.int .u64 (hi (ab x)), .int .u64 (lo (ab x))] 143)).frozen? ⟨(w1).heap.size, 0, none⟩ = false := by simp [go_sem]
 have pg : ((w1).alloc (.cells #[.int .u64 (hi (ab x)), .int .u64 (lo (ab x))] 143)).frozen? ⟨(w1).heap.size, 1, none⟩ = false := by simp [go_sem]
 have pz : (w1).heap.size < ((w1).alloc (.cells #[.int .u64 (hi (ab x)), .int .u64 (lo (ab x))] 143)).heap.size := by simp
 generalize (w1).alloc (.cells _ 143) = w2 at *
 obtain ⟨ec, ed, ef, eg⟩ := later2 hb2 (g := w.heap.size + 1) (u := .int .i64 0) (v := .int .u64 0) (by simp [go_sem, *]) (by simp [go_sem, *]) (by simp [go_sem, *]) (by simp [go_sem, *])
 have ez : w.heap.size + 1 < w2.heap.size := World.block_lt_of_cell? _ _ ec
 have b2 : Below w.heap.size w w2 := bl2 hb2 Bk.be
 have z2 := hb2.size
 try simp at z2
 clear hb2
 clear cc cd cf cg dc dd df dg
 go_region_with (first | (go_at_call 126; refine (hc.out _).mono ?_; rintro e w' ⟨rfl, rfl⟩) | (go_at_call 125; refine (ht.out _).mono ?_; rintro e w3 ⟨rfl, hb3⟩; have nc := (fun h => cell_later (a := ⟨w2.heap.size, 0, none⟩) (v := .int .u64 0) hb3 h); have nd := (fun h => cell_later (a := ⟨w2.heap.size, 1, none⟩) (v := .int .u64 0) hb3 h); have nf := (fun h => hb3.frozen (p := ⟨w2.heap.size, 0, none⟩) h); have ng := (fun h => hb3.frozen (p := ⟨w2.heap.size, 1, none⟩) h); have nz := (fun h => Nat.lt_of_lt_of_le (n := w2.heap.size) h hb3.size); (try simp [go_sem] at nc); (try simp [go_sem] at nd); (try simp [go_sem] at nf); (try simp [go_sem] at ng); (try simp at nz); (obtain ⟨fc, fd, ff, fg⟩ := later2 hb3 (g := w.heap.size + 1) (u := .int .i64 0) (v := .int .u64 0) (by simp [go_sem, *]) (by simp [go_sem, *]) (by simp [go_sem, *]) (by simp [go_sem, *])); (have fz : w.heap.size + 1 < w3.heap.size := World.block_lt_of_cell? _ _ fc); (have b3 : Below w.heap.size w w3 := bl2 hb3 Bk.be); clear hb3 ec ed ef eg ez pc pd pf pg z2 z1))
 all_goals
  clear ht hc
  go_wp2_with fail
  refine (HJ.out _).mono ?_
  rintro e w4 ⟨rfl, hb4⟩
  obtain ⟨gc, gd, gf, gg⟩ := later2 hb4 (g := w.heap.size + 1) (u := .int .i64 0) (v := .int .u64 0) (by simp [go_sem, *]) (by simp [go_sem, *]) (by simp [go_sem, *]) (by simp [go_sem, *])
  have gz : w.heap.size + 1 < w4.heap.size := World.block_lt_of_cell? _ _ gc
  have b4 : Below w.heap.size w w4 := bl2 hb4 Bk.be
  clear hb4 fc fd ff fg
  go_wp2_with fail
  simp [bodyPost, results, Tryz.results92, go_sem, gc, gd, gz]
  exact Bk.be

set_option maxHeartbeats 1000000 in
theorem rscale_big (x n : Int) (w : World) (hx : I128 x) (hn : I64 n) (hd : ab x * ab n ≤ maxM) (hp : ¬ I128 (x * n)) :
  Calls Tryz.prog 92 #[.agg #[.int .i64 (hi x), .int .u64 (lo x)], .int .i64 n] w fun e w' => e = .returned (.tuple #[.agg #[.int .i64 0, .int .u64 0], .int .i64 6]) ∧ Below w.heap.size w w' := by
 have HA := Lib.hid (ab_mul x n)
 have HJ := Lib.hid (fun W => join_not (x * n) (decide (x < 0) != decide (n < 0)) W hp (by rw [← ab_mul]; exact ⟨by rw [ab_mul]; unfold ab; split <;> omega, hd⟩) (by by_cases h : x * n = 0; exact absurd (show I128 (x * n) by rw [h]; unfold I128; omega) hp; exact (mul_sign x n h).symm))
 have hc := Lib.hid (fun W => rsize_any n W hn)
 have ht0 := (fun W => rtimes_fit (ab x) (ab n) W (ab_u128 hx) (ab_word hn) hd)
 try simp only [ab_mul] at ht0
 have ht := Lib.hid ht0
 clear ht0
 go_enter Tryz.func92, Tryz.ntmps92
 go_wp2_with fail
 refine (rsplit_any x _ hx).mono ?_
 rintro e w1 ⟨rfl, hb1⟩
 generalize decide (x < 0) = sg at *
 obtain ⟨cc, cd, cf, cg⟩ := later2 hb1 (g := w.heap.size) (u := .int .i64 (hi x)) (v := .int .u64 (lo x)) (by simp [go_sem]) (by simp [go_sem]) (by simp [go_sem]) (by simp [go_sem])
 have cz : w.heap.size < w1.heap.size := World.block_lt_of_cell? _ _ cc
 obtain ⟨dc, dd, df, dg⟩ := later2 hb1 (g := w.heap.size + 1) (u := .int .i64 0) (v := .int .u64 0) (by simp [go_sem]) (by simp [go_sem]) (by simp [go_sem]) (by simp [go_sem])
 have dz : w.heap.size + 1 < w1.heap.size := World.block_lt_of_cell? _ _ dc
 have b1 : Below w.heap.size w w1 := bl2 hb1 Bk.be
 have z1 := hb1.size
 try simp at z1
 clear hb1
 go_wp2_with fail
 have hb2 : Below (w1).heap.size (w1) ((w1).alloc (.cells #[.int .u64 (hi (ab x)), .int .u64 (lo (ab x))] 143)) := (Below.refl _ _).alloc (Nat.le_refl _) _
 have pc : ((w1).alloc (.cells #[.int .u64 (hi (ab x)), .int .u64 (lo (ab x))] 143)).cell? ⟨(w1).heap.size, 0, none⟩ = some (.int .u64 (hi (ab x))) := by simp [go_sem]
 have pd : ((w1).alloc (.cells #[.int .u64 (hi (ab x)), .int .u64 (lo (ab x))] 143)).cell? ⟨(w1).heap.size, 1, none⟩ = some (.int .u64 (lo (ab x))) := by simp [go_sem]
 have pf : ((w1).alloc (.cells #[.int .u64 (hi (ab x)), .int .u64 (lo (ab x))] 143)).frozen? ⟨(w1).heap.size, 0, none⟩ = false := by simp [go_sem]
 have pg : ((w1).alloc (.cells #[.int .u64 (hi (ab x)), .int .u64 (lo (ab x))] 143)).frozen? ⟨(w1).heap.size, 1, none⟩ = false := by simp [go_sem]
 have pz : (w1).heap.size < ((w1).alloc (.cells #[.int .u64 (hi (ab x)), .int .u64 (lo (ab x))] 143)).heap.size := by simp
 generalize (w1).alloc (.cells _ 143) = w2 at *
 obtain ⟨ec, ed, ef, eg⟩ := later2 hb2 (g := w.heap.size + 1) (u := .int .i64 0) (v := .int .u64 0) (by simp [go_sem, *]) (by simp [go_sem, *]) (by simp [go_sem, *]) (by simp [go_sem, *])
 have ez : w.heap.size + 1 < w2.heap.size := World.block_lt_of_cell? _ _ ec
 have b2 : Below w.heap.size w w2 := bl2 hb2 Bk.be
 have z2 := hb2.size
 try simp at z2
 clear hb2
 clear cc cd cf cg dc dd df dg
 go_region_with (first | (go_at_call 126; refine (hc.out _).mono ?_; rintro e w' ⟨rfl, rfl⟩) | (go_at_call 125; refine (ht.out _).mono ?_; rintro e w3 ⟨rfl, hb3⟩; have nc := (fun h => cell_later (a := ⟨w2.heap.size, 0, none⟩) (v := .int .u64 0) hb3 h); have nd := (fun h => cell_later (a := ⟨w2.heap.size, 1, none⟩) (v := .int .u64 0) hb3 h); have nf := (fun h => hb3.frozen (p := ⟨w2.heap.size, 0, none⟩) h); have ng := (fun h => hb3.frozen (p := ⟨w2.heap.size, 1, none⟩) h); have nz := (fun h => Nat.lt_of_lt_of_le (n := w2.heap.size) h hb3.size); (try simp [go_sem] at nc); (try simp [go_sem] at nd); (try simp [go_sem] at nf); (try simp [go_sem] at ng); (try simp at nz); (obtain ⟨fc, fd, ff, fg⟩ := later2 hb3 (g := w.heap.size + 1) (u := .int .i64 0) (v := .int .u64 0) (by simp [go_sem, *]) (by simp [go_sem, *]) (by simp [go_sem, *]) (by simp [go_sem, *])); (have fz : w.heap.size + 1 < w3.heap.size := World.block_lt_of_cell? _ _ fc); (have b3 : Below w.heap.size w w3 := bl2 hb3 Bk.be); clear hb3 ec ed ef eg ez pc pd pf pg z2 z1))
 all_goals
  clear ht hc
  go_wp2_with fail
  refine (HJ.out _).mono ?_
  rintro e w4 ⟨ja, jb, rfl, hb4⟩
  obtain ⟨gc, gd, gf, gg⟩ := later2 hb4 (g := w.heap.size + 1) (u := .int .i64 0) (v := .int .u64 0) (by simp [go_sem, *]) (by simp [go_sem, *]) (by simp [go_sem, *]) (by simp [go_sem, *])
  have gz : w.heap.size + 1 < w4.heap.size := World.block_lt_of_cell? _ _ gc
  have b4 : Below w.heap.size w w4 := bl2 hb4 Bk.be
  clear hb4 fc fd ff fg
  go_wp2_with fail
  simp [bodyPost, results, Tryz.results92, go_sem, gc, gd, gz]
  exact Bk.be

set_option maxHeartbeats 1000000 in
theorem rscale_over (x n : Int) (w : World) (hx : I128 x) (hn : I64 n) (hd : ¬ ab x * ab n ≤ maxM) :
  Calls Tryz.prog 92 #[.agg #[.int .i64 (hi x), .int .u64 (lo x)], .int .i64 n] w fun e w' => e = .returned (.tuple #[.agg #[.int .i64 0, .int .u64 0], .int .i64 6]) ∧ Below w.heap.size w w' := by
 have hc := Lib.hid (fun W => rsize_any n W hn)
 have ht0 := (fun W => rtimes_big (ab x) (ab n) W (ab_u128 hx) (ab_word hn) hd)
 try simp only [ab_mul] at ht0
 have ht := Lib.hid ht0
 clear ht0
 go_enter Tryz.func92, Tryz.ntmps92
 go_wp2_with fail
 refine (rsplit_any x _ hx).mono ?_
 rintro e w1 ⟨rfl, hb1⟩
 generalize decide (x < 0) = sg at *
 obtain ⟨cc, cd, cf, cg⟩ := later2 hb1 (g := w.heap.size) (u := .int .i64 (hi x)) (v := .int .u64 (lo x)) (by simp [go_sem]) (by simp [go_sem]) (by simp [go_sem]) (by simp [go_sem])
 have cz : w.heap.size < w1.heap.size := World.block_lt_of_cell? _ _ cc
 obtain ⟨dc, dd, df, dg⟩ := later2 hb1 (g := w.heap.size + 1) (u := .int .i64 0) (v := .int .u64 0) (by simp [go_sem]) (by simp [go_sem]) (by simp [go_sem]) (by simp [go_sem])
 have dz : w.heap.size + 1 < w1.heap.size := World.block_lt_of_cell? _ _ dc
 have b1 : Below w.heap.size w w1 := bl2 hb1 Bk.be
 have z1 := hb1.size
 try simp at z1
 clear hb1
 go_wp2_with fail
 have hb2 : Below (w1).heap.size (w1) ((w1).alloc (.cells #[.int .u64 (hi (ab x)), .int .u64 (lo (ab x))] 143)) := (Below.refl _ _).alloc (Nat.le_refl _) _
 have pc : ((w1).alloc (.cells #[.int .u64 (hi (ab x)), .int .u64 (lo (ab x))] 143)).cell? ⟨(w1).heap.size, 0, none⟩ = some (.int .u64 (hi (ab x))) := by simp [go_sem]
 have pd : ((w1).alloc (.cells #[.int .u64 (hi (ab x)), .int .u64 (lo (ab x))] 143)).cell? ⟨(w1).heap.size, 1, none⟩ = some (.int .u64 (lo (ab x))) := by simp [go_sem]
 have pf : ((w1).alloc (.cells #[.int .u64 (hi (ab x)), .int .u64 (lo (ab x))] 143)).frozen? ⟨(w1).heap.size, 0, none⟩ = false := by simp [go_sem]
 have pg : ((w1).alloc (.cells #[.int .u64 (hi (ab x)), .int .u64 (lo (ab x))] 143)).frozen? ⟨(w1).heap.size, 1, none⟩ = false := by simp [go_sem]
 have pz : (w1).heap.size < ((w1).alloc (.cells #[.int .u64 (hi (ab x)), .int .u64 (lo (ab x))] 143)).heap.size := by simp
 generalize (w1).alloc (.cells _ 143) = w2 at *
 obtain ⟨ec, ed, ef, eg⟩ := later2 hb2 (g := w.heap.size + 1) (u := .int .i64 0) (v := .int .u64 0) (by simp [go_sem, *]) (by simp [go_sem, *]) (by simp [go_sem, *]) (by simp [go_sem, *])
 have ez : w.heap.size + 1 < w2.heap.size := World.block_lt_of_cell? _ _ ec
 have b2 : Below w.heap.size w w2 := bl2 hb2 Bk.be
 have z2 := hb2.size
 try simp at z2
 clear hb2
 clear cc cd cf cg dc dd df dg
 go_region_with (first | (go_at_call 126; refine (hc.out _).mono ?_; rintro e w' ⟨rfl, rfl⟩) | (go_at_call 125; refine (ht.out _).mono ?_; rintro e w3 ⟨o, ho, rfl, hb3⟩; have nc := (fun h => cell_later (a := ⟨w2.heap.size, 0, none⟩) (v := .int .u64 0) hb3 h); have nd := (fun h => cell_later (a := ⟨w2.heap.size, 1, none⟩) (v := .int .u64 0) hb3 h); have nf := (fun h => hb3.frozen (p := ⟨w2.heap.size, 0, none⟩) h); have ng := (fun h => hb3.frozen (p := ⟨w2.heap.size, 1, none⟩) h); have nz := (fun h => Nat.lt_of_lt_of_le (n := w2.heap.size) h hb3.size); (try simp [go_sem] at nc); (try simp [go_sem] at nd); (try simp [go_sem] at nf); (try simp [go_sem] at ng); (try simp at nz); (obtain ⟨fc, fd, ff, fg⟩ := later2 hb3 (g := w.heap.size + 1) (u := .int .i64 0) (v := .int .u64 0) (by simp [go_sem, *]) (by simp [go_sem, *]) (by simp [go_sem, *]) (by simp [go_sem, *])); (have fz : w.heap.size + 1 < w3.heap.size := World.block_lt_of_cell? _ _ fc); (have b3 : Below w.heap.size w w3 := bl2 hb3 Bk.be); clear hb3 ec ed ef eg ez pc pd pf pg z2 z1))
 all_goals
  clear ht hc
  go_wp2_with fail
  refine (join_some o _ _ ho).mono ?_
  rintro e w4 ⟨ja, jb, jf, rfl, hb4⟩
  obtain ⟨gc, gd, gf, gg⟩ := later2 hb4 (g := w.heap.size + 1) (u := .int .i64 0) (v := .int .u64 0) (by simp [go_sem, *]) (by simp [go_sem, *]) (by simp [go_sem, *]) (by simp [go_sem, *])
  have gz : w.heap.size + 1 < w4.heap.size := World.block_lt_of_cell? _ _ gc
  have b4 : Below w.heap.size w w4 := bl2 hb4 Bk.be
  clear hb4 fc fd ff fg
  go_wp2_with fail
  simp [bodyPost, results, Tryz.results92, go_sem, gc, gd, gz]
  exact Bk.be

theorem rscale_any (x n : Int) (w : World) (hx : I128 x) (hn : I64 n) :
  Calls Tryz.prog 92 #[.agg #[.int .i64 (hi x), .int .u64 (lo x)], .int .i64 n] w fun e w' => e = .returned (.tuple #[.agg #[.int .i64 (hi (fit (x * n))), .int .u64 (lo (fit (x * n)))], .int .i64 (ovf (x * n))]) ∧ Below w.heap.size w w' := by
 by_cases hd : ab x * ab n ≤ maxM
 ·by_cases hp : I128 (x * n)
  ·rw [fit_in hp, ovf_in hp]; exact rscale_yes x n w hx hn hd hp
  ·rw [fit_out hp, ovf_out hp, hi_0, lo_0]; exact rscale_big x n w hx hn hd hp
 ·have hp : ¬ I128 (x * n) := by
   rw [ab_mul] at hd; unfold maxM at hd; intro h; unfold I128 at h; revert hd; unfold ab; split <;> omega
  rw [fit_out hp, ovf_out hp, hi_0, lo_0]; exact rscale_over x n w hx hn hd
end Go.Proofs.YtaanicginfjgdaaGreatDoor.Wt
