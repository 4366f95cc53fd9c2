/-
 The contract of the reference's shifted: twice a magnitude, modulo 2 to the 128; and the plain mathematics of its division bit by bit.
 The contract of the reference's Quotient.
-/
import Derived.Test.YtaanicginfjgdaaGreatDoorRga
namespace Go.Proofs.YtaanicginfjgdaaGreatDoor.Wt
open Go.RowKit
open Go.Proofs.YtaanicginfjgdaaGreatDoor
open Go.Proofs.YtaanicginfjgdaaGreatDoor.Wm

def dbl (m : Int) : Int := 2 * m % 340282366920938463463374607431768211456
def ShPost (w : World) (o : Int) (e : Ending) (w' : World) : Prop := ∃ f : Bool, e = .returned (.tuple #[.agg #[.int .u64 (hi o), .int .u64 (lo o)], .bool f]) ∧ Below w.heap.size w w'

theorem plus_over2 {a l : Int} (h1 : U64 a) (h2 : U64 l) (w : World) (xh xl : Int) (hh : 9223372036854775808 ≤ a)
  (ex : (l < 9223372036854775808 ∧ xh = IntKind.u64.wrap (a + a) ∧ xl = l + l) ∨ (9223372036854775808 ≤ l ∧ xh = IntKind.u64.wrap (a + a) + 1 ∧ xl = IntKind.u64.wrap (l + l))) :
  Calls Tryz.prog 122 #[.agg #[.int .u64 a, .int .u64 l], .agg #[.int .u64 a, .int .u64 l]] w fun e w' => e = .returned (.tuple #[.agg #[.int .u64 xh, .int .u64 xl], .bool false]) ∧ Below w.heap.size w w' := by
 have hlt : IntKind.u64.wrap (a + a) < a := by rw [IntKind.wrap_u64]; unfold U64 at h1; omega
 have hs : IntKind.u64.wrap (a + a) + 1 ≤ 18446744073709551615 := by rw [IntKind.wrap_u64]; omega
 have wh := wrap_bd (a + a)
 obtain ⟨w1, w2⟩ := wh
 obtain ⟨a1, a2⟩ := h1
 obtain ⟨b1, b2⟩ := h2
 rcases ex with ⟨hl, rfl, rfl⟩ | ⟨hl, rfl, rfl⟩
 ·clear hs
  go_enter Tryz.func122, Tryz.ntmps122
  go_wp2
  simp [bodyPost, results, Tryz.results122, go_sem]
  exact Bk.be
 ·have hlt2 : IntKind.u64.wrap (l + l) < l := by rw [IntKind.wrap_u64]; omega
  clear hh hl
  go_enter Tryz.func122, Tryz.ntmps122
  go_wp2
  simp [bodyPost, results, Tryz.results122, go_sem]
  exact Bk.be

theorem rplus_twice (m : Int) (w : World) (hm : U128 m) :
  Calls Tryz.prog 122 #[.agg #[.int .u64 (hi m), .int .u64 (lo m)], .agg #[.int .u64 (hi m), .int .u64 (lo m)]] w (ShPost w (dbl m)) := by
 by_cases h : m + m ≤ 340282366920938463463374607431768211455
 ·have e : dbl m = m + m := by unfold U128 at hm; unfold dbl; omega
  rw [e]
  exact (rplus_yes m m w hm hm h).mono fun _ _ ⟨he, hb⟩ => ⟨true, he, hb⟩
 ·have hw := hi_bdu hm
  have lw := lo_bd m
  refine (plus_over2 hw lw w (hi (dbl m)) (lo (dbl m)) (by unfold U128 at hm; unfold hi; omega) ?_).mono fun _ _ ⟨he, hb⟩ => ⟨false, he, hb⟩
  rw [IntKind.wrap_u64, IntKind.wrap_u64]
  unfold U128 at hm
  unfold dbl hi lo
  omega

theorem rshift_any (m : Int) (w : World) (hm : U128 m) : Calls Tryz.prog 141 #[.agg #[.int .u64 (hi m), .int .u64 (lo m)]] w (ShPost w (dbl m)) := by
 have hP := Lib.hid (fun W => rplus_twice m W hm)
 go_enter Tryz.func141, Tryz.ntmps141
 go_wp2_with fail
 refine (hP.out _).mono ?_
 rintro e w1 ⟨f, rfl, hb1⟩
 generalize dbl m = o at *
 obtain ⟨dc, dd, df, dg⟩ := later2 hb1 (g := w.heap.size + 1) (u := .int .u64 0) (v := .int .u64 0) (by simp [go_sem]) (by simp [go_sem]) (by simp [go_sem]) (by simp [go_sem])
 have dz : w.heap.size + 1 < w1.heap.size := World.block_lt_of_cell? _ _ dc
 have b1 : Below w.heap.size w w1 := bl2 hb1 Bk.be
 have z1 := hb1.size
 try simp at z1
 clear hb1
 go_wp2_with fail
 simp [bodyPost, results, Tryz.results141, go_sem, dc, dd]
 exact ⟨f, rfl, Bk.be⟩

/-! ### the division bit by bit -/
structure QRel (m n : Int) (k : Nat) (mm q r : Int) : Prop where
 le : k ≤ 128
 w : ∃ P E l : Int, 0 < P ∧ 0 < E ∧ P * E = 340282366920938463463374607431768211456 ∧ (k < 128 → ∃ P', P = 2 * P') ∧ (k = 128 → P = 1) ∧ P = 2 ^ (128 - k) ∧ m = (q * n + r) * P + l ∧ 0 ≤ l ∧ l < P ∧ mm = l * E ∧ q < E
 r0 : 0 ≤ r
 r1 : r < n
 q0 : 0 ≤ q
theorem QRel.start {m n : Int} (hm : U128 m) (hn : 0 < n) : QRel m n 0 m 0 0 :=
 ⟨by omega, ⟨340282366920938463463374607431768211456, 1, m, by omega, by omega, by omega, fun _ => ⟨170141183460469231731687303715884105728, by omega⟩, fun h => by omega, rfl, by omega, hm.1, by have := hm.2; omega, by omega, by omega⟩, by omega, hn, by omega⟩
theorem QRel.mmb {m n mm q r : Int} {k : Nat} (h : QRel m n k mm q r) : U128 mm ∧ (k < 128 → q < 170141183460469231731687303715884105728) := by
 obtain ⟨P, E, l, hP, hE, hPE, h2, h1, _, hm, l0, l1, e, qE⟩ := h.w
 constructor
 ·rw [e]
  have a := Int.mul_nonneg l0 (show 0 ≤ E by omega)
  have b : l * E ≤ (P - 1) * E := Int.mul_le_mul_of_nonneg_right (by omega) (by omega)
  rw [Int.sub_mul, hPE, Int.one_mul] at b
  exact ⟨a, by omega⟩
 ·intro hk
  obtain ⟨P', rfl⟩ := h2 hk
  have : 1 * E ≤ P' * E := Int.mul_le_mul_of_nonneg_right (by omega) (by omega)
  rw [Int.mul_assoc] at hPE
  omega
theorem QRel.step {m n mm q r : Int} {k : Nat} (h : QRel m n k mm q r) (hk : k < 128) (b : Int) (hb : b = if 170141183460469231731687303715884105728 ≤ mm then 1 else 0) :
  (2 * r + b < n → QRel m n (k + 1) (dbl mm) (2 * q) (2 * r + b)) ∧ (n ≤ 2 * r + b → QRel m n (k + 1) (dbl mm) (2 * q + 1) (2 * r + b - n)) := by
 obtain ⟨P, E, l, hP, hE, hPE, h2, h1, hpow, hm, l0, l1, e, qE⟩ := h.w
 obtain ⟨P', rfl⟩ := h2 hk
 have hPE' : P' * E = 170141183460469231731687303715884105728 := by rw [Int.mul_assoc] at hPE; omega
 have hb01 : (b = 0 ∧ l < P') ∨ (b = 1 ∧ P' ≤ l) := by
  rw [hb]
  split
  ·rename_i hge
   refine .inr ⟨rfl, ?_⟩
   rw [e, ← hPE'] at hge
   exact Int.le_of_mul_le_mul_right hge hE
  ·rename_i hlt
   refine .inl ⟨rfl, ?_⟩
   rw [e, ← hPE'] at hlt
   exact Int.lt_of_not_ge fun hge => hlt (Int.mul_le_mul_of_nonneg_right hge (by omega))
 have hbb : b * P' = 0 ∧ b = 0 ∨ b * P' = P' ∧ b = 1 := by rcases hb01 with ⟨rfl, _⟩ | ⟨rfl, _⟩ <;> omega
 have hd : dbl mm = (l - b * P') * (2 * E) := by
  have e1 : (l - b * P') * (2 * E) = 2 * (l * E) - b * 340282366920938463463374607431768211456 := by
   rw [Int.sub_mul, Int.mul_left_comm l 2 E, Int.mul_assoc b P' (2 * E), Int.mul_left_comm P' 2 E, hPE']
   omega
  rw [e1, ← e]
  have hmm := h.mmb.1
  unfold U128 at hmm
  unfold dbl
  rw [hb]
  split <;> omega
 have hT : ∀ q' r' : Int, q' * n + r' = 2 * (q * n + r) + b → m = (q' * n + r') * P' + (l - b * P') := fun q' r' h' => by
  rw [h', Int.add_mul, hm, Int.mul_assoc 2, ← Int.mul_assoc (q * n + r) 2 P', Int.mul_comm (q * n + r) 2, Int.mul_assoc 2]
  omega
 have hpow' : P' = 2 ^ (128 - (k + 1)) := by
  have : 128 - k = (128 - (k + 1)) + 1 := by omega
  rw [this, Int.pow_succ] at hpow
  omega
 clear h2 h1
 have := h.r0
 have := h.r1
 have := h.q0
 have a1 : 0 < P' := by omega
 have a2 : 0 < 2 * E := by omega
 have a3 : P' * (2 * E) = 340282366920938463463374607431768211456 := by rw [Int.mul_left_comm]; omega
 have a4 : 0 ≤ l - b * P' := by omega
 have a5 : l - b * P' < P' := by omega
 have a6 : 2 * q < 2 * E := by omega
 have a7 : 2 * q + 1 < 2 * E := by omega
 have a8 : 0 ≤ 2 * r + b := by omega
 have a9 : n ≤ 2 * r + b → 0 ≤ 2 * r + b - n := by omega
 have a10 : 2 * r + b - n < n := by omega
 have a11 : 0 ≤ 2 * q := by omega
 have a12 : 0 ≤ 2 * q + 1 := by omega
 have a13 : k + 1 ≤ 128 := by omega
 have t1 : 2 * q * n + (2 * r + b) = 2 * (q * n + r) + b := by rw [Int.mul_assoc]; omega
 have t2 : (2 * q + 1) * n + (2 * r + b - n) = 2 * (q * n + r) + b := by rw [Int.add_mul, Int.mul_assoc]; omega
 have heven : k + 1 < 128 → ∃ P'', P' = 2 * P'' := fun hk' => ⟨2 ^ (128 - (k + 1) - 1), by
  rw [hpow']
  have : 128 - (k + 1) = (128 - (k + 1) - 1) + 1 := by omega
  conv => lhs; rw [this]
  rw [Int.pow_succ, Int.mul_comm]⟩
 have hone : k + 1 = 128 → P' = 1 := fun hk' => by rw [hpow', hk']; rfl
 exact ⟨fun hlt => ⟨a13, ⟨P', 2 * E, l - b * P', a1, a2, a3, heven, hone, hpow', hT _ _ t1, a4, a5, hd, a6⟩, a8, hlt, a11⟩,
  fun hge => ⟨a13, ⟨P', 2 * E, l - b * P', a1, a2, a3, heven, hone, hpow', hT _ _ t2, a4, a5, hd, a7⟩, a9 hge, a10, a12⟩⟩
theorem QRel.end_ {m n mm q r : Int} (h : QRel m n 128 mm q r) : q = m / n ∧ r = m % n := by
 obtain ⟨P, E, l, hP, hE, hPE, h2, h1, _, hm, l0, l1, e, qE⟩ := h.w
 have hp := h1 rfl
 subst hp
 have hl : l = 0 := by omega
 subst hl
 have e2 : m = n * q + r := by rw [hm, Int.mul_comm n q]; omega
 have r0 := h.r0
 have r1 := h.r1
 have := (Int.ediv_emod_unique (show 0 < n by omega)).2 ⟨(show r + n * q = m by omega), r0, r1⟩
 exact ⟨this.1.symm, this.2.symm⟩
end Go.Proofs.YtaanicginfjgdaaGreatDoor.Wt

namespace Go.Proofs.YtaanicginfjgdaaGreatDoor.Wt
open Go.RowKit
open Go.Proofs.YtaanicginfjgdaaGreatDoor
open Go.Proofs.YtaanicginfjgdaaGreatDoor.Wm

def QLoop (w : World) (m n : Int) (vr vi : Value) (wr : World) : Prop := ∃ (k : Nat) (mm q r : Int), QRel m n k mm q r ∧ vr = .int .u64 r ∧ vi = .int .i64 k ∧
 Two wr w.heap.size (.int .u64 (hi mm)) (.int .u64 (lo mm)) ∧ Two wr (w.heap.size + 1) (.int .u64 0) (.int .u64 0) ∧ Two wr (w.heap.size + 2) (.int .u64 (hi q)) (.int .u64 (lo q)) ∧ Below w.heap.size w wr
theorem lo_even (q : Int) : IntKind.u64.wrap (lo (2 * q) + 1) = lo (2 * q + 1) ∧ hi (2 * q) = hi (2 * q + 1) := by
 rw [IntKind.wrap_u64]; unfold lo hi; omega

set_option maxRecDepth 4000 in
set_option maxHeartbeats 4000000 in
theorem rquot_any (m n : Int) (w : World) (hm : U128 m) (h0 : 0 < n) (hn : n ≤ 9223372036854775807) :
  Calls Tryz.prog 121 #[.agg #[.int .u64 (hi m), .int .u64 (lo m)], .int .u64 n] w fun e w' => e = .returned (.tuple #[.agg #[.int .u64 (hi (m / n)), .int .u64 (lo (m / n))], .int .u64 (m % n)]) ∧ Below w.heap.size w w' := by
 go_enter Tryz.func121, Tryz.ntmps121
 go_wp2_with fail
 go_loopw [7, 8] (QLoop w m n) (fun _ i _ => (128 - intOf i).toNat)
 case atStart => exact ⟨0, m, 0, 0, QRel.start hm h0, rfl, rfl, ⟨by simp [go_sem], by simp [go_sem], by simp [go_sem], by simp [go_sem]⟩, ⟨by simp [go_sem], by simp [go_sem], by simp [go_sem], by simp [go_sem]⟩, ⟨by simp [go_sem, hi_0], by simp [go_sem, lo_0], by simp [go_sem], by simp [go_sem]⟩, Bk.be⟩
 case round =>
  obtain ⟨k, mm, q, r, hr, rfl, rfl, ⟨m1, m2, m3, m4⟩, ⟨r1, r2, r3, r4⟩, ⟨o1, o2, o3, o4⟩, hbe⟩ := hrel
  have hk := hr.le
  have hr0 := hr.r0
  have hr1 := hr.r1
  have sz2 : w.heap.size + 2 < wr.heap.size := World.block_lt_of_cell? _ _ o1
  by_cases hlt : k < 128
  ·obtain ⟨hmm, hq⟩ := hr.mmb
   have hq := hq hlt
   have hq0 := hr.q0
   have hmw := hi_bdu hmm
   have hM := Lib.hid (fun W => rshift_any mm W hmm)
   have hdq : dbl q = 2 * q := by unfold dbl; omega
   have hQ := Lib.hid (fun W => rshift_any q W ⟨hq0, by omega⟩)
   rw [hdq] at hQ
   obtain ⟨hl, hh⟩ := lo_even q
   have HL := Lib.hid hl
   have HH := Lib.hid hh
   clear hl hh hdq hq
   have hmm2 := hi_lo mm
   have hmm3 := lo_bd mm
   unfold U64 at hmm3
   by_cases hbit : hi mm < 9223372036854775808
   ·have hs := hr.step hlt 0 (by rw [if_neg (by omega)])
    have t1 := top0 hmw.1 hbit
    have HS := Lib.hid hs
    clear hs hr hmm2 hmm3 hmw
    generalize dbl mm = m' at *
    by_cases hge : n ≤ 2 * r + 0
    ·go_wp2_with fail
     refine (hM.out _).mono ?_
     rintro e w1 ⟨f1, rfl, hb1⟩
     obtain ⟨m1c, m1d, m1f, m1g⟩ := later2 hb1 (g := w.heap.size) (u := .int .u64 (hi mm)) (v := .int .u64 (lo mm)) (by simp [go_sem, *]) (by simp [go_sem, *]) (by simp [go_sem, *]) (by simp [go_sem, *])
     have m1z : w.heap.size < w1.heap.size := World.block_lt_of_cell? _ _ m1c
     obtain ⟨r1c, r1d, r1f, r1g⟩ := later2 hb1 (g := w.heap.size + 1) (u := .int .u64 0) (v := .int .u64 0) (by simp [go_sem, *]) (by simp [go_sem, *]) (by simp [go_sem, *]) (by simp [go_sem, *])
     have r1z : w.heap.size + 1 < w1.heap.size := World.block_lt_of_cell? _ _ r1c
     obtain ⟨o1c, o1d, o1f, o1g⟩ := later2 hb1 (g := w.heap.size + 2) (u := .int .u64 (hi q)) (v := .int .u64 (lo q)) (by simp [go_sem, *]) (by simp [go_sem, *]) (by simp [go_sem, *]) (by simp [go_sem, *])
     have o1z : w.heap.size + 2 < w1.heap.size := World.block_lt_of_cell? _ _ o1c
     have b1 : Below w.heap.size w w1 := bl2 hb1 hbe
     clear hb1 m1 m2 m3 m4 r1 r2 r3 r4 o1 o2 o3 o4
     go_wp2_with fail
     refine (hQ.out _).mono ?_
     rintro e w2 ⟨f2, rfl, hb2⟩
     obtain ⟨m2c, m2d, m2f, m2g⟩ := later2 hb2 (g := w.heap.size) (u := .int .u64 (hi m')) (v := .int .u64 (lo m')) (by simp [go_sem, *]) (by simp [go_sem, *]) (by simp [go_sem, *]) (by simp [go_sem, *])
     have m2z : w.heap.size < w2.heap.size := World.block_lt_of_cell? _ _ m2c
     obtain ⟨r2c, r2d, r2f, r2g⟩ := later2 hb2 (g := w.heap.size + 1) (u := .int .u64 0) (v := .int .u64 0) (by simp [go_sem, *]) (by simp [go_sem, *]) (by simp [go_sem, *]) (by simp [go_sem, *])
     have r2z : w.heap.size + 1 < w2.heap.size := World.block_lt_of_cell? _ _ r2c
     obtain ⟨o2c, o2d, o2f, o2g⟩ := later2 hb2 (g := w.heap.size + 2) (u := .int .u64 (hi q)) (v := .int .u64 (lo q)) (by simp [go_sem, *]) (by simp [go_sem, *]) (by simp [go_sem, *]) (by simp [go_sem, *])
     have o2z : w.heap.size + 2 < w2.heap.size := World.block_lt_of_cell? _ _ o2c
     have b2 : Below w.heap.size w w2 := bl2 hb2 Bk.be
     clear hb2 m1c m1d m1f m1g r1c r1d r1f r1g o1c o1d o1f o1g
     go_wp2_with fail
     go_roundw
     case rel =>
      refine ⟨k + 1, _, (2 * q + 1), _, HS.out.2 hge, by go_num, by go_num, ⟨?_, ?_, ?_, ?_⟩, ⟨?_, ?_, ?_, ?_⟩, ⟨?_, ?_, ?_, ?_⟩, ?_⟩
      all_goals (first | (simp [go_sem, *]; done) | (rw [← HH.out]; simp [go_sem, *]; done) | (rw [← HL.out]; simp (maxDischargeDepth := 6) [go_sem, *]; done) | exact Bk.be)
     case measure => simp [intOf]; omega
    ·have hge : 2 * r + 0 < n := by omega
     go_wp2_with fail
     refine (hM.out _).mono ?_
     rintro e w1 ⟨f1, rfl, hb1⟩
     obtain ⟨m1c, m1d, m1f, m1g⟩ := later2 hb1 (g := w.heap.size) (u := .int .u64 (hi mm)) (v := .int .u64 (lo mm)) (by simp [go_sem, *]) (by simp [go_sem, *]) (by simp [go_sem, *]) (by simp [go_sem, *])
     have m1z : w.heap.size < w1.heap.size := World.block_lt_of_cell? _ _ m1c
     obtain ⟨r1c, r1d, r1f, r1g⟩ := later2 hb1 (g := w.heap.size + 1) (u := .int .u64 0) (v := .int .u64 0) (by simp [go_sem, *]) (by simp [go_sem, *]) (by simp [go_sem, *]) (by simp [go_sem, *])
     have r1z : w.heap.size + 1 < w1.heap.size := World.block_lt_of_cell? _ _ r1c
     obtain ⟨o1c, o1d, o1f, o1g⟩ := later2 hb1 (g := w.heap.size + 2) (u := .int .u64 (hi q)) (v := .int .u64 (lo q)) (by simp [go_sem, *]) (by simp [go_sem, *]) (by simp [go_sem, *]) (by simp [go_sem, *])
     have o1z : w.heap.size + 2 < w1.heap.size := World.block_lt_of_cell? _ _ o1c
     have b1 : Below w.heap.size w w1 := bl2 hb1 hbe
     clear hb1 m1 m2 m3 m4 r1 r2 r3 r4 o1 o2 o3 o4
     go_wp2_with fail
     refine (hQ.out _).mono ?_
     rintro e w2 ⟨f2, rfl, hb2⟩
     obtain ⟨m2c, m2d, m2f, m2g⟩ := later2 hb2 (g := w.heap.size) (u := .int .u64 (hi m')) (v := .int .u64 (lo m')) (by simp [go_sem, *]) (by simp [go_sem, *]) (by simp [go_sem, *]) (by simp [go_sem, *])
     have m2z : w.heap.size < w2.heap.size := World.block_lt_of_cell? _ _ m2c
     obtain ⟨r2c, r2d, r2f, r2g⟩ := later2 hb2 (g := w.heap.size + 1) (u := .int .u64 0) (v := .int .u64 0) (by simp [go_sem, *]) (by simp [go_sem, *]) (by simp [go_sem, *]) (by simp [go_sem, *])
     have r2z : w.heap.size + 1 < w2.heap.size := World.block_lt_of_cell? _ _ r2c
     obtain ⟨o2c, o2d, o2f, o2g⟩ := later2 hb2 (g := w.heap.size + 2) (u := .int .u64 (hi q)) (v := .int .u64 (lo q)) (by simp [go_sem, *]) (by simp [go_sem, *]) (by simp [go_sem, *]) (by simp [go_sem, *])
     have o2z : w.heap.size + 2 < w2.heap.size := World.block_lt_of_cell? _ _ o2c
     have b2 : Below w.heap.size w w2 := bl2 hb2 Bk.be
     clear hb2 m1c m1d m1f m1g r1c r1d r1f r1g o1c o1d o1f o1g
     go_wp2_with fail
     go_roundw
     case rel =>
      refine ⟨k + 1, _, (2 * q), _, HS.out.1 hge, by go_num, by go_num, ⟨?_, ?_, ?_, ?_⟩, ⟨?_, ?_, ?_, ?_⟩, ⟨?_, ?_, ?_, ?_⟩, ?_⟩
      all_goals (first | (simp [go_sem, *]; done) | exact Bk.be)
     case measure => simp [intOf]; omega
   ·have hbit : 9223372036854775808 ≤ hi mm := by omega
    have hs := hr.step hlt 1 (by rw [if_pos (by omega)])
    have t1 := top1 hbit hmw.2
    have HS := Lib.hid hs
    clear hs hr hmm2 hmm3 hmw
    generalize dbl mm = m' at *
    by_cases hge : n ≤ 2 * r + 1
    ·go_wp2_with fail
     refine (hM.out _).mono ?_
     rintro e w1 ⟨f1, rfl, hb1⟩
     obtain ⟨m1c, m1d, m1f, m1g⟩ := later2 hb1 (g := w.heap.size) (u := .int .u64 (hi mm)) (v := .int .u64 (lo mm)) (by simp [go_sem, *]) (by simp [go_sem, *]) (by simp [go_sem, *]) (by simp [go_sem, *])
     have m1z : w.heap.size < w1.heap.size := World.block_lt_of_cell? _ _ m1c
     obtain ⟨r1c, r1d, r1f, r1g⟩ := later2 hb1 (g := w.heap.size + 1) (u := .int .u64 0) (v := .int .u64 0) (by simp [go_sem, *]) (by simp [go_sem, *]) (by simp [go_sem, *]) (by simp [go_sem, *])
     have r1z : w.heap.size + 1 < w1.heap.size := World.block_lt_of_cell? _ _ r1c
     obtain ⟨o1c, o1d, o1f, o1g⟩ := later2 hb1 (g := w.heap.size + 2) (u := .int .u64 (hi q)) (v := .int .u64 (lo q)) (by simp [go_sem, *]) (by simp [go_sem, *]) (by simp [go_sem, *]) (by simp [go_sem, *])
     have o1z : w.heap.size + 2 < w1.heap.size := World.block_lt_of_cell? _ _ o1c
     have b1 : Below w.heap.size w w1 := bl2 hb1 hbe
     clear hb1 m1 m2 m3 m4 r1 r2 r3 r4 o1 o2 o3 o4
     go_wp2_with fail
     refine (hQ.out _).mono ?_
     rintro e w2 ⟨f2, rfl, hb2⟩
     obtain ⟨m2c, m2d, m2f, m2g⟩ := later2 hb2 (g := w.heap.size) (u := .int .u64 (hi m')) (v := .int .u64 (lo m')) (by simp [go_sem, *]) (by simp [go_sem, *]) (by simp [go_sem, *]) (by simp [go_sem, *])
     have m2z : w.heap.size < w2.heap.size := World.block_lt_of_cell? _ _ m2c
     obtain ⟨r2c, r2d, r2f, r2g⟩ := later2 hb2 (g := w.heap.size + 1) (u := .int .u64 0) (v := .int .u64 0) (by simp [go_sem, *]) (by simp [go_sem, *]) (by simp [go_sem, *]) (by simp [go_sem, *])
     have r2z : w.heap.size + 1 < w2.heap.size := World.block_lt_of_cell? _ _ r2c
     obtain ⟨o2c, o2d, o2f, o2g⟩ := later2 hb2 (g := w.heap.size + 2) (u := .int .u64 (hi q)) (v := .int .u64 (lo q)) (by simp [go_sem, *]) (by simp [go_sem, *]) (by simp [go_sem, *]) (by simp [go_sem, *])
     have o2z : w.heap.size + 2 < w2.heap.size := World.block_lt_of_cell? _ _ o2c
     have b2 : Below w.heap.size w w2 := bl2 hb2 Bk.be
     clear hb2 m1c m1d m1f m1g r1c r1d r1f r1g o1c o1d o1f o1g
     go_wp2_with fail
     go_roundw
     case rel =>
      refine ⟨k + 1, _, (2 * q + 1), _, HS.out.2 hge, by go_num, by go_num, ⟨?_, ?_, ?_, ?_⟩, ⟨?_, ?_, ?_, ?_⟩, ⟨?_, ?_, ?_, ?_⟩, ?_⟩
      all_goals (first | (simp [go_sem, *]; done) | (rw [← HH.out]; simp [go_sem, *]; done) | (rw [← HL.out]; simp (maxDischargeDepth := 6) [go_sem, *]; done) | exact Bk.be)
     case measure => simp [intOf]; omega
    ·have hge : 2 * r + 1 < n := by omega
     go_wp2_with fail
     refine (hM.out _).mono ?_
     rintro e w1 ⟨f1, rfl, hb1⟩
     obtain ⟨m1c, m1d, m1f, m1g⟩ := later2 hb1 (g := w.heap.size) (u := .int .u64 (hi mm)) (v := .int .u64 (lo mm)) (by simp [go_sem, *]) (by simp [go_sem, *]) (by simp [go_sem, *]) (by simp [go_sem, *])
     have m1z : w.heap.size < w1.heap.size := World.block_lt_of_cell? _ _ m1c
     obtain ⟨r1c, r1d, r1f, r1g⟩ := later2 hb1 (g := w.heap.size + 1) (u := .int .u64 0) (v := .int .u64 0) (by simp [go_sem, *]) (by simp [go_sem, *]) (by simp [go_sem, *]) (by simp [go_sem, *])
     have r1z : w.heap.size + 1 < w1.heap.size := World.block_lt_of_cell? _ _ r1c
     obtain ⟨o1c, o1d, o1f, o1g⟩ := later2 hb1 (g := w.heap.size + 2) (u := .int .u64 (hi q)) (v := .int .u64 (lo q)) (by simp [go_sem, *]) (by simp [go_sem, *]) (by simp [go_sem, *]) (by simp [go_sem, *])
     have o1z : w.heap.size + 2 < w1.heap.size := World.block_lt_of_cell? _ _ o1c
     have b1 : Below w.heap.size w w1 := bl2 hb1 hbe
     clear hb1 m1 m2 m3 m4 r1 r2 r3 r4 o1 o2 o3 o4
     go_wp2_with fail
     refine (hQ.out _).mono ?_
     rintro e w2 ⟨f2, rfl, hb2⟩
     obtain ⟨m2c, m2d, m2f, m2g⟩ := later2 hb2 (g := w.heap.size) (u := .int .u64 (hi m')) (v := .int .u64 (lo m')) (by simp [go_sem, *]) (by simp [go_sem, *]) (by simp [go_sem, *]) (by simp [go_sem, *])
     have m2z : w.heap.size < w2.heap.size := World.block_lt_of_cell? _ _ m2c
     obtain ⟨r2c, r2d, r2f, r2g⟩ := later2 hb2 (g := w.heap.size + 1) (u := .int .u64 0) (v := .int .u64 0) (by simp [go_sem, *]) (by simp [go_sem, *]) (by simp [go_sem, *]) (by simp [go_sem, *])
     have r2z : w.heap.size + 1 < w2.heap.size := World.block_lt_of_cell? _ _ r2c
     obtain ⟨o2c, o2d, o2f, o2g⟩ := later2 hb2 (g := w.heap.size + 2) (u := .int .u64 (hi q)) (v := .int .u64 (lo q)) (by simp [go_sem, *]) (by simp [go_sem, *]) (by simp [go_sem, *]) (by simp [go_sem, *])
     have o2z : w.heap.size + 2 < w2.heap.size := World.block_lt_of_cell? _ _ o2c
     have b2 : Below w.heap.size w w2 := bl2 hb2 Bk.be
     clear hb2 m1c m1d m1f m1g r1c r1d r1f r1g o1c o1d o1f o1g
     go_wp2_with fail
     go_roundw
     case rel =>
      refine ⟨k + 1, _, (2 * q), _, HS.out.1 hge, by go_num, by go_num, ⟨?_, ?_, ?_, ?_⟩, ⟨?_, ?_, ?_, ?_⟩, ⟨?_, ?_, ?_, ?_⟩, ?_⟩
      all_goals (first | (simp [go_sem, *]; done) | exact Bk.be)
     case measure => simp [intOf]; omega
  ·have hk : k = 128 := by omega
   subst hk
   obtain ⟨e1, e2⟩ := hr.end_
   have E1 := Lib.hid e1
   have E2 := Lib.hid e2
   clear hr e1 e2
   go_wp2_with fail
   simp [bodyPost, results, Tryz.results121, go_sem, r1, r2]
   exact ⟨⟨⟨by rw [E1.out], by rw [E1.out]⟩, E2.out⟩, Bk.be⟩
end Go.Proofs.YtaanicginfjgdaaGreatDoor.Wt
