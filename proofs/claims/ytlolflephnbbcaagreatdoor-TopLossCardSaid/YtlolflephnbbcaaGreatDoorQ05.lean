/-
  Parts of the proof: Wd.
-/
import Derived.Lib.BitFns
import Derived.Test.YtlolflephnbbcaaGreatDoorQ01
import Derived.Shelf.Small.Bits
import Derived.Test.YtlolflephnbbcaaGreatDoorProg
import Derived.BigQuiet
namespace Go.Proofs.YtlolflephnbbcaaGreatDoor.Dv
open Go.Proofs.YtlolflephnbbcaaGreatDoor.Wm

structure Ph (A c y1 y0 q r : Int) : Prop where
 a : A = q * y1 + r
 r0 : 0 ≤ r
 r1 : r < 4294967296
 q0 : 0 ≤ q
 q1 : q ≤ 4294967297
 ge : (A * 4294967296 + c) / (y1 * 4294967296 + y0) ≤ q

structure Dom (A c y1 y0 : Int) : Prop where
 y1l : 2147483648 ≤ y1
 y1u : y1 < 4294967296
 y0l : 0 ≤ y0
 y0u : y0 < 4294967296
 cl : 0 ≤ c
 cu : c < 4294967296
 al : 0 ≤ A
 au : A < y1 * 4294967296 + y0

theorem Dom.quo {A c y1 y0 : Int} (h : Dom A c y1 y0) : 0 ≤ (A * 4294967296 + c) / (y1 * 4294967296 + y0) ∧ (A * 4294967296 + c) / (y1 * 4294967296 + y0) < 4294967296 := by
 obtain ⟨a, b, d, e, f, g, i, j⟩ := h
 have hy : 0 < y1 * 4294967296 + y0 := by omega
 refine ⟨Int.ediv_nonneg (by omega) (by omega), ?_⟩
 exact Int.ediv_lt_of_lt_mul hy (by omega)

theorem Dom.start {A c y1 y0 : Int} (h : Dom A c y1 y0) : Ph A c y1 y0 (A / y1) (A - A / y1 * y1) := by
 have hq := h.quo
 obtain ⟨a, b, d, e, f, g, i, j⟩ := h
 have e1 : A = y1 * (A / y1) + A % y1 := (Int.mul_ediv_add_emod A y1).symm
 have e2 := Int.emod_nonneg A (show y1 ≠ 0 by omega)
 have e3 := Int.emod_lt_of_pos A (show 0 < y1 by omega)
 have e4 : 0 ≤ A / y1 := Int.ediv_nonneg i (by omega)
 have e5 : y1 * (A / y1) = A / y1 * y1 := Int.mul_comm _ _
 have e6 : A / y1 < 4294967298 := Int.ediv_lt_of_lt_mul (by omega) (by omega)
 refine ⟨by omega, by omega, by omega, e4, by omega, ?_⟩
 -- the quotient is at most A / y1
 have h1 : (A * 4294967296 + c) / (y1 * 4294967296 + y0) < A / y1 + 1 := by
  refine Int.ediv_lt_of_lt_mul (by omega) ?_
  have m1 : (A / y1 + 1) * (y1 * 4294967296 + y0) = (A / y1 * y1 + y1) * 4294967296 + (A / y1 + 1) * y0 := by rw [Int.mul_add, Int.add_mul, Int.add_mul, Int.one_mul, Int.one_mul, ← Int.mul_assoc]; omega
  have m2 : 0 ≤ (A / y1 + 1) * y0 := Int.mul_nonneg (by omega) d
  rw [m1]
  omega
 omega

theorem Ph.qy {A c y1 y0 q r : Int} (h : Dom A c y1 y0) (p : Ph A c y1 y0 q r) : 0 ≤ q * y0 ∧ (q < 4294967296 → q * y0 ≤ 18446744065119617025) := by
 obtain ⟨a, b, d, e, f, g, i, j⟩ := h
 refine ⟨Int.mul_nonneg p.q0 d, fun hq => ?_⟩
 have := Int.mul_le_mul (show q ≤ 4294967295 by omega) (show y0 ≤ 4294967295 by omega) d (by omega)
 omega

theorem exp_y (q y1 y0 : Int) : q * (y1 * 4294967296 + y0) = q * y1 * 4294967296 + q * y0 := by rw [Int.mul_add, ← Int.mul_assoc]

theorem Ph.found {A c y1 y0 q r : Int} (h : Dom A c y1 y0) (p : Ph A c y1 y0 q r) (hd : q * y0 ≤ 4294967296 * r + c) : q = (A * 4294967296 + c) / (y1 * 4294967296 + y0) := by
 have hle : q ≤ (A * 4294967296 + c) / (y1 * 4294967296 + y0) := by
  refine Int.le_ediv_of_mul_le (by have := h.y1l; have := h.y0l; omega) ?_
  rw [exp_y]
  have := p.a
  omega
 have := p.ge
 omega

theorem Ph.less {A c y1 y0 q r : Int} (h : Dom A c y1 y0) (p : Ph A c y1 y0 q r) (hd : 4294967296 ≤ q ∨ 4294967296 * r + c < q * y0) : (A * 4294967296 + c) / (y1 * 4294967296 + y0) ≤ q - 1 := by
 have hq := h.quo
 rcases hd with hd | hd
 ·omega
 ·have h1 : (A * 4294967296 + c) / (y1 * 4294967296 + y0) < q := by
   refine Int.ediv_lt_of_lt_mul (by have := h.y1l; have := h.y0l; omega) ?_
   rw [exp_y]
   have := p.a
   omega
  omega

theorem Ph.next {A c y1 y0 q r : Int} (h : Dom A c y1 y0) (p : Ph A c y1 y0 q r) (hd : 4294967296 ≤ q ∨ 4294967296 * r + c < q * y0) (hr : r + y1 < 4294967296) : Ph A c y1 y0 (q - 1) (r + y1) := by
 have hl := p.less h hd
 have hq := h.quo
 have := h.y1l
 have e : (q - 1) * y1 = q * y1 - y1 := by rw [Int.sub_mul, Int.one_mul]
 exact ⟨by have := p.a; omega, by have := p.r0; omega, hr, by omega, by have := p.q1; omega, hl⟩

theorem Ph.last {A c y1 y0 q r : Int} (h : Dom A c y1 y0) (p : Ph A c y1 y0 q r) (hd : 4294967296 ≤ q ∨ 4294967296 * r + c < q * y0) (hr : 4294967296 ≤ r + y1) : q - 1 = (A * 4294967296 + c) / (y1 * 4294967296 + y0) := by
 have hl := p.less h hd
 have hle : q - 1 ≤ (A * 4294967296 + c) / (y1 * 4294967296 + y0) := by
  refine Int.le_ediv_of_mul_le (by have := h.y1l; have := h.y0l; omega) ?_
  rw [exp_y]
  have e : (q - 1) * y1 = q * y1 - y1 := by rw [Int.sub_mul, Int.one_mul]
  have hq := h.quo
  have := Int.mul_le_mul (show q - 1 ≤ 4294967296 by have := p.q1; omega) (show y0 ≤ 4294967295 by have := h.y0u; omega) h.y0l (by omega)
  have := p.a
  have := h.cl
  omega
 omega
theorem Ph.pos {A c y1 y0 q r : Int} (h : Dom A c y1 y0) (p : Ph A c y1 y0 q r) (hd : 4294967296 ≤ q ∨ 4294967296 * r + c < q * y0) : 1 ≤ q := by
 have := p.less h hd
 have := h.quo
 omega

theorem rest_of {A c y1 y0 : Int} (h : Dom A c y1 y0) : A * 4294967296 + c - (A * 4294967296 + c) / (y1 * 4294967296 + y0) * (y1 * 4294967296 + y0) = (A * 4294967296 + c) % (y1 * 4294967296 + y0) ∧
  0 ≤ (A * 4294967296 + c) % (y1 * 4294967296 + y0) ∧ (A * 4294967296 + c) % (y1 * 4294967296 + y0) < y1 * 4294967296 + y0 := by
 have hy : 0 < y1 * 4294967296 + y0 := by have := h.y1l; have := h.y0l; omega
 refine ⟨?_, Int.emod_nonneg _ (by omega), Int.emod_lt_of_pos _ hy⟩
 have := Int.mul_ediv_add_emod (A * 4294967296 + c) (y1 * 4294967296 + y0)
 rw [Int.mul_comm] at this
 omega

theorem both {A c d Y : Int} (hY : 0 < Y) : (A * 4294967296 + c) / Y * 4294967296 + ((A * 4294967296 + c) % Y * 4294967296 + d) / Y = ((A * 4294967296 + c) * 4294967296 + d) / Y ∧
  ((A * 4294967296 + c) % Y * 4294967296 + d) % Y = ((A * 4294967296 + c) * 4294967296 + d) % Y := by
 have e := Int.mul_ediv_add_emod (A * 4294967296 + c) Y
 generalize (A * 4294967296 + c) / Y = q at *
 generalize (A * 4294967296 + c) % Y = r at *
 have e2 : (A * 4294967296 + c) * 4294967296 + d = (r * 4294967296 + d) + Y * (q * 4294967296) := by rw [← e, Int.add_mul, Int.mul_assoc]; omega
 rw [e2, Int.add_mul_ediv_left _ _ (by omega), Int.add_mul_emod_self_left]
 exact ⟨by omega, rfl⟩

theorem scaled (N y : Int) {p : Int} (hp : 0 < p) : N * p / (y * p) = N / y ∧ N * p % (y * p) / p = N % y := by
 rw [Int.mul_ediv_mul_of_pos_left _ _ hp]
 refine ⟨rfl, ?_⟩
 rw [Int.mul_comm N p, Int.mul_comm y p, Int.mul_emod_mul_of_pos _ _ hp, Int.mul_ediv_cancel_left _ (by omega)]

/-! ### the leading zeros -/
theorem bitLen_pos : ∀ (f x : Nat), x < 2 ^ f → x ≠ 0 → 2 ^ (Lib.bitLenAux f x - 1) ≤ x ∧ x < 2 ^ (Lib.bitLenAux f x) ∧ 1 ≤ Lib.bitLenAux f x
 | 0, x, h, h0 => by simp at h; omega
 | f + 1, x, h, h0 => by
  simp only [Lib.bitLenAux, if_neg h0]
  by_cases h2 : x / 2 = 0
  ·have : x = 1 := by omega
   subst this
   cases f <;> simp [Lib.bitLenAux]
  ·obtain ⟨a, b, c⟩ := bitLen_pos f (x / 2) (by rw [Nat.pow_succ] at h; omega) h2
   generalize Lib.bitLenAux f (x / 2) = m at *
   obtain ⟨m, rfl⟩ : ∃ k, m = k + 1 := ⟨m - 1, by omega⟩
   simp only [Nat.add_sub_cancel] at a
   rw [show 1 + (m + 1) - 1 = m + 1 by omega, show 1 + (m + 1) = m + 2 by omega]
   rw [Nat.pow_succ] at b
   rw [Nat.pow_succ, Nat.pow_succ, Nat.pow_succ]
   omega
theorem lz (y : Int) (h0 : 1 ≤ y) (h1 : y < 18446744073709551616) : ∃ n : Nat, n ≤ 63 ∧ 64 - (Lib.bitLen y.toNat : Int) = n ∧ 9223372036854775808 ≤ y * 2 ^ n ∧ y * 2 ^ n < 18446744073709551616 := by
 obtain ⟨y, rfl⟩ := Int.eq_ofNat_of_zero_le (show 0 ≤ y by omega)
 obtain ⟨a, b, c⟩ := bitLen_pos 64 y (by omega) (by omega)
 have d := Lib.bitLen_le y 64 (Nat.le_refl _) (by omega)
 simp only [Int.toNat_natCast]
 unfold Lib.bitLen at *
 generalize Lib.bitLenAux 64 y = m at *
 have e : (y : Int) * 2 ^ (64 - m) = ((y * 2 ^ (64 - m) : Nat) : Int) := by rw [Int.natCast_mul, Int.natCast_pow]; rfl
 refine ⟨64 - m, by omega, by omega, ?_, ?_⟩ <;> rw [e]
 ·have : 2 ^ (m - 1) * 2 ^ (64 - m) ≤ y * 2 ^ (64 - m) := Nat.mul_le_mul_right _ a
  rw [← Nat.pow_add, show m - 1 + (64 - m) = 63 by omega] at this
  omega
 ·have : y * 2 ^ (64 - m) < 2 ^ m * 2 ^ (64 - m) := Nat.mul_lt_mul_of_pos_right b (Nat.two_pow_pos _)
  rw [← Nat.pow_add, show m + (64 - m) = 64 by omega] at this
  omega
end Go.Proofs.YtlolflephnbbcaaGreatDoor.Dv

namespace Go.Proofs
open Go.Shelf
def Tryz.lays134_ren : Go.Shelf.Ren := ⟨fun | 134 => 217 | 129 => 230 | n => n, fun | 3 => 3 | 4 => 4 | 5 => 5 | 9 => 9 | 46 => 235 | 53 => 78 | n => n, fun | n => n⟩
theorem Tryz.lays134 : Go.Proofs.Lays.n134 Tryz.prog Tryz.lays134_ren := {
 mixed := by kernel_rfl
 f129 := Tryz.func230.trans (congrArg some (by kernel_rfl))
 f134 := Tryz.func217.trans (congrArg some (by kernel_rfl))
 t3 := Tryz.underlying3
 a3 := Tryz.isAgg3
 z3 := Tryz.sizeOf3
 v3 := Tryz.zeroValue3
 t4 := Tryz.underlying4
 a4 := Tryz.isAgg4
 z4 := Tryz.sizeOf4
 v4 := Tryz.zeroValue4
 t5 := Tryz.underlying5
 a5 := Tryz.isAgg5
 z5 := Tryz.sizeOf5
 v5 := Tryz.zeroValue5
 t9 := Tryz.underlying9
 a9 := Tryz.isAgg9
 z9 := Tryz.sizeOf9
 v9 := Tryz.zeroValue9
 t46 := Tryz.underlying235
 a46 := Tryz.isAgg235
 z46 := Tryz.sizeOf235
 v46 := Tryz.zeroValue235
 t53 := Tryz.underlying78
 a53 := Tryz.isAgg78
 z53 := Tryz.sizeOf78
 v53 := Tryz.zeroValue78 }
open Go.Lib in
theorem Tryz.bits_LeadingZeros64 (x : Int) (w : World) (h0 : 0 ≤ x) (h1 : x ≤ 18446744073709551615) :
  Calls Tryz.prog 217 #[.int .u64 x] w fun e w' => e = .returned (.int .i64 (64 - (Lib.bitLen x.toNat : Int))) ∧ w' = w := Any.bits_LeadingZeros64 Tryz.lays134 x w h0 h1
end Go.Proofs

namespace Go.Proofs.YtlolflephnbbcaaGreatDoor.Wt
open Go.RowKit
open Go.Proofs.YtlolflephnbbcaaGreatDoor.Wm
open Go.Proofs.YtlolflephnbbcaaGreatDoor.Dv

theorem lz64 (y : Int) (n : Nat) (w : World) (h0 : 1 ≤ y) (h1 : y < 18446744073709551616) (hn : 64 - (Lib.bitLen y.toNat : Int) = n) : Calls Tryz.prog 217 #[.int .u64 y] w fun e w' => e = .returned (.int .i64 n) ∧ w = w' := by
 refine (Tryz.bits_LeadingZeros64 y w (by omega) (by omega)).mono ?_
 rintro e w' ⟨rfl, rfl⟩
 exact ⟨by rw [hn], rfl⟩

def PhAt (A c y1 y0 : Int) (q r : Value) : Prop := ∃ a b : Int, q = .int .u64 a ∧ r = .int .u64 b ∧ Ph A c y1 y0 a b

set_option maxHeartbeats 4000000 in
theorem div64_core (h l y : Int) (n : Nat) (A c1 c0 Y y1 y0 Q1 R1 Q0 F G : Int) (w : World) (hy : 1 ≤ y) (hy2 : y < 18446744073709551616) (hh : 0 < h) (hhy : h < y) (hl : U64 l) (hn : n ≤ 63)
  (HZ : Hid (64 - (Lib.bitLen y.toNat : Int) = n)) (g8 : Hid (IntKind.u64.wrap (y * 2 ^ n) = Y)) (g0 : 2147483648 ≤ IntKind.u64.wrap (y * 2 ^ n) / 4294967296)
  (D1 : Hid (Dom A c1 y1 y0)) (D2 : Hid (Dom R1 c0 y1 y0)) (hQ1 : Hid (Q1 = (A * 4294967296 + c1) / (y1 * 4294967296 + y0))) (hQ0 : Hid (Q0 = (R1 * 4294967296 + c0) / (y1 * 4294967296 + y0)))
  (g1 : Hid (Y / 4294967296 = y1)) (g2 : Hid (bits .and .u64 Y 4294967295 = y0)) (g3 : Hid (bits .or .u64 (IntKind.u64.wrap (h * 2 ^ n)) (l / 2 ^ (64 - n)) = A))
  (g4 : Hid (IntKind.u64.wrap (l * 2 ^ n) / 4294967296 = c1)) (g5 : Hid (bits .and .u64 (IntKind.u64.wrap (l * 2 ^ n)) 4294967295 = c0)) (g6 : Hid (IntKind.u64.wrap (A.tdiv y1) = A / y1)) (g7 : Hid (IntKind.u64.wrap (A - IntKind.u64.wrap (A / y1 * y1)) = A - A / y1 * y1))
  (g9 : Hid (IntKind.u64.wrap (IntKind.u64.wrap (IntKind.u64.wrap (A * 4294967296) + c1) - IntKind.u64.wrap (Q1 * Y)) = R1))
  (k6 : Hid (IntKind.u64.wrap (R1.tdiv y1) = R1 / y1)) (k7 : Hid (IntKind.u64.wrap (R1 - IntKind.u64.wrap (R1 / y1 * y1)) = R1 - R1 / y1 * y1))
  (f1 : Hid (IntKind.u64.wrap (IntKind.u64.wrap (Q1 * 4294967296) + Q0) = F)) (f2 : Hid (IntKind.u64.wrap (IntKind.u64.wrap (IntKind.u64.wrap (R1 * 4294967296) + c0) - IntKind.u64.wrap (Q0 * Y)) / 2 ^ n = G)) :
  Calls Tryz.prog 194 #[.int .u64 h, .int .u64 l, .int .u64 y] w fun e w' => e = .returned (.tuple #[.int .u64 F, .int .u64 G]) ∧ w = w' := by
 obtain ⟨hl0, hl1⟩ := hl
 go_enter Tryz.func194, Tryz.ntmps194
 go_wp2_with fail
 refine (lz64 y n _ hy hy2 HZ.out).mono ?_
 rintro e w' ⟨rfl, rfl⟩
 go_wp2_with fail
 rw [g3.out, g4.out, g5.out, g8.out, g2.out, g1.out, g6.out, g7.out]
 clear g0
 obtain ⟨d1, d2, d3, d4, d5, d6, d7, d8⟩ := D1.out
 go_loop [15, 16] (PhAt A c1 y1 y0) (fun q _ => (intOf q).toNat)
 case atStart => exact ⟨_, _, rfl, rfl, D1.out.start⟩
 case round =>
  obtain ⟨q, r, rfl, rfl, hq⟩ := hrel
  have Hq := Lib.hid hq
  obtain ⟨p1, p2, p3, p4, p5, p6⟩ := hq
  clear p1 p6
  by_cases hc : q < 4294967296
  ·obtain ⟨m1, m2⟩ := Hq.out.qy D1.out
   have m2 := m2 hc
   by_cases hd : 4294967296 * r + c1 < q * y0
   ·have hp := Hq.out.pos D1.out (Or.inr hd)
    by_cases hr : r + y1 < 4294967296
    ·go_wp2_with fail
     go_round
     case rel => exact ⟨_, _, rfl, rfl, Hq.out.next D1.out (Or.inr hd) hr⟩
     case measure => simp [intOf]; omega
    ·have hf := (Hq.out.last D1.out (Or.inr hd) (by omega)).trans hQ1.out.symm
     have HF := Lib.hid hf
     clear hf
     go_wp2_with fail
     rw [HF.out]
     rw [g9.out, k6.out, k7.out]
     clear hc p2 p3 p4 p5
     obtain ⟨j1, j2, j3, j4, j5, j6, j7, j8⟩ := D2.out
     go_loop [16, 18] (fun r q => PhAt R1 c0 y1 y0 q r) (fun _ q => (intOf q).toNat)
     case atStart => exact ⟨_, _, rfl, rfl, D2.out.start⟩
     case round =>
      obtain ⟨q', r', rfl, rfl, hq'⟩ := hrel
      have Hq' := Lib.hid hq'
      obtain ⟨p1, p2, p3, p4, p5, p6⟩ := hq'
      clear p1 p6
      by_cases hc : q' < 4294967296
      ·obtain ⟨m1, m2⟩ := Hq'.out.qy D2.out
       have m2 := m2 hc
       by_cases hd : 4294967296 * r' + c0 < q' * y0
       ·have hp := Hq'.out.pos D2.out (Or.inr hd)
        by_cases hr : r' + y1 < 4294967296
        ·go_wp2_with fail
         go_round
         case rel => exact ⟨_, _, rfl, rfl, Hq'.out.next D2.out (Or.inr hd) hr⟩
         case measure => simp [intOf]; omega
        ·have hf := (Hq'.out.last D2.out (Or.inr hd) (by omega)).trans hQ0.out.symm
         have HF := Lib.hid hf
         clear hf
         go_wp2_with fail
         rw [HF.out]
         rw [f1.out, f2.out]
         go_ret2
         exact ⟨rfl, rfl⟩
       ·have hf := (Hq'.out.found D2.out (by omega)).trans hQ0.out.symm
        have hd2 : decide (4294967296 * r' + c0 < q' * y0) = false := decide_eq_false hd
        have HF := Lib.hid hf
        clear hd hf
        go_wp2_with fail
        rw [HF.out]
        rw [f1.out, f2.out]
        go_ret2
        exact ⟨rfl, rfl⟩
      ·have hc : 4294967296 ≤ q' := by omega
       have hp : 1 ≤ q' := by omega
       by_cases hr : r' + y1 < 4294967296
       ·go_wp2_with fail
        go_round
        case rel => exact ⟨_, _, rfl, rfl, Hq'.out.next D2.out (Or.inl hc) hr⟩
        case measure => simp [intOf]; omega
       ·have hf := (Hq'.out.last D2.out (Or.inl hc) (by omega)).trans hQ0.out.symm
        have HF := Lib.hid hf
        clear hf
        go_wp2_with fail
        rw [HF.out]
        rw [f1.out, f2.out]
        go_ret2
        exact ⟨rfl, rfl⟩
   ·have hf := (Hq.out.found D1.out (by omega)).trans hQ1.out.symm
    have hd2 : decide (4294967296 * r + c1 < q * y0) = false := decide_eq_false hd
    have HF := Lib.hid hf
    clear hd hf
    go_wp2_with fail
    rw [HF.out]
    rw [g9.out, k6.out, k7.out]
    clear hc p2 p3 p4 p5
    obtain ⟨j1, j2, j3, j4, j5, j6, j7, j8⟩ := D2.out
    go_loop [16, 18] (fun r q => PhAt R1 c0 y1 y0 q r) (fun _ q => (intOf q).toNat)
    case atStart => exact ⟨_, _, rfl, rfl, D2.out.start⟩
    case round =>
     obtain ⟨q', r', rfl, rfl, hq'⟩ := hrel
     have Hq' := Lib.hid hq'
     obtain ⟨p1, p2, p3, p4, p5, p6⟩ := hq'
     clear p1 p6
     by_cases hc : q' < 4294967296
     ·obtain ⟨m1, m2⟩ := Hq'.out.qy D2.out
      have m2 := m2 hc
      by_cases hd : 4294967296 * r' + c0 < q' * y0
      ·have hp := Hq'.out.pos D2.out (Or.inr hd)
       by_cases hr : r' + y1 < 4294967296
       ·go_wp2_with fail
        go_round
        case rel => exact ⟨_, _, rfl, rfl, Hq'.out.next D2.out (Or.inr hd) hr⟩
        case measure => simp [intOf]; omega
       ·have hf := (Hq'.out.last D2.out (Or.inr hd) (by omega)).trans hQ0.out.symm
        have HF := Lib.hid hf
        clear hf
        go_wp2_with fail
        rw [HF.out]
        rw [f1.out, f2.out]
        go_ret2
        exact ⟨rfl, rfl⟩
      ·have hf := (Hq'.out.found D2.out (by omega)).trans hQ0.out.symm
       have hd2 : decide (4294967296 * r' + c0 < q' * y0) = false := decide_eq_false hd
       have HF := Lib.hid hf
       clear hd hf
       go_wp2_with fail
       rw [HF.out]
       rw [f1.out, f2.out]
       go_ret2
       exact ⟨rfl, rfl⟩
     ·have hc : 4294967296 ≤ q' := by omega
      have hp : 1 ≤ q' := by omega
      by_cases hr : r' + y1 < 4294967296
      ·go_wp2_with fail
       go_round
       case rel => exact ⟨_, _, rfl, rfl, Hq'.out.next D2.out (Or.inl hc) hr⟩
       case measure => simp [intOf]; omega
      ·have hf := (Hq'.out.last D2.out (Or.inl hc) (by omega)).trans hQ0.out.symm
       have HF := Lib.hid hf
       clear hf
       go_wp2_with fail
       rw [HF.out]
       rw [f1.out, f2.out]
       go_ret2
       exact ⟨rfl, rfl⟩
  ·have hc : 4294967296 ≤ q := by omega
   have hp : 1 ≤ q := by omega
   by_cases hr : r + y1 < 4294967296
   ·go_wp2_with fail
    go_round
    case rel => exact ⟨_, _, rfl, rfl, Hq.out.next D1.out (Or.inl hc) hr⟩
    case measure => simp [intOf]; omega
   ·have hf := (Hq.out.last D1.out (Or.inl hc) (by omega)).trans hQ1.out.symm
    have HF := Lib.hid hf
    clear hf
    go_wp2_with fail
    rw [HF.out]
    rw [g9.out, k6.out, k7.out]
    clear hc p2 p3 p4 p5
    obtain ⟨j1, j2, j3, j4, j5, j6, j7, j8⟩ := D2.out
    go_loop [16, 18] (fun r q => PhAt R1 c0 y1 y0 q r) (fun _ q => (intOf q).toNat)
    case atStart => exact ⟨_, _, rfl, rfl, D2.out.start⟩
    case round =>
     obtain ⟨q', r', rfl, rfl, hq'⟩ := hrel
     have Hq' := Lib.hid hq'
     obtain ⟨p1, p2, p3, p4, p5, p6⟩ := hq'
     clear p1 p6
     by_cases hc : q' < 4294967296
     ·obtain ⟨m1, m2⟩ := Hq'.out.qy D2.out
      have m2 := m2 hc
      by_cases hd : 4294967296 * r' + c0 < q' * y0
      ·have hp := Hq'.out.pos D2.out (Or.inr hd)
       by_cases hr : r' + y1 < 4294967296
       ·go_wp2_with fail
        go_round
        case rel => exact ⟨_, _, rfl, rfl, Hq'.out.next D2.out (Or.inr hd) hr⟩
        case measure => simp [intOf]; omega
       ·have hf := (Hq'.out.last D2.out (Or.inr hd) (by omega)).trans hQ0.out.symm
        have HF := Lib.hid hf
        clear hf
        go_wp2_with fail
        rw [HF.out]
        rw [f1.out, f2.out]
        go_ret2
        exact ⟨rfl, rfl⟩
      ·have hf := (Hq'.out.found D2.out (by omega)).trans hQ0.out.symm
       have hd2 : decide (4294967296 * r' + c0 < q' * y0) = false := decide_eq_false hd
       have HF := Lib.hid hf
       clear hd hf
       go_wp2_with fail
       rw [HF.out]
       rw [f1.out, f2.out]
       go_ret2
       exact ⟨rfl, rfl⟩
     ·have hc : 4294967296 ≤ q' := by omega
      have hp : 1 ≤ q' := by omega
      by_cases hr : r' + y1 < 4294967296
      ·go_wp2_with fail
       go_round
       case rel => exact ⟨_, _, rfl, rfl, Hq'.out.next D2.out (Or.inl hc) hr⟩
       case measure => simp [intOf]; omega
      ·have hf := (Hq'.out.last D2.out (Or.inl hc) (by omega)).trans hQ0.out.symm
       have HF := Lib.hid hf
       clear hf
       go_wp2_with fail
       rw [HF.out]
       rw [f1.out, f2.out]
       go_ret2
       exact ⟨rfl, rfl⟩
end Go.Proofs.YtlolflephnbbcaaGreatDoor.Wt

namespace Go.Proofs.YtlolflephnbbcaaGreatDoor.Wt
open Go.RowKit
open Go.Proofs.YtlolflephnbbcaaGreatDoor.Wm
open Go.Proofs.YtlolflephnbbcaaGreatDoor.Dv

/-! ### the bits -/
theorem and32 (n : Int) (h0 : 0 ≤ n) (h1 : n ≤ 18446744073709551615) : bits .and .u64 n 4294967295 = n % 4294967296 := by
 obtain ⟨n, rfl⟩ := Int.eq_ofNat_of_zero_le h0
 show IntKind.u64.wrap ((BitVec.ofInt 64 (n : Int) &&& BitVec.ofInt 64 4294967295).toNat : Int) = _
 rw [show BitVec.ofInt 64 4294967295 = BitVec.ofNat 64 4294967295 from by decide, show BitVec.ofInt 64 (n : Int) = BitVec.ofNat 64 n from by simp, BitVec.toNat_and, BitVec.toNat_ofNat, BitVec.toNat_ofNat, Nat.mod_eq_of_lt (by omega), Nat.mod_eq_of_lt (by decide), show (4294967295 : Nat) = 2 ^ 32 - 1 from rfl, Nat.and_two_pow_sub_one_eq_mod, IntKind.wrap_u64]
 omega
theorem or64n (a b k : Nat) (hb : b < 2 ^ k) (h : 2 ^ k * a + b < 18446744073709551616) : bits .or .u64 ((2 ^ k * a : Nat) : Int) (b : Int) = ((2 ^ k * a + b : Nat) : Int) := by
 have e := Nat.two_pow_add_eq_or_of_lt hb a
 generalize 2 ^ k * a = x at *
 show IntKind.u64.wrap ((BitVec.ofInt 64 (x : Int) ||| BitVec.ofInt 64 (b : Int)).toNat : Int) = _
 rw [show BitVec.ofInt 64 (x : Int) = BitVec.ofNat 64 x from by simp, show BitVec.ofInt 64 (b : Int) = BitVec.ofNat 64 b from by simp, BitVec.toNat_or, BitVec.toNat_ofNat, BitVec.toNat_ofNat, Nat.mod_eq_of_lt (by omega), Nat.mod_eq_of_lt (by omega), ← e, IntKind.wrap_u64]
 omega
theorem pow_cast (n : Nat) : (2 : Int) ^ n = ((2 ^ n : Nat) : Int) := by rw [Int.natCast_pow]; rfl
theorem or64 (a b : Int) (k : Nat) (ha : 0 ≤ a) (hb : 0 ≤ b) (hb1 : b < 2 ^ k) (h : a * 2 ^ k + b < 18446744073709551616) : bits .or .u64 (a * 2 ^ k) b = a * 2 ^ k + b := by
 obtain ⟨a, rfl⟩ := Int.eq_ofNat_of_zero_le ha
 obtain ⟨b, rfl⟩ := Int.eq_ofNat_of_zero_le hb
 have e : (a : Int) * 2 ^ k = ((2 ^ k * a : Nat) : Int) := by rw [Int.natCast_mul, ← pow_cast, Int.mul_comm]
 rw [pow_cast] at hb1
 rw [e] at h ⊢
 have := or64n a b k (by omega) (by omega)
 rw [this]
 omega

theorem div64_zero (l y : Int) (w : World) (hy : 1 ≤ y) (hy2 : y < 18446744073709551616) (hl : U64 l) : Calls Tryz.prog 194 #[.int .u64 0, .int .u64 l, .int .u64 y] w fun e w' => e = .returned (.tuple #[.int .u64 (l / y), .int .u64 (l % y)]) ∧ Below w.heap.size w w' := by
 obtain ⟨hl0, hl1⟩ := hl
 have b1 := Int.ediv_nonneg hl0 (show 0 ≤ y by omega)
 have b2 : l / y ≤ l := Int.ediv_le_self _ hl0
 have b3 := Int.emod_nonneg l (show y ≠ 0 by omega)
 have b4 := Int.emod_lt_of_pos l (show 0 < y by omega)
 have hy0 : (y == 0) = false := by simp; omega
 go_enter Tryz.func194, Tryz.ntmps194
 go_wp2_with fail
 go_quiet (fail)
 go_wp2_with fail
 go_ret2
 have h := Below.refl w.heap.size w
 exact ⟨rfl, ⟨h.os, h.tape, h.output, h.size, h.block⟩⟩

theorem div64 (h l y : Int) (w : World) (h0 : 0 ≤ h) (hhy : h < y) (hy2 : y < 18446744073709551616) (hl : U64 l) :
  Calls Tryz.prog 194 #[.int .u64 h, .int .u64 l, .int .u64 y] w fun e w' => e = .returned (.tuple #[.int .u64 ((h * 18446744073709551616 + l) / y), .int .u64 ((h * 18446744073709551616 + l) % y)]) ∧ Below w.heap.size w w' := by
 by_cases hz : h = 0
 ·subst hz
  rw [Int.zero_mul, Int.zero_add]
  exact div64_zero l y w (by omega) hy2 hl
 obtain ⟨n, hn, hzn, s1, s2⟩ := lz y (by omega) hy2
 have hl' := hl
 obtain ⟨hl0, hl1⟩ := hl
 have hp : (0 : Int) < 2 ^ n := by rw [pow_cast]; have := Nat.two_pow_pos n; omega
 have hq : (0 : Int) < 2 ^ (64 - n) := by rw [pow_cast]; have := Nat.two_pow_pos (64 - n); omega
 have hpq : (2 : Int) ^ (64 - n) * 2 ^ n = 18446744073709551616 := by rw [← Int.pow_add, show 64 - n + n = 64 by omega]; rfl
 obtain ⟨S1, S2⟩ := scaled (h * 18446744073709551616 + l) y hp
 have or3 := or64 h (l / 2 ^ (64 - n)) n h0 (Int.ediv_nonneg hl0 (by omega))
 generalize hpp : (2 : Int) ^ n = p at *
 generalize hqq : (2 : Int) ^ (64 - n) = q at *
 -- the lower word splits
 have e1 : l * p = l / q * 18446744073709551616 + l * p % 18446744073709551616 := by
  have a := Int.mul_ediv_add_emod (l * p) 18446744073709551616
  have b : l * p / 18446744073709551616 = l / q := by rw [← hpq, Int.mul_ediv_mul_of_pos_left _ _ hp]
  rw [b] at a
  omega
 have e2 : l / q < p := Int.ediv_lt_of_lt_mul hq (by rw [Int.mul_comm, hpq]; exact hl1)
 have e3 : 0 ≤ l / q := Int.ediv_nonneg hl0 (by omega)
 have m0 : 0 ≤ h * p := Int.mul_nonneg h0 (by omega)
 have m1 : h * p ≤ (y - 1) * p := Int.mul_le_mul_of_nonneg_right (by omega) (by omega)
 have m2 : (y - 1) * p = y * p - p := by rw [Int.sub_mul, Int.one_mul]
 have hN : (h * 18446744073709551616 + l) * p = (h * p + l / q) * 18446744073709551616 + l * p % 18446744073709551616 := by
  rw [Int.add_mul, Int.mul_assoc, Int.mul_comm 18446744073709551616 p, ← Int.mul_assoc]
  omega
 have or4 := or3 e2 (by omega)
 rw [hN] at S1 S2
 have u0 := Int.emod_nonneg (l * p) (show (18446744073709551616 : Int) ≠ 0 by decide)
 have u1 := Int.emod_lt_of_pos (l * p) (show (0 : Int) < 18446744073709551616 by decide)
 have hw1 : IntKind.u64.wrap (l * p) = l * p % 18446744073709551616 := by rw [IntKind.wrap_u64]
 have hw2 : IntKind.u64.wrap (h * p) = h * p := by rw [IntKind.wrap_u64]; omega
 have hw3 : IntKind.u64.wrap (y * p) = y * p := by rw [IntKind.wrap_u64]; omega
 generalize hA : h * p + l / q = A at *
 have hA0 : 0 ≤ A := by omega
 have hA1 : A < y * p := by omega
 clear e1 hN m1 m2 or3 hA
 generalize l * p % 18446744073709551616 = D at *
 generalize hY : y * p = Y at *
 have eY : Y = Y / 4294967296 * 4294967296 + Y % 4294967296 := by omega
 have D1 : Dom A (D / 4294967296) (Y / 4294967296) (Y % 4294967296) := ⟨by omega, by omega, by omega, by omega, by omega, by omega, hA0, by omega⟩
 have r1 := rest_of D1
 have q1 := D1.quo
 rw [← eY] at r1 q1
 obtain ⟨B1, B2⟩ := both (A := A) (c := D / 4294967296) (d := D % 4294967296) (Y := Y) (by omega)
 have eD : (A * 4294967296 + D / 4294967296) * 4294967296 + D % 4294967296 = A * 18446744073709551616 + D := by omega
 rw [eD, S1] at B1
 rw [eD] at B2
 have st1 := D1.start
 have st6 : A.tdiv (Y / 4294967296) = A / (Y / 4294967296) := Int.tdiv_eq_ediv_of_nonneg hA0
 have D2 : Dom ((A * 4294967296 + D / 4294967296) % Y) (D % 4294967296) (Y / 4294967296) (Y % 4294967296) := ⟨by omega, by omega, by omega, by omega, by omega, by omega, by omega, by omega⟩
 have r2 := rest_of D2
 have q2 := D2.quo
 have st2 := D2.start
 rw [← eY] at r2 q2
 have st7 : ((A * 4294967296 + D / 4294967296) % Y).tdiv (Y / 4294967296) = (A * 4294967296 + D / 4294967296) % Y / (Y / 4294967296) := Int.tdiv_eq_ediv_of_nonneg r1.2.1
 suffices H : Calls Tryz.prog 194 #[.int .u64 h, .int .u64 l, .int .u64 y] w fun e w' => e = .returned (.tuple #[.int .u64 ((h * 18446744073709551616 + l) / y), .int .u64 ((h * 18446744073709551616 + l) % y)]) ∧ w = w' from H.mono (by rintro e w' ⟨rfl, rfl⟩; exact ⟨rfl, Below.refl _ _⟩)
 refine div64_core h l y n A (D / 4294967296) (D % 4294967296) Y (Y / 4294967296) (Y % 4294967296) ((A * 4294967296 + D / 4294967296) / Y) ((A * 4294967296 + D / 4294967296) % Y) (((A * 4294967296 + D / 4294967296) % Y * 4294967296 + D % 4294967296) / Y) _ _ w (by omega) hy2 (by omega) hhy hl' hn (Lib.hid hzn) (Lib.hid ?_) ?_ (Lib.hid D1) (Lib.hid D2) (Lib.hid ?_) (Lib.hid ?_) (Lib.hid ?_) (Lib.hid ?_) (Lib.hid ?_) (Lib.hid ?_) (Lib.hid ?_) (Lib.hid ?_) (Lib.hid ?_) (Lib.hid ?_) (Lib.hid ?_) (Lib.hid ?_) (Lib.hid ?_) (Lib.hid ?_)
 all_goals (try rw [hpp])
 ·rw [hY]; exact hw3
 ·rw [hY, hw3]; omega
 ·rw [← eY]
 ·rw [← eY]
 ·rfl
 ·exact and32 Y (by omega) (by omega)
 ·rw [hqq, hw2]; exact or4
 ·rw [hw1]
 ·rw [hw1]; exact and32 D (by omega) (by omega)
 ·rw [st6, IntKind.wrap_u64]; have := st1.q0; have := st1.q1; omega
 ·have a := Int.mul_nonneg st1.q0 (show 0 ≤ Y / 4294967296 by omega)
  have b := st1.r0
  rw [IntKind.wrap_u64, IntKind.wrap_u64]
  generalize A / (Y / 4294967296) * (Y / 4294967296) = z at *
  omega
 ·have a := r1.1
  rw [IntKind.wrap_u64, IntKind.wrap_u64, IntKind.wrap_u64, IntKind.wrap_u64]
  have b := r1.2
  generalize (A * 4294967296 + D / 4294967296) % Y = z at *
  generalize (A * 4294967296 + D / 4294967296) / Y * Y = y' at *
  omega
 ·rw [st7, IntKind.wrap_u64]; have := st2.q0; have := st2.q1; omega
 ·have a := Int.mul_nonneg st2.q0 (show 0 ≤ Y / 4294967296 by omega)
  have b := st2.r0
  have c := r1.2
  rw [IntKind.wrap_u64, IntKind.wrap_u64]
  generalize (A * 4294967296 + D / 4294967296) % Y = v at *
  generalize v / (Y / 4294967296) * (Y / 4294967296) = z at *
  omega
 ·rw [← B1, IntKind.wrap_u64, IntKind.wrap_u64]; omega
 ·rw [← S2, ← B2]
  have a := r2.1
  have b := r2.2
  rw [IntKind.wrap_u64, IntKind.wrap_u64, IntKind.wrap_u64, IntKind.wrap_u64]
  generalize ((A * 4294967296 + D / 4294967296) % Y * 4294967296 + D % 4294967296) / Y * Y = z at *
  generalize (A * 4294967296 + D / 4294967296) % Y = v at *
  congr 1
  omega
end Go.Proofs.YtlolflephnbbcaaGreatDoor.Wt
