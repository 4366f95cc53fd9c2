/-
  The contract of the reference's Quotient.
-/
import Derived.Test.YtieklkpjlbpnbaaDoorR9
namespace Go.Proofs.YtieklkpjlbpnbaaDoor.Wt
open Go.RowKit
open Go.Proofs.YtieklkpjlbpnbaaDoor
open Go.Proofs.YtieklkpjlbpnbaaDoor.Wm

/-- The loop's own relation. -/
def QLoop (w : World) (m n : Int) (vr vi : Value) (wr : World) : Prop := ∃ (k : Nat) (mm q r : Int), QRel m n k mm q r ∧ vr = .int .u64 r ∧ vi = .int .i64 k ∧
  Two wr w.heap.size (.int .u64 (hi mm)) (.int .u64 (lo mm)) ∧ Two wr (w.heap.size + 1) (.int .u64 0) (.int .u64 0) ∧ Two wr (w.heap.size + 2) (.int .u64 (hi q)) (.int .u64 (lo q)) ∧ Below w.heap.size w wr
theorem lo_even (q : Int) : IntKind.u64.wrap (lo (2 * q) + 1) = lo (2 * q + 1) ∧ hi (2 * q) = hi (2 * q + 1) := by
  rw [IntKind.wrap_u64]; unfold lo hi; omega

set_option maxRecDepth 4000 in
set_option maxHeartbeats 4000000 in
theorem rquot_any (m n : Int) (w : World) (hm : U128 m) (h0 : 0 < n) (hn : n ≤ 9223372036854775807) :
    Calls Tryd.prog 47 #[.agg #[.int .u64 (hi m), .int .u64 (lo m)], .int .u64 n] w fun e w' => e = .returned (.tuple #[.agg #[.int .u64 (hi (m / n)), .int .u64 (lo (m / n))], .int .u64 (m % n)]) ∧ Below w.heap.size w w' := by
  go_enter Tryd.func47, Tryd.ntmps47
  go_wp2_with fail
  go_loopw [7, 8] (QLoop w m n) (fun _ i _ => (128 - intOf i).toNat)
  case atStart => exact ⟨0, m, 0, 0, QRel.start hm h0, rfl, rfl, ⟨by simp [go_sem], by simp [go_sem], by simp [go_sem], by simp [go_sem]⟩, ⟨by simp [go_sem], by simp [go_sem], by simp [go_sem], by simp [go_sem]⟩, ⟨by simp [go_sem, hi_0], by simp [go_sem, lo_0], by simp [go_sem], by simp [go_sem]⟩, (by repeat (first | assumption | exact Below.refl _ _ | refine Below.setCell ?_ (by first | exact Nat.le_refl _ | (simp; done) | (simp; omega) | omega) _ | refine Below.alloc ?_ (by first | exact Nat.le_refl _ | (simp; done) | (simp; omega) | omega) _ | refine Below.drew ?_ | exact Nat.le_refl _))⟩
  case round =>
    obtain ⟨k, mm, q, r, hr, rfl, rfl, ⟨m1, m2, m3, m4⟩, ⟨r1, r2, r3, r4⟩, ⟨o1, o2, o3, o4⟩, hbe⟩ := hrel
    have hk := hr.le
    have hr0 := hr.r0
    have hr1 := hr.r1
    have sz2 : w.heap.size + 2 < wr.heap.size := World.block_lt_of_cell? _ _ o1
    by_cases hlt : k < 128
    · obtain ⟨hmm, hq⟩ := hr.mmb
      have hq := hq hlt
      have hq0 := hr.q0
      have hmw := hi_bdu hmm
      have hM := Lib.hid (fun W => rshift_any mm W hmm)
      have hdq : dbl q = 2 * q := by unfold dbl; omega
      have hQ := Lib.hid (fun W => rshift_any q W ⟨hq0, by omega⟩)
      rw [hdq] at hQ
      obtain ⟨hl, hh⟩ := lo_even q
      have HL := Lib.hid hl
      have HH := Lib.hid hh
      clear hl hh hdq hq
      have hmm2 := hi_lo mm
      have hmm3 := lo_bd mm
      unfold U64 at hmm3
      by_cases hbit : hi mm < 9223372036854775808
      · have hs := hr.step hlt 0 (by rw [if_neg (by omega)])
        have t1 := top0 hmw.1 hbit
        have HS := Lib.hid hs
        clear hs hr hmm2 hmm3 hmw
        generalize dbl mm = m' at *
        by_cases hge : n ≤ 2 * r + 0
        · go_wp2_with fail
          refine (hM.out _).mono ?_
          rintro e w1 ⟨f1, rfl, hb1⟩
          obtain ⟨m1c, m1d, m1f, m1g⟩ := later2 hb1 (g := w.heap.size) (u := .int .u64 (hi mm)) (v := .int .u64 (lo mm)) (by simp [go_sem, *]) (by simp [go_sem, *]) (by simp [go_sem, *]) (by simp [go_sem, *])
          have m1z : w.heap.size < w1.heap.size := World.block_lt_of_cell? _ _ m1c
          obtain ⟨r1c, r1d, r1f, r1g⟩ := later2 hb1 (g := w.heap.size + 1) (u := .int .u64 0) (v := .int .u64 0) (by simp [go_sem, *]) (by simp [go_sem, *]) (by simp [go_sem, *]) (by simp [go_sem, *])
          have r1z : w.heap.size + 1 < w1.heap.size := World.block_lt_of_cell? _ _ r1c
          obtain ⟨o1c, o1d, o1f, o1g⟩ := later2 hb1 (g := w.heap.size + 2) (u := .int .u64 (hi q)) (v := .int .u64 (lo q)) (by simp [go_sem, *]) (by simp [go_sem, *]) (by simp [go_sem, *]) (by simp [go_sem, *])
          have o1z : w.heap.size + 2 < w1.heap.size := World.block_lt_of_cell? _ _ o1c
          have b1 : Below w.heap.size w w1 := bl2 hb1 hbe
          clear hb1 m1 m2 m3 m4 r1 r2 r3 r4 o1 o2 o3 o4
          go_wp2_with fail
          refine (hQ.out _).mono ?_
          rintro e w2 ⟨f2, rfl, hb2⟩
          obtain ⟨m2c, m2d, m2f, m2g⟩ := later2 hb2 (g := w.heap.size) (u := .int .u64 (hi m')) (v := .int .u64 (lo m')) (by simp [go_sem, *]) (by simp [go_sem, *]) (by simp [go_sem, *]) (by simp [go_sem, *])
          have m2z : w.heap.size < w2.heap.size := World.block_lt_of_cell? _ _ m2c
          obtain ⟨r2c, r2d, r2f, r2g⟩ := later2 hb2 (g := w.heap.size + 1) (u := .int .u64 0) (v := .int .u64 0) (by simp [go_sem, *]) (by simp [go_sem, *]) (by simp [go_sem, *]) (by simp [go_sem, *])
          have r2z : w.heap.size + 1 < w2.heap.size := World.block_lt_of_cell? _ _ r2c
          obtain ⟨o2c, o2d, o2f, o2g⟩ := later2 hb2 (g := w.heap.size + 2) (u := .int .u64 (hi q)) (v := .int .u64 (lo q)) (by simp [go_sem, *]) (by simp [go_sem, *]) (by simp [go_sem, *]) (by simp [go_sem, *])
          have o2z : w.heap.size + 2 < w2.heap.size := World.block_lt_of_cell? _ _ o2c
          have b2 : Below w.heap.size w w2 := bl2 hb2 (by repeat (first | assumption | exact Below.refl _ _ | refine Below.setCell ?_ (by first | exact Nat.le_refl _ | (simp; done) | (simp; omega) | omega) _ | refine Below.alloc ?_ (by first | exact Nat.le_refl _ | (simp; done) | (simp; omega) | omega) _ | refine Below.drew ?_ | exact Nat.le_refl _))
          clear hb2 m1c m1d m1f m1g r1c r1d r1f r1g o1c o1d o1f o1g
          go_wp2_with fail
          go_roundw
          case rel =>
            refine ⟨k + 1, _, (2 * q + 1), _, HS.out.2 hge, by go_num, by go_num, ⟨?_, ?_, ?_, ?_⟩, ⟨?_, ?_, ?_, ?_⟩, ⟨?_, ?_, ?_, ?_⟩, ?_⟩
            all_goals (first | (simp [go_sem, *]; done) | (rw [← HH.out]; simp [go_sem, *]; done) | (rw [← HL.out]; simp (maxDischargeDepth := 6) [go_sem, *]; done) | exact (by repeat (first | assumption | exact Below.refl _ _ | refine Below.setCell ?_ (by first | exact Nat.le_refl _ | (simp; done) | (simp; omega) | omega) _ | refine Below.alloc ?_ (by first | exact Nat.le_refl _ | (simp; done) | (simp; omega) | omega) _ | refine Below.drew ?_ | exact Nat.le_refl _)))
          case measure => simp [intOf]; omega
        · have hge : 2 * r + 0 < n := by omega
          go_wp2_with fail
          refine (hM.out _).mono ?_
          rintro e w1 ⟨f1, rfl, hb1⟩
          obtain ⟨m1c, m1d, m1f, m1g⟩ := later2 hb1 (g := w.heap.size) (u := .int .u64 (hi mm)) (v := .int .u64 (lo mm)) (by simp [go_sem, *]) (by simp [go_sem, *]) (by simp [go_sem, *]) (by simp [go_sem, *])
          have m1z : w.heap.size < w1.heap.size := World.block_lt_of_cell? _ _ m1c
          obtain ⟨r1c, r1d, r1f, r1g⟩ := later2 hb1 (g := w.heap.size + 1) (u := .int .u64 0) (v := .int .u64 0) (by simp [go_sem, *]) (by simp [go_sem, *]) (by simp [go_sem, *]) (by simp [go_sem, *])
          have r1z : w.heap.size + 1 < w1.heap.size := World.block_lt_of_cell? _ _ r1c
          obtain ⟨o1c, o1d, o1f, o1g⟩ := later2 hb1 (g := w.heap.size + 2) (u := .int .u64 (hi q)) (v := .int .u64 (lo q)) (by simp [go_sem, *]) (by simp [go_sem, *]) (by simp [go_sem, *]) (by simp [go_sem, *])
          have o1z : w.heap.size + 2 < w1.heap.size := World.block_lt_of_cell? _ _ o1c
          have b1 : Below w.heap.size w w1 := bl2 hb1 hbe
          clear hb1 m1 m2 m3 m4 r1 r2 r3 r4 o1 o2 o3 o4
          go_wp2_with fail
          refine (hQ.out _).mono ?_
          rintro e w2 ⟨f2, rfl, hb2⟩
          obtain ⟨m2c, m2d, m2f, m2g⟩ := later2 hb2 (g := w.heap.size) (u := .int .u64 (hi m')) (v := .int .u64 (lo m')) (by simp [go_sem, *]) (by simp [go_sem, *]) (by simp [go_sem, *]) (by simp [go_sem, *])
          have m2z : w.heap.size < w2.heap.size := World.block_lt_of_cell? _ _ m2c
          obtain ⟨r2c, r2d, r2f, r2g⟩ := later2 hb2 (g := w.heap.size + 1) (u := .int .u64 0) (v := .int .u64 0) (by simp [go_sem, *]) (by simp [go_sem, *]) (by simp [go_sem, *]) (by simp [go_sem, *])
          have r2z : w.heap.size + 1 < w2.heap.size := World.block_lt_of_cell? _ _ r2c
          obtain ⟨o2c, o2d, o2f, o2g⟩ := later2 hb2 (g := w.heap.size + 2) (u := .int .u64 (hi q)) (v := .int .u64 (lo q)) (by simp [go_sem, *]) (by simp [go_sem, *]) (by simp [go_sem, *]) (by simp [go_sem, *])
          have o2z : w.heap.size + 2 < w2.heap.size := World.block_lt_of_cell? _ _ o2c
          have b2 : Below w.heap.size w w2 := bl2 hb2 (by repeat (first | assumption | exact Below.refl _ _ | refine Below.setCell ?_ (by first | exact Nat.le_refl _ | (simp; done) | (simp; omega) | omega) _ | refine Below.alloc ?_ (by first | exact Nat.le_refl _ | (simp; done) | (simp; omega) | omega) _ | refine Below.drew ?_ | exact Nat.le_refl _))
          clear hb2 m1c m1d m1f m1g r1c r1d r1f r1g o1c o1d o1f o1g
          go_wp2_with fail
          go_roundw
          case rel =>
            refine ⟨k + 1, _, (2 * q), _, HS.out.1 hge, by go_num, by go_num, ⟨?_, ?_, ?_, ?_⟩, ⟨?_, ?_, ?_, ?_⟩, ⟨?_, ?_, ?_, ?_⟩, ?_⟩
            all_goals (first | (simp [go_sem, *]; done) | exact (by repeat (first | assumption | exact Below.refl _ _ | refine Below.setCell ?_ (by first | exact Nat.le_refl _ | (simp; done) | (simp; omega) | omega) _ | refine Below.alloc ?_ (by first | exact Nat.le_refl _ | (simp; done) | (simp; omega) | omega) _ | refine Below.drew ?_ | exact Nat.le_refl _)))
          case measure => simp [intOf]; omega
      · have hbit : 9223372036854775808 ≤ hi mm := by omega
        have hs := hr.step hlt 1 (by rw [if_pos (by omega)])
        have t1 := top1 hbit hmw.2
        have HS := Lib.hid hs
        clear hs hr hmm2 hmm3 hmw
        generalize dbl mm = m' at *
        by_cases hge : n ≤ 2 * r + 1
        · go_wp2_with fail
          refine (hM.out _).mono ?_
          rintro e w1 ⟨f1, rfl, hb1⟩
          obtain ⟨m1c, m1d, m1f, m1g⟩ := later2 hb1 (g := w.heap.size) (u := .int .u64 (hi mm)) (v := .int .u64 (lo mm)) (by simp [go_sem, *]) (by simp [go_sem, *]) (by simp [go_sem, *]) (by simp [go_sem, *])
          have m1z : w.heap.size < w1.heap.size := World.block_lt_of_cell? _ _ m1c
          obtain ⟨r1c, r1d, r1f, r1g⟩ := later2 hb1 (g := w.heap.size + 1) (u := .int .u64 0) (v := .int .u64 0) (by simp [go_sem, *]) (by simp [go_sem, *]) (by simp [go_sem, *]) (by simp [go_sem, *])
          have r1z : w.heap.size + 1 < w1.heap.size := World.block_lt_of_cell? _ _ r1c
          obtain ⟨o1c, o1d, o1f, o1g⟩ := later2 hb1 (g := w.heap.size + 2) (u := .int .u64 (hi q)) (v := .int .u64 (lo q)) (by simp [go_sem, *]) (by simp [go_sem, *]) (by simp [go_sem, *]) (by simp [go_sem, *])
          have o1z : w.heap.size + 2 < w1.heap.size := World.block_lt_of_cell? _ _ o1c
          have b1 : Below w.heap.size w w1 := bl2 hb1 hbe
          clear hb1 m1 m2 m3 m4 r1 r2 r3 r4 o1 o2 o3 o4
          go_wp2_with fail
          refine (hQ.out _).mono ?_
          rintro e w2 ⟨f2, rfl, hb2⟩
          obtain ⟨m2c, m2d, m2f, m2g⟩ := later2 hb2 (g := w.heap.size) (u := .int .u64 (hi m')) (v := .int .u64 (lo m')) (by simp [go_sem, *]) (by simp [go_sem, *]) (by simp [go_sem, *]) (by simp [go_sem, *])
          have m2z : w.heap.size < w2.heap.size := World.block_lt_of_cell? _ _ m2c
          obtain ⟨r2c, r2d, r2f, r2g⟩ := later2 hb2 (g := w.heap.size + 1) (u := .int .u64 0) (v := .int .u64 0) (by simp [go_sem, *]) (by simp [go_sem, *]) (by simp [go_sem, *]) (by simp [go_sem, *])
          have r2z : w.heap.size + 1 < w2.heap.size := World.block_lt_of_cell? _ _ r2c
          obtain ⟨o2c, o2d, o2f, o2g⟩ := later2 hb2 (g := w.heap.size + 2) (u := .int .u64 (hi q)) (v := .int .u64 (lo q)) (by simp [go_sem, *]) (by simp [go_sem, *]) (by simp [go_sem, *]) (by simp [go_sem, *])
          have o2z : w.heap.size + 2 < w2.heap.size := World.block_lt_of_cell? _ _ o2c
          have b2 : Below w.heap.size w w2 := bl2 hb2 (by repeat (first | assumption | exact Below.refl _ _ | refine Below.setCell ?_ (by first | exact Nat.le_refl _ | (simp; done) | (simp; omega) | omega) _ | refine Below.alloc ?_ (by first | exact Nat.le_refl _ | (simp; done) | (simp; omega) | omega) _ | refine Below.drew ?_ | exact Nat.le_refl _))
          clear hb2 m1c m1d m1f m1g r1c r1d r1f r1g o1c o1d o1f o1g
          go_wp2_with fail
          go_roundw
          case rel =>
            refine ⟨k + 1, _, (2 * q + 1), _, HS.out.2 hge, by go_num, by go_num, ⟨?_, ?_, ?_, ?_⟩, ⟨?_, ?_, ?_, ?_⟩, ⟨?_, ?_, ?_, ?_⟩, ?_⟩
            all_goals (first | (simp [go_sem, *]; done) | (rw [← HH.out]; simp [go_sem, *]; done) | (rw [← HL.out]; simp (maxDischargeDepth := 6) [go_sem, *]; done) | exact (by repeat (first | assumption | exact Below.refl _ _ | refine Below.setCell ?_ (by first | exact Nat.le_refl _ | (simp; done) | (simp; omega) | omega) _ | refine Below.alloc ?_ (by first | exact Nat.le_refl _ | (simp; done) | (simp; omega) | omega) _ | refine Below.drew ?_ | exact Nat.le_refl _)))
          case measure => simp [intOf]; omega
        · have hge : 2 * r + 1 < n := by omega
          go_wp2_with fail
          refine (hM.out _).mono ?_
          rintro e w1 ⟨f1, rfl, hb1⟩
          obtain ⟨m1c, m1d, m1f, m1g⟩ := later2 hb1 (g := w.heap.size) (u := .int .u64 (hi mm)) (v := .int .u64 (lo mm)) (by simp [go_sem, *]) (by simp [go_sem, *]) (by simp [go_sem, *]) (by simp [go_sem, *])
          have m1z : w.heap.size < w1.heap.size := World.block_lt_of_cell? _ _ m1c
          obtain ⟨r1c, r1d, r1f, r1g⟩ := later2 hb1 (g := w.heap.size + 1) (u := .int .u64 0) (v := .int .u64 0) (by simp [go_sem, *]) (by simp [go_sem, *]) (by simp [go_sem, *]) (by simp [go_sem, *])
          have r1z : w.heap.size + 1 < w1.heap.size := World.block_lt_of_cell? _ _ r1c
          obtain ⟨o1c, o1d, o1f, o1g⟩ := later2 hb1 (g := w.heap.size + 2) (u := .int .u64 (hi q)) (v := .int .u64 (lo q)) (by simp [go_sem, *]) (by simp [go_sem, *]) (by simp [go_sem, *]) (by simp [go_sem, *])
          have o1z : w.heap.size + 2 < w1.heap.size := World.block_lt_of_cell? _ _ o1c
          have b1 : Below w.heap.size w w1 := bl2 hb1 hbe
          clear hb1 m1 m2 m3 m4 r1 r2 r3 r4 o1 o2 o3 o4
          go_wp2_with fail
          refine (hQ.out _).mono ?_
          rintro e w2 ⟨f2, rfl, hb2⟩
          obtain ⟨m2c, m2d, m2f, m2g⟩ := later2 hb2 (g := w.heap.size) (u := .int .u64 (hi m')) (v := .int .u64 (lo m')) (by simp [go_sem, *]) (by simp [go_sem, *]) (by simp [go_sem, *]) (by simp [go_sem, *])
          have m2z : w.heap.size < w2.heap.size := World.block_lt_of_cell? _ _ m2c
          obtain ⟨r2c, r2d, r2f, r2g⟩ := later2 hb2 (g := w.heap.size + 1) (u := .int .u64 0) (v := .int .u64 0) (by simp [go_sem, *]) (by simp [go_sem, *]) (by simp [go_sem, *]) (by simp [go_sem, *])
          have r2z : w.heap.size + 1 < w2.heap.size := World.block_lt_of_cell? _ _ r2c
          obtain ⟨o2c, o2d, o2f, o2g⟩ := later2 hb2 (g := w.heap.size + 2) (u := .int .u64 (hi q)) (v := .int .u64 (lo q)) (by simp [go_sem, *]) (by simp [go_sem, *]) (by simp [go_sem, *]) (by simp [go_sem, *])
          have o2z : w.heap.size + 2 < w2.heap.size := World.block_lt_of_cell? _ _ o2c
          have b2 : Below w.heap.size w w2 := bl2 hb2 (by repeat (first | assumption | exact Below.refl _ _ | refine Below.setCell ?_ (by first | exact Nat.le_refl _ | (simp; done) | (simp; omega) | omega) _ | refine Below.alloc ?_ (by first | exact Nat.le_refl _ | (simp; done) | (simp; omega) | omega) _ | refine Below.drew ?_ | exact Nat.le_refl _))
          clear hb2 m1c m1d m1f m1g r1c r1d r1f r1g o1c o1d o1f o1g
          go_wp2_with fail
          go_roundw
          case rel =>
            refine ⟨k + 1, _, (2 * q), _, HS.out.1 hge, by go_num, by go_num, ⟨?_, ?_, ?_, ?_⟩, ⟨?_, ?_, ?_, ?_⟩, ⟨?_, ?_, ?_, ?_⟩, ?_⟩
            all_goals (first | (simp [go_sem, *]; done) | exact (by repeat (first | assumption | exact Below.refl _ _ | refine Below.setCell ?_ (by first | exact Nat.le_refl _ | (simp; done) | (simp; omega) | omega) _ | refine Below.alloc ?_ (by first | exact Nat.le_refl _ | (simp; done) | (simp; omega) | omega) _ | refine Below.drew ?_ | exact Nat.le_refl _)))
          case measure => simp [intOf]; omega
    · have hk : k = 128 := by omega
      subst hk
      obtain ⟨e1, e2⟩ := hr.end_
      have E1 := Lib.hid e1
      have E2 := Lib.hid e2
      clear hr e1 e2
      go_wp2_with fail
      simp [bodyPost, results, Tryd.results47, go_sem, r1, r2]
      exact ⟨⟨⟨by rw [E1.out], by rw [E1.out]⟩, E2.out⟩, (by repeat (first | assumption | exact Below.refl _ _ | refine Below.setCell ?_ (by first | exact Nat.le_refl _ | (simp; done) | (simp; omega) | omega) _ | refine Below.alloc ?_ (by first | exact Nat.le_refl _ | (simp; done) | (simp; omega) | omega) _ | refine Below.drew ?_ | exact Nat.le_refl _))⟩
end Go.Proofs.YtieklkpjlbpnbaaDoor.Wt
