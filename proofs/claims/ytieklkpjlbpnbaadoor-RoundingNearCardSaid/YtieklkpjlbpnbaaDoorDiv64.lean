/-
  The contract of math/bits.Div64 at this program.
-/
import Derived.Test.YtieklkpjlbpnbaaDoorWide
import Derived.Test.YtieklkpjlbpnbaaDoorDv
import Derived.Test.YtieklkpjlbpnbaaDoorLen
namespace Go.Proofs.YtieklkpjlbpnbaaDoor.Wt
open Go.RowKit
open Go.Proofs.YtieklkpjlbpnbaaDoor.Wm
open Go.Proofs.YtieklkpjlbpnbaaDoor.Dv

theorem lz64 (y : Int) (n : Nat) (w : World) (h0 : 1 ≤ y) (h1 : y < 18446744073709551616) (hn : 64 - (Lib.bitLen y.toNat : Int) = n) : Calls Tryd.prog 65 #[.int .u64 y] w fun e w' => e = .returned (.int .i64 n) ∧ w = w' := by
  refine (Tryd.bits_LeadingZeros64 y w (by omega) (by omega)).mono ?_
  rintro e w' ⟨rfl, rfl⟩
  exact ⟨by rw [hn], rfl⟩

/-- Where a phase's loop stands. -/
def PhAt (A c y1 y0 : Int) (q r : Value) : Prop := ∃ a b : Int, q = .int .u64 a ∧ r = .int .u64 b ∧ Ph A c y1 y0 a b

set_option maxHeartbeats 4000000 in
theorem div64_core (h l y : Int) (n : Nat) (A c1 c0 Y y1 y0 Q1 R1 Q0 F G : Int) (w : World) (hy : 1 ≤ y) (hy2 : y < 18446744073709551616) (hh : 0 < h) (hhy : h < y) (hl : U64 l) (hn : n ≤ 63)
    (HZ : Hid (64 - (Lib.bitLen y.toNat : Int) = n)) (g8 : Hid (IntKind.u64.wrap (y * 2 ^ n) = Y)) (g0 : 2147483648 ≤ IntKind.u64.wrap (y * 2 ^ n) / 4294967296)
    (D1 : Hid (Dom A c1 y1 y0)) (D2 : Hid (Dom R1 c0 y1 y0)) (hQ1 : Hid (Q1 = (A * 4294967296 + c1) / (y1 * 4294967296 + y0))) (hQ0 : Hid (Q0 = (R1 * 4294967296 + c0) / (y1 * 4294967296 + y0)))
    (g1 : Hid (Y / 4294967296 = y1)) (g2 : Hid (bits .and .u64 Y 4294967295 = y0)) (g3 : Hid (bits .or .u64 (IntKind.u64.wrap (h * 2 ^ n)) (l / 2 ^ (64 - n)) = A))
    (g4 : Hid (IntKind.u64.wrap (l * 2 ^ n) / 4294967296 = c1)) (g5 : Hid (bits .and .u64 (IntKind.u64.wrap (l * 2 ^ n)) 4294967295 = c0)) (g6 : Hid (IntKind.u64.wrap (A.tdiv y1) = A / y1)) (g7 : Hid (IntKind.u64.wrap (A - IntKind.u64.wrap (A / y1 * y1)) = A - A / y1 * y1))
    (g9 : Hid (IntKind.u64.wrap (IntKind.u64.wrap (IntKind.u64.wrap (A * 4294967296) + c1) - IntKind.u64.wrap (Q1 * Y)) = R1))
    (k6 : Hid (IntKind.u64.wrap (R1.tdiv y1) = R1 / y1)) (k7 : Hid (IntKind.u64.wrap (R1 - IntKind.u64.wrap (R1 / y1 * y1)) = R1 - R1 / y1 * y1))
    (f1 : Hid (IntKind.u64.wrap (IntKind.u64.wrap (Q1 * 4294967296) + Q0) = F)) (f2 : Hid (IntKind.u64.wrap (IntKind.u64.wrap (IntKind.u64.wrap (R1 * 4294967296) + c0) - IntKind.u64.wrap (Q0 * Y)) / 2 ^ n = G)) :
    Calls Tryd.prog 64 #[.int .u64 h, .int .u64 l, .int .u64 y] w fun e w' => e = .returned (.tuple #[.int .u64 F, .int .u64 G]) ∧ w = w' := by
  obtain ⟨hl0, hl1⟩ := hl
  go_enter Tryd.func64, Tryd.ntmps64
  go_wp2_with fail
  refine (lz64 y n _ hy hy2 HZ.out).mono ?_
  rintro e w' ⟨rfl, rfl⟩
  go_wp2_with fail
  rw [g3.out, g4.out, g5.out, g8.out, g2.out, g1.out, g6.out, g7.out]
  clear g0
  obtain ⟨d1, d2, d3, d4, d5, d6, d7, d8⟩ := D1.out
  go_loop [15, 16] (PhAt A c1 y1 y0) (fun q _ => (intOf q).toNat)
  case atStart => exact ⟨_, _, rfl, rfl, D1.out.start⟩
  case round =>
    obtain ⟨q, r, rfl, rfl, hq⟩ := hrel
    have Hq := Lib.hid hq
    obtain ⟨p1, p2, p3, p4, p5, p6⟩ := hq
    clear p1 p6
    by_cases hc : q < 4294967296
    · obtain ⟨m1, m2⟩ := Hq.out.qy D1.out
      have m2 := m2 hc
      by_cases hd : 4294967296 * r + c1 < q * y0
      · have hp := Hq.out.pos D1.out (Or.inr hd)
        by_cases hr : r + y1 < 4294967296
        · go_wp2_with fail
          go_round
          case rel => exact ⟨_, _, rfl, rfl, Hq.out.next D1.out (Or.inr hd) hr⟩
          case measure => simp [intOf]; omega
        · have hf := (Hq.out.last D1.out (Or.inr hd) (by omega)).trans hQ1.out.symm
          have HF := Lib.hid hf
          clear hf
          go_wp2_with fail
          rw [HF.out]
          rw [g9.out, k6.out, k7.out]
          clear hc p2 p3 p4 p5
          obtain ⟨j1, j2, j3, j4, j5, j6, j7, j8⟩ := D2.out
          go_loop [16, 18] (fun r q => PhAt R1 c0 y1 y0 q r) (fun _ q => (intOf q).toNat)
          case atStart => exact ⟨_, _, rfl, rfl, D2.out.start⟩
          case round =>
            obtain ⟨q', r', rfl, rfl, hq'⟩ := hrel
            have Hq' := Lib.hid hq'
            obtain ⟨p1, p2, p3, p4, p5, p6⟩ := hq'
            clear p1 p6
            by_cases hc : q' < 4294967296
            · obtain ⟨m1, m2⟩ := Hq'.out.qy D2.out
              have m2 := m2 hc
              by_cases hd : 4294967296 * r' + c0 < q' * y0
              · have hp := Hq'.out.pos D2.out (Or.inr hd)
                by_cases hr : r' + y1 < 4294967296
                · go_wp2_with fail
                  go_round
                  case rel => exact ⟨_, _, rfl, rfl, Hq'.out.next D2.out (Or.inr hd) hr⟩
                  case measure => simp [intOf]; omega
                · have hf := (Hq'.out.last D2.out (Or.inr hd) (by omega)).trans hQ0.out.symm
                  have HF := Lib.hid hf
                  clear hf
                  go_wp2_with fail
                  rw [HF.out]
                  rw [f1.out, f2.out]
                  go_ret2
                  exact ⟨rfl, rfl⟩
              · have hf := (Hq'.out.found D2.out (by omega)).trans hQ0.out.symm
                have hd2 : decide (4294967296 * r' + c0 < q' * y0) = false := decide_eq_false hd
                have HF := Lib.hid hf
                clear hd hf
                go_wp2_with fail
                rw [HF.out]
                rw [f1.out, f2.out]
                go_ret2
                exact ⟨rfl, rfl⟩
            · have hc : 4294967296 ≤ q' := by omega
              have hp : 1 ≤ q' := by omega
              by_cases hr : r' + y1 < 4294967296
              · go_wp2_with fail
                go_round
                case rel => exact ⟨_, _, rfl, rfl, Hq'.out.next D2.out (Or.inl hc) hr⟩
                case measure => simp [intOf]; omega
              · have hf := (Hq'.out.last D2.out (Or.inl hc) (by omega)).trans hQ0.out.symm
                have HF := Lib.hid hf
                clear hf
                go_wp2_with fail
                rw [HF.out]
                rw [f1.out, f2.out]
                go_ret2
                exact ⟨rfl, rfl⟩
      · have hf := (Hq.out.found D1.out (by omega)).trans hQ1.out.symm
        have hd2 : decide (4294967296 * r + c1 < q * y0) = false := decide_eq_false hd
        have HF := Lib.hid hf
        clear hd hf
        go_wp2_with fail
        rw [HF.out]
        rw [g9.out, k6.out, k7.out]
        clear hc p2 p3 p4 p5
        obtain ⟨j1, j2, j3, j4, j5, j6, j7, j8⟩ := D2.out
        go_loop [16, 18] (fun r q => PhAt R1 c0 y1 y0 q r) (fun _ q => (intOf q).toNat)
        case atStart => exact ⟨_, _, rfl, rfl, D2.out.start⟩
        case round =>
          obtain ⟨q', r', rfl, rfl, hq'⟩ := hrel
          have Hq' := Lib.hid hq'
          obtain ⟨p1, p2, p3, p4, p5, p6⟩ := hq'
          clear p1 p6
          by_cases hc : q' < 4294967296
          · obtain ⟨m1, m2⟩ := Hq'.out.qy D2.out
            have m2 := m2 hc
            by_cases hd : 4294967296 * r' + c0 < q' * y0
            · have hp := Hq'.out.pos D2.out (Or.inr hd)
              by_cases hr : r' + y1 < 4294967296
              · go_wp2_with fail
                go_round
                case rel => exact ⟨_, _, rfl, rfl, Hq'.out.next D2.out (Or.inr hd) hr⟩
                case measure => simp [intOf]; omega
              · have hf := (Hq'.out.last D2.out (Or.inr hd) (by omega)).trans hQ0.out.symm
                have HF := Lib.hid hf
                clear hf
                go_wp2_with fail
                rw [HF.out]
                rw [f1.out, f2.out]
                go_ret2
                exact ⟨rfl, rfl⟩
            · have hf := (Hq'.out.found D2.out (by omega)).trans hQ0.out.symm
              have hd2 : decide (4294967296 * r' + c0 < q' * y0) = false := decide_eq_false hd
              have HF := Lib.hid hf
              clear hd hf
              go_wp2_with fail
              rw [HF.out]
              rw [f1.out, f2.out]
              go_ret2
              exact ⟨rfl, rfl⟩
          · have hc : 4294967296 ≤ q' := by omega
            have hp : 1 ≤ q' := by omega
            by_cases hr : r' + y1 < 4294967296
            · go_wp2_with fail
              go_round
              case rel => exact ⟨_, _, rfl, rfl, Hq'.out.next D2.out (Or.inl hc) hr⟩
              case measure => simp [intOf]; omega
            · have hf := (Hq'.out.last D2.out (Or.inl hc) (by omega)).trans hQ0.out.symm
              have HF := Lib.hid hf
              clear hf
              go_wp2_with fail
              rw [HF.out]
              rw [f1.out, f2.out]
              go_ret2
              exact ⟨rfl, rfl⟩
    · have hc : 4294967296 ≤ q := by omega
      have hp : 1 ≤ q := by omega
      by_cases hr : r + y1 < 4294967296
      · go_wp2_with fail
        go_round
        case rel => exact ⟨_, _, rfl, rfl, Hq.out.next D1.out (Or.inl hc) hr⟩
        case measure => simp [intOf]; omega
      · have hf := (Hq.out.last D1.out (Or.inl hc) (by omega)).trans hQ1.out.symm
        have HF := Lib.hid hf
        clear hf
        go_wp2_with fail
        rw [HF.out]
        rw [g9.out, k6.out, k7.out]
        clear hc p2 p3 p4 p5
        obtain ⟨j1, j2, j3, j4, j5, j6, j7, j8⟩ := D2.out
        go_loop [16, 18] (fun r q => PhAt R1 c0 y1 y0 q r) (fun _ q => (intOf q).toNat)
        case atStart => exact ⟨_, _, rfl, rfl, D2.out.start⟩
        case round =>
          obtain ⟨q', r', rfl, rfl, hq'⟩ := hrel
          have Hq' := Lib.hid hq'
          obtain ⟨p1, p2, p3, p4, p5, p6⟩ := hq'
          clear p1 p6
          by_cases hc : q' < 4294967296
          · obtain ⟨m1, m2⟩ := Hq'.out.qy D2.out
            have m2 := m2 hc
            by_cases hd : 4294967296 * r' + c0 < q' * y0
            · have hp := Hq'.out.pos D2.out (Or.inr hd)
              by_cases hr : r' + y1 < 4294967296
              · go_wp2_with fail
                go_round
                case rel => exact ⟨_, _, rfl, rfl, Hq'.out.next D2.out (Or.inr hd) hr⟩
                case measure => simp [intOf]; omega
              · have hf := (Hq'.out.last D2.out (Or.inr hd) (by omega)).trans hQ0.out.symm
                have HF := Lib.hid hf
                clear hf
                go_wp2_with fail
                rw [HF.out]
                rw [f1.out, f2.out]
                go_ret2
                exact ⟨rfl, rfl⟩
            · have hf := (Hq'.out.found D2.out (by omega)).trans hQ0.out.symm
              have hd2 : decide (4294967296 * r' + c0 < q' * y0) = false := decide_eq_false hd
              have HF := Lib.hid hf
              clear hd hf
              go_wp2_with fail
              rw [HF.out]
              rw [f1.out, f2.out]
              go_ret2
              exact ⟨rfl, rfl⟩
          · have hc : 4294967296 ≤ q' := by omega
            have hp : 1 ≤ q' := by omega
            by_cases hr : r' + y1 < 4294967296
            · go_wp2_with fail
              go_round
              case rel => exact ⟨_, _, rfl, rfl, Hq'.out.next D2.out (Or.inl hc) hr⟩
              case measure => simp [intOf]; omega
            · have hf := (Hq'.out.last D2.out (Or.inl hc) (by omega)).trans hQ0.out.symm
              have HF := Lib.hid hf
              clear hf
              go_wp2_with fail
              rw [HF.out]
              rw [f1.out, f2.out]
              go_ret2
              exact ⟨rfl, rfl⟩
end Go.Proofs.YtieklkpjlbpnbaaDoor.Wt
