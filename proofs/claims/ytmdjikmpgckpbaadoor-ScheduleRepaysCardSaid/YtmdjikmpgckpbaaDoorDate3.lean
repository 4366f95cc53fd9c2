/-
  The contracts of Civil and Day, the program's and the reference's.
-/
import Derived.Test.YtmdjikmpgckpbaaDoorDate2
namespace Go.Proofs.YtmdjikmpgckpbaaDoor.Dt
open Go.RowKit
open Go.Proofs.YtmdjikmpgckpbaaDoor.Cal

theorem bcell {W w1 : World} (hb : Below W.heap.size W w1) : (∀ b o, b < W.heap.size → w1.cell? ⟨b, o, none⟩ = W.cell? ⟨b, o, none⟩) ∧ (∀ b o, b < W.heap.size → w1.frozen? ⟨b, o, none⟩ = W.frozen? ⟨b, o, none⟩) :=
  ⟨fun b o h => hb.cell (p := ⟨b, o, none⟩) h, fun b o h => hb.frozen (p := ⟨b, o, none⟩) h⟩
/-- A callee that leaves what was there alone, called in a world behind the first. -/
theorem bstep {B : Nat} {w W w1 : World} (h : Below B w W) (hw : B ≤ W.heap.size) (hb : Below W.heap.size W w1) : Below B w w1 := h.trans (hb.mono hw)

theorem year_start (d : Int) (h0 : 0 ≤ d) (h1 : d ≤ 73048) : begin_ (2000 + d / 366) ≤ d ∧ 2000 ≤ 2000 + d / 366 ∧ 2000 + d / 366 ≤ 2199 := by
  unfold begin_; split <;> omega
theorem year_up (d y : Int) (h1 : d ≤ 73048) (hy : y ≤ 2199) (h : begin_ (y + 1) ≤ d) : y + 1 ≤ 2199 := by
  by_cases e : y = 2199
  · subst e; have := begin_200; simp only [show (2199 : Int) + 1 = 2200 from rfl] at h; omega
  · omega
theorem month_up (x y m : Int) (h : x < cum y 13) (hm : m ≤ 12) (h2 : mlen y m ≤ x - cum y m) : m + 1 ≤ 12 := by
  by_cases e : m = 12
  · subst e; have := cum_succ y 12; simp only [show (12 : Int) + 1 = 13 from rfl] at this; omega
  · omega
theorem is_of (d y m : Int) (hy0 : 2000 ≤ y) (hy1 : y ≤ 2199) (hm0 : 1 ≤ m) (hm1 : m ≤ 12) (hr : 0 ≤ d - begin_ y - cum y m) (hl : d - begin_ y - cum y m < mlen y m) : IsCivil d y m (d - begin_ y - cum y m + 1) :=
  ⟨hy0, hy1, hm0, hm1, by omega, by omega, by omega⟩
theorem less_13 (d y : Int) (hy0 : 2000 ≤ y) (hy1 : y ≤ 2199) (h : d < begin_ (y + 1)) : d - begin_ y < cum y 13 := by
  have := begin_succ y hy0 hy1; rw [cum_13]; omega
theorem civ_val {d y m k : Int} (h : IsCivil d y m k) : (Ending.returned (.tuple #[.int .i64 y, .int .i64 m, .int .i64 k])) = .returned (.tuple #[.int .i64 (cy d), .int .i64 (cm d), .int .i64 (ck d)]) := by
  obtain ⟨a, b, c⟩ := civ_eq h; rw [a, b, c]

set_option maxHeartbeats 800000 in
theorem civil_any (d : Int) (w : World) (h0 : 0 ≤ d) (h1 : d ≤ 73048) : Calls Tryd.prog 36 #[.int .i64 d] w fun e w' => e = .returned (.tuple #[.int .i64 (cy d), .int .i64 (cm d), .int .i64 (ck d)]) ∧ Below w.heap.size w w' := by
  obtain ⟨g0, g1, g2⟩ := year_start d h0 h1
  go_enter Tryd.func36, Tryd.ntmps36
  go_wp2_with (go_at_call 27; refine (valid_yes d _ h0 h1).mono ?_; rintro e w' ⟨rfl, rfl⟩)
  go_loop [5] (fun t => ∃ y : Int, 2000 ≤ y ∧ y ≤ 2199 ∧ begin_ y ≤ d ∧ t = .int .i64 y) (fun t => (2199 - intOf t).toNat)
  case atStart => exact ⟨_, g1, g2, g0, rfl⟩
  case round =>
    obtain ⟨y, hy0, hy1, hy2, rfl⟩ := hrel
    clear g0 g1 g2
    by_cases hc : begin_ (y + 1) ≤ d
    · have hy3 := year_up d y h1 hy1 hc
      go_wp2_with (go_at_call 53; refine (begin_any _ _ (by omega) (by omega)).mono ?_; rintro e w' ⟨rfl, rfl⟩)
      go_round
      case rel => exact ⟨y + 1, by omega, hy3, hc, by go_num⟩
      case measure => simp [intOf]; omega
    · have hc' : d < begin_ (y + 1) := by omega
      have h13 := less_13 d y hy0 hy1 hc'
      have hbb := begin_bd y hy0 (by omega)
      clear hc
      go_wp2_with (go_at_call 53; refine (begin_any _ _ (by omega) (by omega)).mono ?_; rintro e w' ⟨rfl, rfl⟩)
      go_loopw [0, 6] (fun r k wr => ∃ m : Int, 1 ≤ m ∧ m ≤ 12 ∧ 0 ≤ d - begin_ y - cum y m ∧ r = .int .i64 (d - begin_ y - cum y m) ∧ k = .int .i64 m ∧ Below w.heap.size w wr) (fun _ k _ => (12 - intOf k).toNat)
      case atStart => exact ⟨1, by omega, by omega, by rw [cum_1]; omega, by rw [cum_1]; go_num, rfl, Below.refl _ _⟩
      case round =>
        obtain ⟨m, hm0, hm1, hr, rfl, rfl, hbe⟩ := hrel
        have ml := mlen_bd y m hm0 hm1
        have cs := Lib.hid (cum_succ y m)
        have cb := cum_bd y m hm0 (by omega)
        by_cases hc : mlen y m ≤ d - begin_ y - cum y m
        · have hm2 := month_up _ y m h13 hm1 hc
          go_wp2_with fail
          refine (length_any _ _ _ (by omega) hm0 hm1).mono ?_
          rintro e w1 ⟨rfl, hb1⟩
          go_wp2_with fail
          refine (length_any _ _ _ (by omega) hm0 hm1).mono ?_
          rintro e w2 ⟨rfl, hb2⟩
          go_wp2_with fail
          go_roundw
          case rel => exact ⟨m + 1, by omega, hm2, by rw [cs.out]; omega, by rw [cs.out]; go_num, by go_num, bstep (bstep hbe hbe.size hb1) (Nat.le_trans hbe.size hb1.size) hb2⟩
          case measure => simp [intOf]; omega
        · have hc' : d - begin_ y - cum y m < mlen y m := by omega
          clear hc
          have hv := Lib.hid (civ_val (is_of d y m hy0 hy1 hm0 hm1 hr hc'))
          go_wp2_with fail
          refine (length_any _ _ _ (by omega) hm0 hm1).mono ?_
          rintro e w1 ⟨rfl, hb1⟩
          go_wp2_with fail
          go_ret3
          exact ⟨hv.out, bstep hbe hbe.size hb1⟩

end Go.Proofs.YtmdjikmpgckpbaaDoor.Dt
