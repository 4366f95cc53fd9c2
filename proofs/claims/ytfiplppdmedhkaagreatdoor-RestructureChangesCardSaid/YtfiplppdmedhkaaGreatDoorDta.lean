/-
  The contracts of the functions of package date, and of the reference's: what each call returns, for every argument that the contract names.
  The contracts of the functions of package date, and of the reference's, continued: lengths, Civil, Day.
  The contracts of Civil and Day, the program's and the reference's.
  The contracts of the reference's Civil, and of Day, the program's and the reference's.
-/
import Derived.Test.YtfiplppdmedhkaaGreatDoorRows
import Derived.Test.YtfiplppdmedhkaaGreatDoorCal
import Derived.WalkKit
import Derived.WalkSpells
import Derived.WalkLawsBesides
import Derived.Lib.Hide
namespace Go.Proofs.YtfiplppdmedhkaaGreatDoor.Dt
open Go.RowKit
open Go.Proofs.YtfiplppdmedhkaaGreatDoor.Cal

theorem ret_int {k : IntKind} {a b : Int} (h : a = b) : Ending.returned (.int k a) = .returned (.int k b) := by rw [h]
theorem ret_bool {a b : Bool} (h : a = b) : Ending.returned (.bool a) = .returned (.bool b) := by rw [h]

/-! ### Valid -/
theorem valid_yes (d : Int) (w : World) (h0 : 0 ≤ d) (h1 : d ≤ 73048) : Calls Tryz.prog 100 #[.int .i64 d] w fun e w' => e = .returned (.bool true) ∧ w = w' := by
  go_enter Tryz.func100, Tryz.ntmps100
  go_wp2
  go_ret
  exact ⟨rfl, rfl⟩
theorem valid_no (d : Int) (w : World) (h : d < 0 ∨ 73048 < d) : Calls Tryz.prog 100 #[.int .i64 d] w fun e w' => e = .returned (.bool false) ∧ w = w' := by
  rcases h with h | h
  · go_enter Tryz.func100, Tryz.ntmps100
    go_wp2
    go_ret
    exact ⟨rfl, rfl⟩
  · go_enter Tryz.func100, Tryz.ntmps100
    go_wp2
    go_ret
    exact ⟨ret_bool (by simp; omega), rfl⟩
theorem rvalid_yes (d : Int) (w : World) (h0 : 0 ≤ d) (h1 : d ≤ 73048) : Calls Tryz.prog 99 #[.int .i64 d] w fun e w' => e = .returned (.bool true) ∧ w = w' := by
  go_enter Tryz.func99, Tryz.ntmps99
  go_wp2
  go_ret
  exact ⟨rfl, rfl⟩
theorem rvalid_no (d : Int) (w : World) (h : d < 0 ∨ 73048 < d) : Calls Tryz.prog 99 #[.int .i64 d] w fun e w' => e = .returned (.bool false) ∧ w = w' := by
  rcases h with h | h
  · go_enter Tryz.func99, Tryz.ntmps99
    go_wp2
    go_ret
    exact ⟨rfl, rfl⟩
  · go_enter Tryz.func99, Tryz.ntmps99
    go_wp2
    go_ret
    exact ⟨ret_bool (by simp; omega), rfl⟩

/-! ### Leap -/
theorem lp_yes (y : Int) (h4 : y % 4 = 0) (h : y % 100 ≠ 0 ∨ y % 400 = 0) : decide (lp y = 1) = true := by simp [lp, h4, h]
theorem lp_no (y : Int) (h : ¬ (y % 4 = 0 ∧ (y % 100 ≠ 0 ∨ y % 400 = 0))) : decide (lp y = 1) = false := by unfold lp; rw [if_neg h]; rfl
theorem leap_any (y : Int) (w : World) (h0 : 0 ≤ y) : Calls Tryz.prog 189 #[.int .i64 y] w fun e w' => e = .returned (.bool (decide (lp y = 1))) ∧ w = w' := by
  by_cases h4 : y % 4 = 0
  · by_cases h1 : y % 100 = 0
    · by_cases h2 : y % 400 = 0
      · rw [lp_yes y h4 (.inr h2)]
        go_enter Tryz.func189, Tryz.ntmps189
        go_wp2
        go_ret
        exact ⟨ret_bool (by simp_all), rfl⟩
      · rw [lp_no y (by omega)]
        go_enter Tryz.func189, Tryz.ntmps189
        go_wp2
        go_ret
        exact ⟨ret_bool (by simp_all), rfl⟩
    · rw [lp_yes y h4 (.inl h1)]
      go_enter Tryz.func189, Tryz.ntmps189
      go_wp2
      go_ret
      exact ⟨ret_bool (by simp_all), rfl⟩
  · rw [lp_no y (by omega)]
    go_enter Tryz.func189, Tryz.ntmps189
    go_wp2
    go_ret
    exact ⟨ret_bool (by simp_all), rfl⟩

/-! ### begin -/
theorem begin_any (y : Int) (w : World) (h0 : 2000 ≤ y) (h1 : y ≤ 2200) : Calls Tryz.prog 160 #[.int .i64 y] w fun e w' => e = .returned (.int .i64 (begin_ y)) ∧ w = w' := by
  have e1 : begin_ y = 365 * (y - 2000) + (y - 2000 + 3) / 4 - (if 2100 < y then 1 else 0) := by unfold begin_; split <;> omega
  rw [e1]
  clear e1
  by_cases h : 2100 < y
  · rw [if_pos h]
    go_enter Tryz.func160, Tryz.ntmps160
    go_wp2
    go_ret
    exact ⟨ret_int (by omega), rfl⟩
  · rw [if_neg h]
    go_enter Tryz.func160, Tryz.ntmps160
    go_wp2
    go_ret
    exact ⟨ret_int (by omega), rfl⟩

end Go.Proofs.YtfiplppdmedhkaaGreatDoor.Dt

namespace Go.Proofs.YtfiplppdmedhkaaGreatDoor.Dt
open Go.RowKit
open Go.Proofs.YtfiplppdmedhkaaGreatDoor.Cal

/-! ### lengths -/
theorem rleap_any (y : Int) (w : World) (h0 : 0 ≤ y) : Calls Tryz.prog 194 #[.int .i64 y] w fun e w' => e = .returned (.bool (decide (lp y = 1))) ∧ w = w' := by
  by_cases h4 : y % 4 = 0
  · by_cases h1 : y % 100 = 0
    · by_cases h2 : y % 400 = 0
      · rw [lp_yes y h4 (.inr h2)]
        go_enter Tryz.func194, Tryz.ntmps194
        go_wp2
        go_ret
        exact ⟨ret_bool (by simp_all), rfl⟩
      · rw [lp_no y (by omega)]
        go_enter Tryz.func194, Tryz.ntmps194
        go_wp2
        go_ret
        exact ⟨ret_bool (by simp_all), rfl⟩
    · rw [lp_yes y h4 (.inl h1)]
      go_enter Tryz.func194, Tryz.ntmps194
      go_wp2
      go_ret
      exact ⟨ret_bool (by simp_all), rfl⟩
  · rw [lp_no y (by omega)]
    go_enter Tryz.func194, Tryz.ntmps194
    go_wp2
    go_ret
    exact ⟨ret_bool (by simp_all), rfl⟩
theorem ylen_any (y : Int) (w : World) (h0 : 0 ≤ y) : Calls Tryz.prog 166 #[.int .i64 y] w fun e w' => e = .returned (.int .i64 (365 + lp y)) ∧ w = w' := by
  rcases lp_01 y with h | h
  all_goals
    have hl : decide (lp y = 1) = decide (lp y = 1) := rfl
    rw [h] at hl ⊢
    clear hl
    go_enter Tryz.func166, Tryz.ntmps166
    go_wp2_with (go_at_call 194; refine (rleap_any y _ h0).mono ?_; rintro e w' ⟨rfl, rfl⟩)
    all_goals (go_ret; exact ⟨ret_int (by simp_all), rfl⟩)

set_option maxHeartbeats 800000 in
theorem length_any (y m : Int) (w : World) (h0 : 0 ≤ y) (hm0 : 1 ≤ m) (hm1 : m ≤ 12) : Calls Tryz.prog 161 #[.int .i64 y, .int .i64 m] w fun e w' => e = .returned (.int .i64 (mlen y m)) ∧ Below w.heap.size w w' := by
  have hm : m = 2 ∨ (m = 4 ∨ m = 6 ∨ m = 9 ∨ m = 11) ∨ (m = 1 ∨ m = 3 ∨ m = 5 ∨ m = 7 ∨ m = 8 ∨ m = 10 ∨ m = 12) := by omega
  rcases hm with h | h | h
  · subst h
    rw [mlen_2]
    rcases lp_01 y with h | h
    all_goals
      rw [h]
      go_enter Tryz.func161, Tryz.ntmps161
      go_wp2_with (go_at_call 189; refine (leap_any y _ h0).mono ?_; rintro e w' ⟨rfl, rfl⟩)
      go_ret
      exact ⟨rfl, (Below.refl _ _).alloc (Nat.le_refl _) _⟩
  · rw [mlen_30 y m h]
    rcases h with h | h | h | h <;> subst h
    all_goals
      go_enter Tryz.func161, Tryz.ntmps161
      go_wp2
      go_ret
      exact ⟨rfl, (Below.refl _ _).alloc (Nat.le_refl _) _⟩
  · rw [mlen_31 y m h]
    rcases h with h | h | h | h | h | h | h <;> subst h
    all_goals
      go_enter Tryz.func161, Tryz.ntmps161
      go_wp2
      go_ret
      exact ⟨rfl, (Below.refl _ _).alloc (Nat.le_refl _) _⟩

/-- The reference's length of a month: 0 where it is none. -/
def rlen (y m : Int) : Int := if 1 ≤ m ∧ m ≤ 12 then mlen y m else 0
theorem rlen_in (y m : Int) (h0 : 1 ≤ m) (h1 : m ≤ 12) : rlen y m = mlen y m := by unfold rlen; rw [if_pos ⟨h0, h1⟩]
theorem rlen_out (y m : Int) (h : m < 1 ∨ 12 < m) : rlen y m = 0 := by unfold rlen; rw [if_neg (by omega)]
set_option maxHeartbeats 800000 in
theorem rlength_any (y m : Int) (w : World) (h0 : 0 ≤ y) : Calls Tryz.prog 167 #[.int .i64 y, .int .i64 m] w fun e w' => e = .returned (.int .i64 (rlen y m)) ∧ w = w' := by
  have hm : (m < 1 ∨ 12 < m) ∨ m = 2 ∨ (m = 4 ∨ m = 6 ∨ m = 9 ∨ m = 11) ∨ (m = 1 ∨ m = 3 ∨ m = 5 ∨ m = 7 ∨ m = 8 ∨ m = 10 ∨ m = 12) := by omega
  rcases hm with h | h | h | h
  · rw [rlen_out y m h]
    rcases h with h | h
    all_goals
      go_enter Tryz.func167, Tryz.ntmps167
      go_wp2
      go_ret
      exact ⟨rfl, rfl⟩
  · subst h
    rw [rlen_in y 2 (by omega) (by omega), mlen_2]
    rcases lp_01 y with h | h
    all_goals
      rw [h]
      go_enter Tryz.func167, Tryz.ntmps167
      go_wp2_with (go_at_call 194; refine (rleap_any y _ h0).mono ?_; rintro e w' ⟨rfl, rfl⟩)
      go_ret
      exact ⟨rfl, rfl⟩
  · rw [rlen_in y m (by omega) (by omega), mlen_30 y m h]
    rcases h with h | h | h | h <;> subst h
    all_goals
      go_enter Tryz.func167, Tryz.ntmps167
      go_wp2
      go_ret
      exact ⟨rfl, rfl⟩
  · rw [rlen_in y m (by omega) (by omega), mlen_31 y m h]
    rcases h with h | h | h | h | h | h | h <;> subst h
    all_goals
      go_enter Tryz.func167, Tryz.ntmps167
      go_wp2
      go_ret
      exact ⟨rfl, rfl⟩

end Go.Proofs.YtfiplppdmedhkaaGreatDoor.Dt

namespace Go.Proofs.YtfiplppdmedhkaaGreatDoor.Dt
open Go.RowKit
open Go.Proofs.YtfiplppdmedhkaaGreatDoor.Cal

/-- A callee that leaves what was there alone, called in a world behind the first. -/
theorem bstep {B : Nat} {w W w1 : World} (h : Below B w W) (hw : B ≤ W.heap.size) (hb : Below W.heap.size W w1) : Below B w w1 := h.trans (hb.mono hw)

theorem year_start (d : Int) (h0 : 0 ≤ d) (h1 : d ≤ 73048) : begin_ (2000 + d / 366) ≤ d ∧ 2000 ≤ 2000 + d / 366 ∧ 2000 + d / 366 ≤ 2199 := by
  unfold begin_; split <;> omega
theorem year_up (d y : Int) (h1 : d ≤ 73048) (hy : y ≤ 2199) (h : begin_ (y + 1) ≤ d) : y + 1 ≤ 2199 := by
  by_cases e : y = 2199
  · subst e; have := begin_200; simp only [show (2199 : Int) + 1 = 2200 from rfl] at h; omega
  · omega
theorem month_up (x y m : Int) (h : x < cum y 13) (hm : m ≤ 12) (h2 : mlen y m ≤ x - cum y m) : m + 1 ≤ 12 := by
  by_cases e : m = 12
  · subst e; have := cum_succ y 12; simp only [show (12 : Int) + 1 = 13 from rfl] at this; omega
  · omega
theorem is_of (d y m : Int) (hy0 : 2000 ≤ y) (hy1 : y ≤ 2199) (hm0 : 1 ≤ m) (hm1 : m ≤ 12) (hr : 0 ≤ d - begin_ y - cum y m) (hl : d - begin_ y - cum y m < mlen y m) : IsCivil d y m (d - begin_ y - cum y m + 1) :=
  ⟨hy0, hy1, hm0, hm1, by omega, by omega, by omega⟩
theorem less_13 (d y : Int) (hy0 : 2000 ≤ y) (hy1 : y ≤ 2199) (h : d < begin_ (y + 1)) : d - begin_ y < cum y 13 := by
  have := begin_succ y hy0 hy1; rw [cum_13]; omega
theorem civ_val {d y m k : Int} (h : IsCivil d y m k) : (Ending.returned (.tuple #[.int .i64 y, .int .i64 m, .int .i64 k])) = .returned (.tuple #[.int .i64 (cy d), .int .i64 (cm d), .int .i64 (ck d)]) := by
  obtain ⟨a, b, c⟩ := civ_eq h; rw [a, b, c]

set_option maxHeartbeats 800000 in
theorem civil_any (d : Int) (w : World) (h0 : 0 ≤ d) (h1 : d ≤ 73048) : Calls Tryz.prog 121 #[.int .i64 d] w fun e w' => e = .returned (.tuple #[.int .i64 (cy d), .int .i64 (cm d), .int .i64 (ck d)]) ∧ Below w.heap.size w w' := by
  obtain ⟨g0, g1, g2⟩ := year_start d h0 h1
  go_enter Tryz.func121, Tryz.ntmps121
  go_wp2_with (go_at_call 100; refine (valid_yes d _ h0 h1).mono ?_; rintro e w' ⟨rfl, rfl⟩)
  go_loop [5] (fun t => ∃ y : Int, 2000 ≤ y ∧ y ≤ 2199 ∧ begin_ y ≤ d ∧ t = .int .i64 y) (fun t => (2199 - intOf t).toNat)
  case atStart => exact ⟨_, g1, g2, g0, rfl⟩
  case round =>
    obtain ⟨y, hy0, hy1, hy2, rfl⟩ := hrel
    clear g0 g1 g2
    by_cases hc : begin_ (y + 1) ≤ d
    · have hy3 := year_up d y h1 hy1 hc
      go_wp2_with (go_at_call 160; refine (begin_any _ _ (by omega) (by omega)).mono ?_; rintro e w' ⟨rfl, rfl⟩)
      go_round
      case rel => exact ⟨y + 1, by omega, hy3, hc, by go_num⟩
      case measure => simp [intOf]; omega
    · have hc' : d < begin_ (y + 1) := by omega
      have h13 := less_13 d y hy0 hy1 hc'
      have hbb := begin_bd y hy0 (by omega)
      clear hc
      go_wp2_with (go_at_call 160; refine (begin_any _ _ (by omega) (by omega)).mono ?_; rintro e w' ⟨rfl, rfl⟩)
      go_loopw [0, 6] (fun r k wr => ∃ m : Int, 1 ≤ m ∧ m ≤ 12 ∧ 0 ≤ d - begin_ y - cum y m ∧ r = .int .i64 (d - begin_ y - cum y m) ∧ k = .int .i64 m ∧ Below w.heap.size w wr) (fun _ k _ => (12 - intOf k).toNat)
      case atStart => exact ⟨1, by omega, by omega, by rw [cum_1]; omega, by rw [cum_1]; go_num, rfl, Below.refl _ _⟩
      case round =>
        obtain ⟨m, hm0, hm1, hr, rfl, rfl, hbe⟩ := hrel
        have ml := mlen_bd y m hm0 hm1
        have cs := Lib.hid (cum_succ y m)
        have cb := cum_bd y m hm0 (by omega)
        by_cases hc : mlen y m ≤ d - begin_ y - cum y m
        · have hm2 := month_up _ y m h13 hm1 hc
          go_wp2_with fail
          refine (length_any _ _ _ (by omega) hm0 hm1).mono ?_
          rintro e w1 ⟨rfl, hb1⟩
          go_wp2_with fail
          refine (length_any _ _ _ (by omega) hm0 hm1).mono ?_
          rintro e w2 ⟨rfl, hb2⟩
          go_wp2_with fail
          go_roundw
          case rel => exact ⟨m + 1, by omega, hm2, by rw [cs.out]; omega, by rw [cs.out]; go_num, by go_num, bstep (bstep hbe hbe.size hb1) (Nat.le_trans hbe.size hb1.size) hb2⟩
          case measure => simp [intOf]; omega
        · have hc' : d - begin_ y - cum y m < mlen y m := by omega
          clear hc
          have hv := Lib.hid (civ_val (is_of d y m hy0 hy1 hm0 hm1 hr hc'))
          go_wp2_with fail
          refine (length_any _ _ _ (by omega) hm0 hm1).mono ?_
          rintro e w1 ⟨rfl, hb1⟩
          go_wp2_with fail
          go_ret3
          exact ⟨hv.out, bstep hbe hbe.size hb1⟩

end Go.Proofs.YtfiplppdmedhkaaGreatDoor.Dt

namespace Go.Proofs.YtfiplppdmedhkaaGreatDoor.Dt
open Go.RowKit
open Go.Proofs.YtfiplppdmedhkaaGreatDoor.Cal

theorem year_upr (d y : Int) (hy0 : 2000 ≤ y) (h1 : d ≤ 73048) (hy : y ≤ 2199) (h : 365 + lp y ≤ d - begin_ y) : y + 1 ≤ 2199 ∧ begin_ (y + 1) ≤ d := by
  have := begin_succ y hy0 hy
  have h' : begin_ (y + 1) ≤ d := by omega
  exact ⟨year_up d y h1 hy h', h'⟩

set_option maxHeartbeats 800000 in
theorem rcivil_any (d : Int) (w : World) (h0 : 0 ≤ d) (h1 : d ≤ 73048) : Calls Tryz.prog 128 #[.int .i64 d] w fun e w' => e = .returned (.tuple #[.int .i64 (cy d), .int .i64 (cm d), .int .i64 (ck d)]) ∧ w = w' := by
  go_enter Tryz.func128, Tryz.ntmps128
  go_wp2_with (go_at_call 99; refine (rvalid_yes d _ h0 h1).mono ?_; rintro e w' ⟨rfl, rfl⟩)
  go_loop [0, 5] (fun r t => ∃ y : Int, 2000 ≤ y ∧ y ≤ 2199 ∧ begin_ y ≤ d ∧ r = .int .i64 (d - begin_ y) ∧ t = .int .i64 y) (fun _ t => (2199 - intOf t).toNat)
  case atStart => exact ⟨2000, by omega, by omega, by rw [begin_0]; omega, by rw [begin_0]; go_num, rfl⟩
  case round =>
    obtain ⟨y, hy0, hy1, hy2, rfl, rfl⟩ := hrel
    have lb := lp_bd y
    have hbb := begin_bd y hy0 (by omega)
    have bs := Lib.hid (begin_succ y hy0 hy1)
    by_cases hc : 365 + lp y ≤ d - begin_ y
    · obtain ⟨hy3, hy4⟩ := year_upr d y hy0 h1 hy1 hc
      go_wp2_with (go_at_call 166; refine (ylen_any _ _ (by omega)).mono ?_; rintro e w' ⟨rfl, rfl⟩)
      go_round
      case rel => exact ⟨y + 1, by omega, hy3, hy4, by rw [bs.out]; go_num, by go_num⟩
      case measure => simp [intOf]; omega
    · have hc' : d - begin_ y < 365 + lp y := by omega
      have h13 : d - begin_ y < cum y 13 := by rw [cum_13]; exact hc'
      clear hc
      go_wp2_with (go_at_call 166; refine (ylen_any _ _ (by omega)).mono ?_; rintro e w' ⟨rfl, rfl⟩)
      go_loop [0, 6] (fun r k => ∃ m : Int, 1 ≤ m ∧ m ≤ 12 ∧ 0 ≤ d - begin_ y - cum y m ∧ r = .int .i64 (d - begin_ y - cum y m) ∧ k = .int .i64 m) (fun _ k => (12 - intOf k).toNat)
      case atStart => exact ⟨1, by omega, by omega, by rw [cum_1]; omega, by rw [cum_1]; go_num, rfl⟩
      case round =>
        obtain ⟨m, hm0, hm1, hr, rfl, rfl⟩ := hrel
        have ml := mlen_bd y m hm0 hm1
        have cs := Lib.hid (cum_succ y m)
        have cb := cum_bd y m hm0 (by omega)
        have rl := rlen_in y m hm0 hm1
        by_cases hc : mlen y m ≤ d - begin_ y - cum y m
        · have hm2 := month_up _ y m h13 hm1 hc
          rw [← rl] at ml hc cs
          have cs' := Lib.hid cs
          clear rl cs
          go_wp2_with (go_at_call 167; refine (rlength_any _ _ _ (by omega)).mono ?_; rintro e w' ⟨rfl, rfl⟩)
          go_round
          case rel => exact ⟨m + 1, by omega, hm2, by rw [cs'.out.out]; omega, by rw [cs'.out.out]; go_num, by go_num⟩
          case measure => simp [intOf]; omega
        · have hc' : d - begin_ y - cum y m < mlen y m := by omega
          clear hc
          have hv := Lib.hid (civ_val (is_of d y m hy0 hy1 hm0 hm1 hr hc'))
          rw [← rl] at ml hc'
          clear rl
          go_wp2_with (go_at_call 167; refine (rlength_any _ _ _ (by omega)).mono ?_; rintro e w' ⟨rfl, rfl⟩)
          go_ret3
          exact ⟨hv.out, rfl⟩

/-- A civil date that is one of a day. -/
def dateOk (y m k : Int) : Prop := 2000 ≤ y ∧ y ≤ 2199 ∧ 1 ≤ m ∧ m ≤ 12 ∧ 1 ≤ k ∧ k ≤ mlen y m

set_option maxHeartbeats 800000 in
theorem day_yes (y m k : Int) (w : World) (hd : dateOk y m k) : Calls Tryz.prog 162 #[.int .i64 y, .int .i64 m, .int .i64 k] w fun e w' => e = .returned (.tuple #[.int .i64 (begin_ y + cum y m + k - 1), .int .i64 0]) ∧ Below w.heap.size w w' := by
  obtain ⟨hy0, hy1, hm0, hm1, hk0, hk1⟩ := hd
  have ml := mlen_bd y m hm0 hm1
  have hbb := begin_bd y hy0 (by omega)
  go_enter Tryz.func162, Tryz.ntmps162
  go_wp2_with fail
  refine (length_any _ _ _ (by omega) hm0 hm1).mono ?_
  rintro e w1 ⟨rfl, hb1⟩
  go_wp2_with (go_at_call 160; refine (begin_any _ _ (by omega) (by omega)).mono ?_; rintro e w' ⟨rfl, rfl⟩)
  go_loopw [8, 9] (fun n i wr => ∃ j : Int, 1 ≤ j ∧ j ≤ m ∧ n = .int .i64 (begin_ y + cum y j + k - 1) ∧ i = .int .i64 j ∧ Below w.heap.size w wr) (fun _ i _ => (m - intOf i).toNat)
  case atStart => exact ⟨1, by omega, hm0, by rw [cum_1]; go_num, rfl, hb1⟩
  case round =>
    obtain ⟨j, hj0, hj1, rfl, rfl, hbe⟩ := hrel
    have cb := cum_bd y j hj0 (by omega)
    have cs := Lib.hid (cum_succ y j)
    by_cases hlt : j < m
    · have ml2 := mlen_bd y j hj0 (by omega)
      go_wp2_with fail
      refine (length_any _ _ _ (by omega) hj0 (by omega)).mono ?_
      rintro e w2 ⟨rfl, hb2⟩
      go_wp2_with fail
      go_roundw
      case rel => exact ⟨j + 1, by omega, by omega, by rw [cs.out]; go_num, by go_num, bstep hbe hbe.size hb2⟩
      case measure => simp [intOf]; omega
    · have hj : j = m := by omega
      subst hj
      go_wp2_with fail
      go_ret2
      exact ⟨rfl, hbe⟩

set_option maxHeartbeats 800000 in
theorem rday_yes (y m k : Int) (w : World) (hd : dateOk y m k) : Calls Tryz.prog 168 #[.int .i64 y, .int .i64 m, .int .i64 k] w fun e w' => e = .returned (.tuple #[.int .i64 (begin_ y + cum y m + k - 1), .int .i64 0]) ∧ w = w' := by
  obtain ⟨hy0, hy1, hm0, hm1, hk0, hk1⟩ := hd
  have ml := mlen_bd y m hm0 hm1
  have hbb := begin_bd y hy0 (by omega)
  rw [← rlen_in y m hm0 hm1] at ml hk1
  go_enter Tryz.func168, Tryz.ntmps168
  go_wp2_with (go_at_call 167; refine (rlength_any _ _ _ (by omega)).mono ?_; rintro e w' ⟨rfl, rfl⟩)
  go_loop [8, 9] (fun n i => ∃ j : Int, 2000 ≤ j ∧ j ≤ y ∧ n = .int .i64 (begin_ j + k - 1) ∧ i = .int .i64 j) (fun _ i => (y - intOf i).toNat)
  case atStart => exact ⟨2000, by omega, by omega, by rw [begin_0]; go_num, rfl⟩
  case round =>
    obtain ⟨j, hj0, hj1, rfl, rfl⟩ := hrel
    have lb := lp_bd j
    have hbj := begin_bd j hj0 (by omega)
    by_cases hlt : j < y
    · have bs := Lib.hid (begin_succ j hj0 (by omega))
      go_wp2_with (go_at_call 166; refine (ylen_any _ _ (by omega)).mono ?_; rintro e w' ⟨rfl, rfl⟩)
      go_round
      case rel => exact ⟨j + 1, by omega, by omega, by rw [bs.out]; go_num, by go_num⟩
      case measure => simp [intOf]; omega
    · have hj : j = y := by omega
      subst hj
      clear hlt
      go_wp2_with fail
      go_loop [8, 10] (fun n i => ∃ q : Int, 1 ≤ q ∧ q ≤ m ∧ n = .int .i64 (begin_ j + cum j q + k - 1) ∧ i = .int .i64 q) (fun _ i => (m - intOf i).toNat)
      case atStart => exact ⟨1, by omega, hm0, by rw [cum_1]; go_num, rfl⟩
      case round =>
        obtain ⟨q, hq0, hq1, rfl, rfl⟩ := hrel
        have cb := cum_bd j q hq0 (by omega)
        by_cases hlt : q < m
        · have ml2 := mlen_bd j q hq0 (by omega)
          have cs := Lib.hid (cum_succ j q)
          have rl := rlen_in j q hq0 (by omega)
          rw [← rl] at ml2 cs
          have cs' := Lib.hid cs
          clear rl cs
          go_wp2_with (go_at_call 167; refine (rlength_any _ _ _ (by omega)).mono ?_; rintro e w' ⟨rfl, rfl⟩)
          go_round
          case rel => exact ⟨q + 1, by omega, by omega, by rw [cs'.out.out]; go_num, by go_num⟩
          case measure => simp [intOf]; omega
        · have hq : q = m := by omega
          subst hq
          go_wp2_with fail
          go_ret2
          exact ⟨rfl, rfl⟩

theorem rday_no (y m k : Int) (w : World) (hd : ¬ dateOk y m k) : Calls Tryz.prog 168 #[.int .i64 y, .int .i64 m, .int .i64 k] w fun e w' => e = .returned (.tuple #[.int .i64 0, .int .i64 1]) ∧ w = w' := by
  by_cases c1 : y < 2000
  · clear hd
    go_enter Tryz.func168, Tryz.ntmps168
    go_wp2_with fail
    go_ret2
    exact ⟨rfl, rfl⟩
  have d1 : 2000 ≤ y := by omega
  by_cases c2 : 2199 < y
  · clear hd c1
    go_enter Tryz.func168, Tryz.ntmps168
    go_wp2_with fail
    go_ret2
    exact ⟨rfl, rfl⟩
  have d2 : y ≤ 2199 := by omega
  by_cases c5 : k < 1
  · clear hd c1 c2
    go_enter Tryz.func168, Tryz.ntmps168
    go_wp2_with fail
    go_ret2
    exact ⟨rfl, rfl⟩
  have d5 : 1 ≤ k := by omega
  have d6 : rlen y m < k := by
    by_cases c : 1 ≤ m ∧ m ≤ 12
    · rw [rlen_in y m c.1 c.2]; unfold dateOk at hd; omega
    · rw [rlen_out y m (by omega)]; omega
  clear hd c1 c2 c5
  go_enter Tryz.func168, Tryz.ntmps168
  go_wp2_with (go_at_call 167; refine (rlength_any _ _ _ (by omega)).mono ?_; rintro e w' ⟨rfl, rfl⟩)
  go_ret2
  exact ⟨rfl, rfl⟩

end Go.Proofs.YtfiplppdmedhkaaGreatDoor.Dt
