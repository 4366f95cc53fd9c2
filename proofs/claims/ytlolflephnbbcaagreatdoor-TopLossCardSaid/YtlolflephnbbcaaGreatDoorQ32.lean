/-
  Parts of the proof: Dta, Dcw, Dcs, Dct.
-/
import Derived.Test.YtlolflephnbbcaaGreatDoorRows
import Derived.Test.YtlolflephnbbcaaGreatDoorQ20
import Derived.WalkKit
import Derived.WalkSpells
import Derived.WalkLawsBesides
import Derived.Lib.Hide
namespace Go.Proofs.YtlolflephnbbcaaGreatDoor.Dt
open Go.RowKit
open Go.Proofs.YtlolflephnbbcaaGreatDoor.Cal

theorem ret_int {k : IntKind} {a b : Int} (h : a = b) : Ending.returned (.int k a) = .returned (.int k b) := by rw [h]
theorem ret_bool {a b : Bool} (h : a = b) : Ending.returned (.bool a) = .returned (.bool b) := by rw [h]

/-! ### Valid -/
theorem valid_yes (d : Int) (w : World) (h0 : 0 ≤ d) (h1 : d ≤ 73048) : Calls Tryz.prog 71 #[.int .i64 d] w fun e w' => e = .returned (.bool true) ∧ w = w' := by
 go_enter Tryz.func71, Tryz.ntmps71
 go_wp2
 go_ret
 exact ⟨rfl, rfl⟩
theorem valid_no (d : Int) (w : World) (h : d < 0 ∨ 73048 < d) : Calls Tryz.prog 71 #[.int .i64 d] w fun e w' => e = .returned (.bool false) ∧ w = w' := by
 rcases h with h | h
 ·go_enter Tryz.func71, Tryz.ntmps71
  go_wp2
  go_ret
  exact ⟨rfl, rfl⟩
 ·go_enter Tryz.func71, Tryz.ntmps71
  go_wp2
  go_ret
  exact ⟨ret_bool (by simp; omega), rfl⟩
theorem rvalid_yes (d : Int) (w : World) (h0 : 0 ≤ d) (h1 : d ≤ 73048) : Calls Tryz.prog 25 #[.int .i64 d] w fun e w' => e = .returned (.bool true) ∧ w = w' := by
 go_enter Tryz.func25, Tryz.ntmps25
 go_wp2
 go_ret
 exact ⟨rfl, rfl⟩
theorem rvalid_no (d : Int) (w : World) (h : d < 0 ∨ 73048 < d) : Calls Tryz.prog 25 #[.int .i64 d] w fun e w' => e = .returned (.bool false) ∧ w = w' := by
 rcases h with h | h
 ·go_enter Tryz.func25, Tryz.ntmps25
  go_wp2
  go_ret
  exact ⟨rfl, rfl⟩
 ·go_enter Tryz.func25, Tryz.ntmps25
  go_wp2
  go_ret
  exact ⟨ret_bool (by simp; omega), rfl⟩

/-! ### Leap -/
theorem lp_yes (y : Int) (h4 : y % 4 = 0) (h : y % 100 ≠ 0 ∨ y % 400 = 0) : decide (lp y = 1) = true := by simp [lp, h4, h]
theorem lp_no (y : Int) (h : ¬ (y % 4 = 0 ∧ (y % 100 ≠ 0 ∨ y % 400 = 0))) : decide (lp y = 1) = false := by unfold lp; rw [if_neg h]; rfl
theorem leap_any (y : Int) (w : World) (h0 : 0 ≤ y) : Calls Tryz.prog 157 #[.int .i64 y] w fun e w' => e = .returned (.bool (decide (lp y = 1))) ∧ w = w' := by
 by_cases h4 : y % 4 = 0
 ·by_cases h1 : y % 100 = 0
  ·by_cases h2 : y % 400 = 0
   ·rw [lp_yes y h4 (.inr h2)]
    go_enter Tryz.func157, Tryz.ntmps157
    go_wp2
    go_ret
    exact ⟨ret_bool (by simp_all), rfl⟩
   ·rw [lp_no y (by omega)]
    go_enter Tryz.func157, Tryz.ntmps157
    go_wp2
    go_ret
    exact ⟨ret_bool (by simp_all), rfl⟩
  ·rw [lp_yes y h4 (.inl h1)]
   go_enter Tryz.func157, Tryz.ntmps157
   go_wp2
   go_ret
   exact ⟨ret_bool (by simp_all), rfl⟩
 ·rw [lp_no y (by omega)]
  go_enter Tryz.func157, Tryz.ntmps157
  go_wp2
  go_ret
  exact ⟨ret_bool (by simp_all), rfl⟩

/-! ### begin -/
theorem begin_any (y : Int) (w : World) (h0 : 2000 ≤ y) (h1 : y ≤ 2200) : Calls Tryz.prog 114 #[.int .i64 y] w fun e w' => e = .returned (.int .i64 (begin_ y)) ∧ w = w' := by
 have e1 : begin_ y = 365 * (y - 2000) + (y - 2000 + 3) / 4 - (if 2100 < y then 1 else 0) := by unfold begin_; split <;> omega
 rw [e1]
 clear e1
 by_cases h : 2100 < y
 ·rw [if_pos h]
  go_enter Tryz.func114, Tryz.ntmps114
  go_wp2
  go_ret
  exact ⟨ret_int (by omega), rfl⟩
 ·rw [if_neg h]
  go_enter Tryz.func114, Tryz.ntmps114
  go_wp2
  go_ret
  exact ⟨ret_int (by omega), rfl⟩

end Go.Proofs.YtlolflephnbbcaaGreatDoor.Dt

namespace Go.Proofs.YtlolflephnbbcaaGreatDoor.Dt
open Go.RowKit
open Go.Proofs.YtlolflephnbbcaaGreatDoor.Cal

set_option maxHeartbeats 800000 in
theorem length_any (y m : Int) (w : World) (h0 : 0 ≤ y) (hm0 : 1 ≤ m) (hm1 : m ≤ 12) : Calls Tryz.prog 115 #[.int .i64 y, .int .i64 m] w fun e w' => e = .returned (.int .i64 (mlen y m)) ∧ Below w.heap.size w w' := by
 have hm : m = 2 ∨ (m = 4 ∨ m = 6 ∨ m = 9 ∨ m = 11) ∨ (m = 1 ∨ m = 3 ∨ m = 5 ∨ m = 7 ∨ m = 8 ∨ m = 10 ∨ m = 12) := by omega
 rcases hm with h | h | h
 ·subst h
  rw [mlen_2]
  rcases lp_01 y with h | h
  all_goals
   rw [h]
   go_enter Tryz.func115, Tryz.ntmps115
   go_wp2_with (go_at_call 157; refine (leap_any y _ h0).mono ?_; rintro e w' ⟨rfl, rfl⟩)
   go_ret
   exact ⟨rfl, (Below.refl _ _).alloc (Nat.le_refl _) _⟩
 ·rw [mlen_30 y m h]
  rcases h with h | h | h | h <;> subst h
  all_goals
   go_enter Tryz.func115, Tryz.ntmps115
   go_wp2
   go_ret
   exact ⟨rfl, (Below.refl _ _).alloc (Nat.le_refl _) _⟩
 ·rw [mlen_31 y m h]
  rcases h with h | h | h | h | h | h | h <;> subst h
  all_goals
   go_enter Tryz.func115, Tryz.ntmps115
   go_wp2
   go_ret
   exact ⟨rfl, (Below.refl _ _).alloc (Nat.le_refl _) _⟩

def rlen (y m : Int) : Int := if 1 ≤ m ∧ m ≤ 12 then mlen y m else 0
end Go.Proofs.YtlolflephnbbcaaGreatDoor.Dt

namespace Go.Proofs.YtlolflephnbbcaaGreatDoor.Dt
open Go.RowKit
open Go.Proofs.YtlolflephnbbcaaGreatDoor.Cal

theorem bstep {B : Nat} {w W w1 : World} (h : Below B w W) (hw : B ≤ W.heap.size) (hb : Below W.heap.size W w1) : Below B w w1 := h.trans (hb.mono hw)

theorem year_start (d : Int) (h0 : 0 ≤ d) (h1 : d ≤ 73048) : begin_ (2000 + d / 366) ≤ d ∧ 2000 ≤ 2000 + d / 366 ∧ 2000 + d / 366 ≤ 2199 := by
 unfold begin_; split <;> omega
theorem year_up (d y : Int) (h1 : d ≤ 73048) (hy : y ≤ 2199) (h : begin_ (y + 1) ≤ d) : y + 1 ≤ 2199 := by
 by_cases e : y = 2199
 ·subst e; have := begin_200; simp only [show (2199 : Int) + 1 = 2200 from rfl] at h; omega
 ·omega
theorem month_up (x y m : Int) (h : x < cum y 13) (hm : m ≤ 12) (h2 : mlen y m ≤ x - cum y m) : m + 1 ≤ 12 := by
 by_cases e : m = 12
 ·subst e; have := cum_succ y 12; simp only [show (12 : Int) + 1 = 13 from rfl] at this; omega
 ·omega
theorem is_of (d y m : Int) (hy0 : 2000 ≤ y) (hy1 : y ≤ 2199) (hm0 : 1 ≤ m) (hm1 : m ≤ 12) (hr : 0 ≤ d - begin_ y - cum y m) (hl : d - begin_ y - cum y m < mlen y m) : IsCivil d y m (d - begin_ y - cum y m + 1) :=
 ⟨hy0, hy1, hm0, hm1, by omega, by omega, by omega⟩
theorem less_13 (d y : Int) (hy0 : 2000 ≤ y) (hy1 : y ≤ 2199) (h : d < begin_ (y + 1)) : d - begin_ y < cum y 13 := by
 have := begin_succ y hy0 hy1; rw [cum_13]; omega
theorem civ_val {d y m k : Int} (h : IsCivil d y m k) : (Ending.returned (.tuple #[.int .i64 y, .int .i64 m, .int .i64 k])) = .returned (.tuple #[.int .i64 (cy d), .int .i64 (cm d), .int .i64 (ck d)]) := by
 obtain ⟨a, b, c⟩ := civ_eq h; rw [a, b, c]

set_option maxHeartbeats 800000 in
theorem civil_any (d : Int) (w : World) (h0 : 0 ≤ d) (h1 : d ≤ 73048) : Calls Tryz.prog 73 #[.int .i64 d] w fun e w' => e = .returned (.tuple #[.int .i64 (cy d), .int .i64 (cm d), .int .i64 (ck d)]) ∧ Below w.heap.size w w' := by
 obtain ⟨g0, g1, g2⟩ := year_start d h0 h1
 go_enter Tryz.func73, Tryz.ntmps73
 go_wp2_with (go_at_call 71; refine (valid_yes d _ h0 h1).mono ?_; rintro e w' ⟨rfl, rfl⟩)
 go_loop [5] (fun t => ∃ y : Int, 2000 ≤ y ∧ y ≤ 2199 ∧ begin_ y ≤ d ∧ t = .int .i64 y) (fun t => (2199 - intOf t).toNat)
 case atStart => exact ⟨_, g1, g2, g0, rfl⟩
 case round =>
  obtain ⟨y, hy0, hy1, hy2, rfl⟩ := hrel
  clear g0 g1 g2
  by_cases hc : begin_ (y + 1) ≤ d
  ·have hy3 := year_up d y h1 hy1 hc
   go_wp2_with (go_at_call 114; refine (begin_any _ _ (by omega) (by omega)).mono ?_; rintro e w' ⟨rfl, rfl⟩)
   go_round
   case rel => exact ⟨y + 1, by omega, hy3, hc, by go_num⟩
   case measure => simp [intOf]; omega
  ·have hc' : d < begin_ (y + 1) := by omega
   have h13 := less_13 d y hy0 hy1 hc'
   have hbb := begin_bd y hy0 (by omega)
   clear hc
   go_wp2_with (go_at_call 114; refine (begin_any _ _ (by omega) (by omega)).mono ?_; rintro e w' ⟨rfl, rfl⟩)
   go_loopw [0, 6] (fun r k wr => ∃ m : Int, 1 ≤ m ∧ m ≤ 12 ∧ 0 ≤ d - begin_ y - cum y m ∧ r = .int .i64 (d - begin_ y - cum y m) ∧ k = .int .i64 m ∧ Below w.heap.size w wr) (fun _ k _ => (12 - intOf k).toNat)
   case atStart => exact ⟨1, by omega, by omega, by rw [cum_1]; omega, by rw [cum_1]; go_num, rfl, Below.refl _ _⟩
   case round =>
    obtain ⟨m, hm0, hm1, hr, rfl, rfl, hbe⟩ := hrel
    have ml := mlen_bd y m hm0 hm1
    have cs := Lib.hid (cum_succ y m)
    have cb := cum_bd y m hm0 (by omega)
    by_cases hc : mlen y m ≤ d - begin_ y - cum y m
    ·have hm2 := month_up _ y m h13 hm1 hc
     go_wp2_with fail
     refine (length_any _ _ _ (by omega) hm0 hm1).mono ?_
     rintro e w1 ⟨rfl, hb1⟩
     go_wp2_with fail
     refine (length_any _ _ _ (by omega) hm0 hm1).mono ?_
     rintro e w2 ⟨rfl, hb2⟩
     go_wp2_with fail
     go_roundw
     case rel => exact ⟨m + 1, by omega, hm2, by rw [cs.out]; omega, by rw [cs.out]; go_num, by go_num, bstep (bstep hbe hbe.size hb1) (Nat.le_trans hbe.size hb1.size) hb2⟩
     case measure => simp [intOf]; omega
    ·have hc' : d - begin_ y - cum y m < mlen y m := by omega
     clear hc
     have hv := Lib.hid (civ_val (is_of d y m hy0 hy1 hm0 hm1 hr hc'))
     go_wp2_with fail
     refine (length_any _ _ _ (by omega) hm0 hm1).mono ?_
     rintro e w1 ⟨rfl, hb1⟩
     go_wp2_with fail
     go_ret3
     exact ⟨hv.out, bstep hbe hbe.size hb1⟩

end Go.Proofs.YtlolflephnbbcaaGreatDoor.Dt

namespace Go.Proofs.YtlolflephnbbcaaGreatDoor.Dt
open Go.RowKit
open Go.Proofs.YtlolflephnbbcaaGreatDoor.Cal

def dateOk (y m k : Int) : Prop := 2000 ≤ y ∧ y ≤ 2199 ∧ 1 ≤ m ∧ m ≤ 12 ∧ 1 ≤ k ∧ k ≤ mlen y m

set_option maxHeartbeats 800000 in
theorem day_yes (y m k : Int) (w : World) (hd : dateOk y m k) : Calls Tryz.prog 116 #[.int .i64 y, .int .i64 m, .int .i64 k] w fun e w' => e = .returned (.tuple #[.int .i64 (begin_ y + cum y m + k - 1), .int .i64 0]) ∧ Below w.heap.size w w' := by
 obtain ⟨hy0, hy1, hm0, hm1, hk0, hk1⟩ := hd
 have ml := mlen_bd y m hm0 hm1
 have hbb := begin_bd y hy0 (by omega)
 go_enter Tryz.func116, Tryz.ntmps116
 go_wp2_with fail
 refine (length_any _ _ _ (by omega) hm0 hm1).mono ?_
 rintro e w1 ⟨rfl, hb1⟩
 go_wp2_with (go_at_call 114; refine (begin_any _ _ (by omega) (by omega)).mono ?_; rintro e w' ⟨rfl, rfl⟩)
 go_loopw [8, 9] (fun n i wr => ∃ j : Int, 1 ≤ j ∧ j ≤ m ∧ n = .int .i64 (begin_ y + cum y j + k - 1) ∧ i = .int .i64 j ∧ Below w.heap.size w wr) (fun _ i _ => (m - intOf i).toNat)
 case atStart => exact ⟨1, by omega, hm0, by rw [cum_1]; go_num, rfl, hb1⟩
 case round =>
  obtain ⟨j, hj0, hj1, rfl, rfl, hbe⟩ := hrel
  have cb := cum_bd y j hj0 (by omega)
  have cs := Lib.hid (cum_succ y j)
  by_cases hlt : j < m
  ·have ml2 := mlen_bd y j hj0 (by omega)
   go_wp2_with fail
   refine (length_any _ _ _ (by omega) hj0 (by omega)).mono ?_
   rintro e w2 ⟨rfl, hb2⟩
   go_wp2_with fail
   go_roundw
   case rel => exact ⟨j + 1, by omega, by omega, by rw [cs.out]; go_num, by go_num, bstep hbe hbe.size hb2⟩
   case measure => simp [intOf]; omega
  ·have hj : j = m := by omega
   subst hj
   go_wp2_with fail
   go_ret2
   exact ⟨rfl, hbe⟩

end Go.Proofs.YtlolflephnbbcaaGreatDoor.Dt
namespace Go.Proofs.YtlolflephnbbcaaGreatDoor.Dt
open Go.RowKit
open Go.Proofs.YtlolflephnbbcaaGreatDoor.Cal

noncomputable def cwx (b d : Int) : Int := if 1 ≤ b ∧ b ≤ 4 then cw b d else 0
end Go.Proofs.YtlolflephnbbcaaGreatDoor.Dt
