/-
  The contracts of the functions of package date, and of the reference's, continued: lengths, Civil, Day.
-/
import Derived.Test.YtmdjikmpgckpbaaDoorDate
namespace Go.Proofs.YtmdjikmpgckpbaaDoor.Dt
open Go.RowKit
open Go.Proofs.YtmdjikmpgckpbaaDoor.Cal

/-! ### lengths -/
theorem rleap_any (y : Int) (w : World) (h0 : 0 ≤ y) : Calls Tryd.prog 79 #[.int .i64 y] w fun e w' => e = .returned (.bool (decide (lp y = 1))) ∧ w = w' := by
  by_cases h4 : y % 4 = 0
  · by_cases h1 : y % 100 = 0
    · by_cases h2 : y % 400 = 0
      · rw [lp_yes y h4 (.inr h2)]
        go_enter Tryd.func79, Tryd.ntmps79
        go_wp2
        go_ret
        exact ⟨ret_bool (by simp_all), rfl⟩
      · rw [lp_no y (by omega)]
        go_enter Tryd.func79, Tryd.ntmps79
        go_wp2
        go_ret
        exact ⟨ret_bool (by simp_all), rfl⟩
    · rw [lp_yes y h4 (.inl h1)]
      go_enter Tryd.func79, Tryd.ntmps79
      go_wp2
      go_ret
      exact ⟨ret_bool (by simp_all), rfl⟩
  · rw [lp_no y (by omega)]
    go_enter Tryd.func79, Tryd.ntmps79
    go_wp2
    go_ret
    exact ⟨ret_bool (by simp_all), rfl⟩
theorem ylen_any (y : Int) (w : World) (h0 : 0 ≤ y) : Calls Tryd.prog 59 #[.int .i64 y] w fun e w' => e = .returned (.int .i64 (365 + lp y)) ∧ w = w' := by
  rcases lp_01 y with h | h
  all_goals
    have hl : decide (lp y = 1) = decide (lp y = 1) := rfl
    rw [h] at hl ⊢
    clear hl
    go_enter Tryd.func59, Tryd.ntmps59
    go_wp2_with (go_at_call 79; refine (rleap_any y _ h0).mono ?_; rintro e w' ⟨rfl, rfl⟩)
    all_goals (go_ret; exact ⟨ret_int (by simp_all), rfl⟩)

set_option maxHeartbeats 800000 in
theorem length_any (y m : Int) (w : World) (h0 : 0 ≤ y) (hm0 : 1 ≤ m) (hm1 : m ≤ 12) : Calls Tryd.prog 54 #[.int .i64 y, .int .i64 m] w fun e w' => e = .returned (.int .i64 (mlen y m)) ∧ Below w.heap.size w w' := by
  have hm : m = 2 ∨ (m = 4 ∨ m = 6 ∨ m = 9 ∨ m = 11) ∨ (m = 1 ∨ m = 3 ∨ m = 5 ∨ m = 7 ∨ m = 8 ∨ m = 10 ∨ m = 12) := by omega
  rcases hm with h | h | h
  · subst h
    rw [mlen_2]
    rcases lp_01 y with h | h
    all_goals
      rw [h]
      go_enter Tryd.func54, Tryd.ntmps54
      go_wp2_with (go_at_call 74; refine (leap_any y _ h0).mono ?_; rintro e w' ⟨rfl, rfl⟩)
      go_ret
      exact ⟨rfl, (Below.refl _ _).alloc (Nat.le_refl _) _⟩
  · rw [mlen_30 y m h]
    rcases h with h | h | h | h <;> subst h
    all_goals
      go_enter Tryd.func54, Tryd.ntmps54
      go_wp2
      go_ret
      exact ⟨rfl, (Below.refl _ _).alloc (Nat.le_refl _) _⟩
  · rw [mlen_31 y m h]
    rcases h with h | h | h | h | h | h | h <;> subst h
    all_goals
      go_enter Tryd.func54, Tryd.ntmps54
      go_wp2
      go_ret
      exact ⟨rfl, (Below.refl _ _).alloc (Nat.le_refl _) _⟩

/-- The reference's length of a month: 0 where it is none. -/
def rlen (y m : Int) : Int := if 1 ≤ m ∧ m ≤ 12 then mlen y m else 0
theorem rlen_in (y m : Int) (h0 : 1 ≤ m) (h1 : m ≤ 12) : rlen y m = mlen y m := by unfold rlen; rw [if_pos ⟨h0, h1⟩]
theorem rlen_out (y m : Int) (h : m < 1 ∨ 12 < m) : rlen y m = 0 := by unfold rlen; rw [if_neg (by omega)]
set_option maxHeartbeats 800000 in
theorem rlength_any (y m : Int) (w : World) (h0 : 0 ≤ y) : Calls Tryd.prog 60 #[.int .i64 y, .int .i64 m] w fun e w' => e = .returned (.int .i64 (rlen y m)) ∧ w = w' := by
  have hm : (m < 1 ∨ 12 < m) ∨ m = 2 ∨ (m = 4 ∨ m = 6 ∨ m = 9 ∨ m = 11) ∨ (m = 1 ∨ m = 3 ∨ m = 5 ∨ m = 7 ∨ m = 8 ∨ m = 10 ∨ m = 12) := by omega
  rcases hm with h | h | h | h
  · rw [rlen_out y m h]
    rcases h with h | h
    all_goals
      go_enter Tryd.func60, Tryd.ntmps60
      go_wp2
      go_ret
      exact ⟨rfl, rfl⟩
  · subst h
    rw [rlen_in y 2 (by omega) (by omega), mlen_2]
    rcases lp_01 y with h | h
    all_goals
      rw [h]
      go_enter Tryd.func60, Tryd.ntmps60
      go_wp2_with (go_at_call 79; refine (rleap_any y _ h0).mono ?_; rintro e w' ⟨rfl, rfl⟩)
      go_ret
      exact ⟨rfl, rfl⟩
  · rw [rlen_in y m (by omega) (by omega), mlen_30 y m h]
    rcases h with h | h | h | h <;> subst h
    all_goals
      go_enter Tryd.func60, Tryd.ntmps60
      go_wp2
      go_ret
      exact ⟨rfl, rfl⟩
  · rw [rlen_in y m (by omega) (by omega), mlen_31 y m h]
    rcases h with h | h | h | h | h | h | h <;> subst h
    all_goals
      go_enter Tryd.func60, Tryd.ntmps60
      go_wp2
      go_ret
      exact ⟨rfl, rfl⟩

end Go.Proofs.YtmdjikmpgckpbaaDoor.Dt
