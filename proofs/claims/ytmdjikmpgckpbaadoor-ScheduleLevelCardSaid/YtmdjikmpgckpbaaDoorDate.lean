/-
  The contracts of the functions of package date, and of the reference's: what each call returns, for every argument that the contract names.
-/
import Derived.Test.YtmdjikmpgckpbaaDoorRows
import Derived.Test.YtmdjikmpgckpbaaDoorCal
import Derived.WalkKit
import Derived.WalkSpells
import Derived.WalkLawsBesides
import Derived.Lib.Hide
namespace Go.Proofs.YtmdjikmpgckpbaaDoor.Dt
open Go.RowKit
open Go.Proofs.YtmdjikmpgckpbaaDoor.Cal

theorem ret_int {k : IntKind} {a b : Int} (h : a = b) : Ending.returned (.int k a) = .returned (.int k b) := by rw [h]
theorem ret_bool {a b : Bool} (h : a = b) : Ending.returned (.bool a) = .returned (.bool b) := by rw [h]

/-! ### Valid -/
theorem valid_yes (d : Int) (w : World) (h0 : 0 ≤ d) (h1 : d ≤ 73048) : Calls Tryd.prog 27 #[.int .i64 d] w fun e w' => e = .returned (.bool true) ∧ w = w' := by
  go_enter Tryd.func27, Tryd.ntmps27
  go_wp2
  go_ret
  exact ⟨rfl, rfl⟩
theorem valid_no (d : Int) (w : World) (h : d < 0 ∨ 73048 < d) : Calls Tryd.prog 27 #[.int .i64 d] w fun e w' => e = .returned (.bool false) ∧ w = w' := by
  rcases h with h | h
  · go_enter Tryd.func27, Tryd.ntmps27
    go_wp2
    go_ret
    exact ⟨rfl, rfl⟩
  · go_enter Tryd.func27, Tryd.ntmps27
    go_wp2
    go_ret
    exact ⟨ret_bool (by simp; omega), rfl⟩
theorem rvalid_yes (d : Int) (w : World) (h0 : 0 ≤ d) (h1 : d ≤ 73048) : Calls Tryd.prog 32 #[.int .i64 d] w fun e w' => e = .returned (.bool true) ∧ w = w' := by
  go_enter Tryd.func32, Tryd.ntmps32
  go_wp2
  go_ret
  exact ⟨rfl, rfl⟩
theorem rvalid_no (d : Int) (w : World) (h : d < 0 ∨ 73048 < d) : Calls Tryd.prog 32 #[.int .i64 d] w fun e w' => e = .returned (.bool false) ∧ w = w' := by
  rcases h with h | h
  · go_enter Tryd.func32, Tryd.ntmps32
    go_wp2
    go_ret
    exact ⟨rfl, rfl⟩
  · go_enter Tryd.func32, Tryd.ntmps32
    go_wp2
    go_ret
    exact ⟨ret_bool (by simp; omega), rfl⟩

/-! ### Leap -/
theorem lp_yes (y : Int) (h4 : y % 4 = 0) (h : y % 100 ≠ 0 ∨ y % 400 = 0) : decide (lp y = 1) = true := by simp [lp, h4, h]
theorem lp_no (y : Int) (h : ¬ (y % 4 = 0 ∧ (y % 100 ≠ 0 ∨ y % 400 = 0))) : decide (lp y = 1) = false := by unfold lp; rw [if_neg h]; rfl
theorem leap_any (y : Int) (w : World) (h0 : 0 ≤ y) : Calls Tryd.prog 74 #[.int .i64 y] w fun e w' => e = .returned (.bool (decide (lp y = 1))) ∧ w = w' := by
  by_cases h4 : y % 4 = 0
  · by_cases h1 : y % 100 = 0
    · by_cases h2 : y % 400 = 0
      · rw [lp_yes y h4 (.inr h2)]
        go_enter Tryd.func74, Tryd.ntmps74
        go_wp2
        go_ret
        exact ⟨ret_bool (by simp_all), rfl⟩
      · rw [lp_no y (by omega)]
        go_enter Tryd.func74, Tryd.ntmps74
        go_wp2
        go_ret
        exact ⟨ret_bool (by simp_all), rfl⟩
    · rw [lp_yes y h4 (.inl h1)]
      go_enter Tryd.func74, Tryd.ntmps74
      go_wp2
      go_ret
      exact ⟨ret_bool (by simp_all), rfl⟩
  · rw [lp_no y (by omega)]
    go_enter Tryd.func74, Tryd.ntmps74
    go_wp2
    go_ret
    exact ⟨ret_bool (by simp_all), rfl⟩

/-! ### begin -/
theorem begin_any (y : Int) (w : World) (h0 : 2000 ≤ y) (h1 : y ≤ 2200) : Calls Tryd.prog 53 #[.int .i64 y] w fun e w' => e = .returned (.int .i64 (begin_ y)) ∧ w = w' := by
  have e1 : begin_ y = 365 * (y - 2000) + (y - 2000 + 3) / 4 - (if 2100 < y then 1 else 0) := by unfold begin_; split <;> omega
  rw [e1]
  clear e1
  by_cases h : 2100 < y
  · rw [if_pos h]
    go_enter Tryd.func53, Tryd.ntmps53
    go_wp2
    go_ret
    exact ⟨ret_int (by omega), rfl⟩
  · rw [if_neg h]
    go_enter Tryd.func53, Tryd.ntmps53
    go_wp2
    go_ret
    exact ⟨ret_int (by omega), rfl⟩

end Go.Proofs.YtmdjikmpgckpbaaDoor.Dt
