/-
  The reference's Pay: its errors.
-/
import Derived.Test.YtfiplppdmedhkaaGreatDoorLr4
import Derived.Test.YtfiplppdmedhkaaGreatDoorLc
namespace Go.Proofs.YtfiplppdmedhkaaGreatDoor.Ln
open Go.RowKit
open Go.Proofs.YtfiplppdmedhkaaGreatDoor
set_option maxRecDepth 100000

/-- Nothing. -/
def zcells : Array Value := #[.int .i64 0, .int .i64 0, .int .i64 0, .int .i64 0, .int .i64 0, .int .i64 0, .int .i64 0, .int .i64 0, .int .i64 0, .int .i64 0, .int .i64 0, .int .i64 0, .int .i64 0, .int .i64 0, .int .i64 0, .int .i64 0, .int .i64 0, .int .i64 0, .int .i64 0, .int .i64 0, .int .i64 0, .string .empty, .string .empty, .slice none 0 0, .slice none 0 0]
theorem pay_err (l : Lo) (n on : Int) : (chk l ≠ 0 ∧ payE l n on = 1) ∨ (chk l = 0 ∧ n < 1 ∧ payE l n on = 1) ∨ (chk l = 0 ∧ 1 ≤ n ∧ 1000000000000 < n ∧ payE l n on = 1) ∨ (chk l = 0 ∧ 1 ≤ n ∧ n ≤ 1000000000000 ∧ dayB on = false ∧ payE l n on = 1) ∨ (chk l = 0 ∧ 1 ≤ n ∧ n ≤ 1000000000000 ∧ dayB on = true ∧ l.st ≠ 1 ∧ payE l n on = 17) ∨ (chk l = 0 ∧ 1 ≤ n ∧ n ≤ 1000000000000 ∧ dayB on = true ∧ l.st = 1 ∧ payE l n on = 0) := by
  unfold payE dayB
  by_cases h1 : chk l = 0
  · by_cases h2 : n < 1
    · exact .inr (.inl ⟨h1, h2, if_neg (by omega)⟩)
    · by_cases h3 : 1000000000000 < n
      · exact .inr (.inr (.inl ⟨h1, by omega, h3, if_neg (by omega)⟩))
      · by_cases h4 : 0 ≤ on ∧ on ≤ 73048
        · by_cases h5 : l.st = 1
          · exact .inr (.inr (.inr (.inr (.inr ⟨h1, by omega, by omega, decide_eq_true h4, h5, by rw [if_pos (by omega), if_pos h5]⟩))))
          · exact .inr (.inr (.inr (.inr (.inl ⟨h1, by omega, by omega, decide_eq_true h4, h5, by rw [if_pos (by omega), if_neg h5]⟩))))
        · exact .inr (.inr (.inr (.inl ⟨h1, by omega, by omega, decide_eq_false h4, if_neg (by omega)⟩)))
  · exact .inl ⟨h1, if_neg (by omega)⟩
end Go.Proofs.YtfiplppdmedhkaaGreatDoor.Ln
