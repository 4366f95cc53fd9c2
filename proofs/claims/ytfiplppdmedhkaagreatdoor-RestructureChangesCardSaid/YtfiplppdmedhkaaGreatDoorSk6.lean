/-
  Schedules: the examples that every statement of this chapter requires: they hold.
-/
import Derived.Test.YtfiplppdmedhkaaGreatDoorSk4
import Derived.Test.YtfiplppdmedhkaaGreatDoorSk5
import Derived.Test.YtfiplppdmedhkaaGreatDoorSm5
import Derived.Test.YtfiplppdmedhkaaGreatDoorLc
namespace Go.Proofs.YtfiplppdmedhkaaGreatDoor.Kl
open Go Go.RowKit
open Go.Proofs.YtfiplppdmedhkaaGreatDoor
open Go.Proofs.YtfiplppdmedhkaaGreatDoor.Ln (Tm Du DuesIn RowIn flat denc dues_of_row SQ SQ.mono take_at one_at call_at value_wp yields_load_row call_one call_pv Blk_setRow_same Below_setRow)
set_option linter.unusedSimpArgs false
set_option linter.unusedVariables false
set_option maxRecDepth 100000

theorem row_of_cells {α : Type} {enc : α → List Value} {W : World} {g : Nat} {t : TypeId} {xs : List α} (h : Bk.Blk W g (flat enc xs).toArray t) : RowIn enc W (some ⟨g, 0, none⟩) xs := fun _ =>
  ⟨g, 0, rfl, fun j u hj => by rw [Nat.zero_add, h.cell]; simpa using hj⟩
/-- Installments that a call has returned. -/
def BV (ls : List Du) (v : Value) (W : World) : Prop := ∃ a cap, v = .tuple #[.slice a 3 cap, .int .i64 0] ∧ DuesIn W a ls
def UV (v : Value) (_ : World) : Prop := ∃ a cap, v = .slice a 2 cap
end Go.Proofs.YtfiplppdmedhkaaGreatDoor.Kl
