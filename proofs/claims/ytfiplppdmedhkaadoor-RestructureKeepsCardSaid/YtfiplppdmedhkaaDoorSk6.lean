/-
  Schedules: the examples that every statement of this chapter requires: they hold.
-/
import Derived.Test.YtfiplppdmedhkaaDoorSk4
import Derived.Test.YtfiplppdmedhkaaDoorSk5
import Derived.Test.YtfiplppdmedhkaaDoorSm5
import Derived.Test.YtfiplppdmedhkaaDoorLc
namespace Go.Proofs.YtfiplppdmedhkaaDoor.Kl
open Go Go.RowKit
open Go.Proofs.YtfiplppdmedhkaaDoor
open Go.Proofs.YtfiplppdmedhkaaDoor.Ln (Tm Du DuesIn RowIn flat denc dues_of_row SQ SQ.mono take_at one_at call_at value_wp yields_load_row call_one call_pv Blk_setRow_same Below_setRow)
set_option linter.unusedSimpArgs false
set_option linter.unusedVariables false
set_option maxRecDepth 100000

theorem row_of_cells {α : Type} {enc : α → List Value} {W : World} {g : Nat} {t : TypeId} {xs : List α} (h : Bk.Blk W g (flat enc xs).toArray t) : RowIn enc W (some ⟨g, 0, none⟩) xs := fun _ =>
  ⟨g, 0, rfl, fun j u hj => by rw [Nat.zero_add, h.cell]; simpa using hj⟩
theorem one3 : (#[.string { data := #[104, 111, 109, 101] }, .slice none 0 0, .slice none 0 0] : Array Value).toList.all (·.oneCell') = true := by kernel_rfl
/-- Installments that a call has returned. -/
def BV (ls : List Du) (v : Value) (W : World) : Prop := ∃ a cap, v = .tuple #[.slice a 3 cap, .int .i64 0] ∧ DuesIn W a ls
theorem build_1 (w : World) (hS : Rd.Stp w) : Calls Tryd.prog 44 #[.agg #[.int .i64 1, .int .i64 1000, .int .i64 120000, .int .i64 30, .int .i64 1, .int .i64 3, .int .i64 0, .int .i64 6, .int .i64 0, .int .i64 0, .string { data := #[104, 111, 109, 101] }, .string { data := #[69, 85, 82] }], .agg #[.string { data := #[104, 111, 109, 101] }, .slice none 0 0, .slice none 0 0]] w fun e w' => ∃ v, e = .returned v ∧ BV l10 v w' ∧ Below w.heap.size w w' :=
  (build_any (tm0 1) cl0 none none 0 0 w ⟨⟨by decide, fun h => absurd h (by decide)⟩, ⟨by decide, fun h => absurd h (by decide)⟩, by decide⟩ (by decide) hS).mono fun e w' ⟨a, cap, he, hd, _, hb⟩ => by
    rw [bl1_eq] at hd he
    rw [bl1_ok] at he
    exact ⟨_, he, ⟨a, cap, rfl, hd⟩, hb⟩
theorem build_2 (w : World) (hS : Rd.Stp w) : Calls Tryd.prog 44 #[.agg #[.int .i64 2, .int .i64 1000, .int .i64 120000, .int .i64 30, .int .i64 1, .int .i64 3, .int .i64 0, .int .i64 6, .int .i64 0, .int .i64 0, .string { data := #[104, 111, 109, 101] }, .string { data := #[69, 85, 82] }], .agg #[.string { data := #[104, 111, 109, 101] }, .slice none 0 0, .slice none 0 0]] w fun e w' => ∃ v, e = .returned v ∧ BV l20 v w' ∧ Below w.heap.size w w' :=
  (build_any (tm0 2) cl0 none none 0 0 w ⟨⟨by decide, fun h => absurd h (by decide)⟩, ⟨by decide, fun h => absurd h (by decide)⟩, by decide⟩ (by decide) hS).mono fun e w' ⟨a, cap, he, hd, _, hb⟩ => by
    rw [bl2_eq] at hd he
    rw [bl2_ok] at he
    exact ⟨_, he, ⟨a, cap, rfl, hd⟩, hb⟩
theorem check_5 (w : World) : Calls Tryd.prog 43 #[.agg #[.int .i64 5, .int .i64 1000, .int .i64 120000, .int .i64 30, .int .i64 1, .int .i64 3, .int .i64 0, .int .i64 6, .int .i64 0, .int .i64 0, .string { data := #[104, 111, 109, 101] }, .string { data := #[69, 85, 82] }], .agg #[.string { data := #[104, 111, 109, 101] }, .slice none 0 0, .slice none 0 0]] w fun e w' => e = .returned (.int .i64 1) ∧ Below w.heap.size w w' :=
  (skchk_any (tm0 5) cl0 none none 0 0 w ⟨⟨by decide, fun h => absurd h (by decide)⟩, ⟨by decide, fun h => absurd h (by decide)⟩, by decide⟩ (by decide)).mono fun e w' ⟨he, hb⟩ => by
    rw [sk5] at he
    exact ⟨he, hb⟩
theorem total_1 (a : Option Addr) (cap : Nat) (w : World) (h : DuesIn w a l10) : Calls Tryd.prog 52 #[.slice a 3 cap] w fun e w' => e = .returned (.tuple #[.int .i64 1000, .int .i64 20]) ∧ Below w.heap.size w w' :=
  (stotal_any a cap l10 w h).mono fun e w' ⟨he, hb⟩ => by
    rw [tot10.1, tot10.2] at he
    exact ⟨he, hb⟩
def UV (v : Value) (_ : World) : Prop := ∃ a cap, v = .slice a 2 cap
theorem until_1 (a : Option Addr) (cap : Nat) (w : World) (h : DuesIn w a l10) : Calls Tryd.prog 78 #[.slice a 3 cap, .int .i64 90] w fun e w' => ∃ v, e = .returned v ∧ UV v w' ∧ Below w.heap.size w w' :=
  (suntil_any a cap l10 90 w h (by decide)).mono fun e w' ⟨b, c, he, _, hb⟩ => by
    rw [un10] at he
    exact ⟨_, he, ⟨b, c, rfl⟩, hb⟩
end Go.Proofs.YtfiplppdmedhkaaDoor.Kl
