/-
 The contracts of the functions of package date, and of the reference's: what each call returns, for every argument that the contract names.
 The contracts of the functions of package date, and of the reference's, continued: lengths, Civil, Day.
 The contracts of Civil and Day, the program's and the reference's.
 The contracts of the reference's Civil, and of Day, the program's and the reference's.
-/
import Derived.Test.YtaanicginfjgdaaGreatDoorRows
import Derived.Test.YtaanicginfjgdaaGreatDoorCal
import Derived.WalkKit
import Derived.WalkSpells
import Derived.WalkLawsBesides
import Derived.Lib.Hide
namespace Go.Proofs.YtaanicginfjgdaaGreatDoor.Dt
open Go.RowKit
open Go.Proofs.YtaanicginfjgdaaGreatDoor.Cal

theorem ret_bool {a b : Bool} (h : a = b) : Ending.returned (.bool a) = .returned (.bool b) := by rw [h]

/-! ### Valid -/
theorem valid_yes (d : Int) (w : World) (h0 : 0 ≤ d) (h1 : d ≤ 73048) : Calls Tryz.prog 65 #[.int .i64 d] w fun e w' => e = .returned (.bool true) ∧ w = w' := by
 go_enter Tryz.func65, Tryz.ntmps65
 go_wp2
 go_ret
 exact ⟨rfl, rfl⟩
theorem valid_no (d : Int) (w : World) (h : d < 0 ∨ 73048 < d) : Calls Tryz.prog 65 #[.int .i64 d] w fun e w' => e = .returned (.bool false) ∧ w = w' := by
 rcases h with h | h
 ·go_enter Tryz.func65, Tryz.ntmps65
  go_wp2
  go_ret
  exact ⟨rfl, rfl⟩
 ·go_enter Tryz.func65, Tryz.ntmps65
  go_wp2
  go_ret
  exact ⟨ret_bool (by simp; omega), rfl⟩
theorem rvalid_yes (d : Int) (w : World) (h0 : 0 ≤ d) (h1 : d ≤ 73048) : Calls Tryz.prog 57 #[.int .i64 d] w fun e w' => e = .returned (.bool true) ∧ w = w' := by
 go_enter Tryz.func57, Tryz.ntmps57
 go_wp2
 go_ret
 exact ⟨rfl, rfl⟩
theorem rvalid_no (d : Int) (w : World) (h : d < 0 ∨ 73048 < d) : Calls Tryz.prog 57 #[.int .i64 d] w fun e w' => e = .returned (.bool false) ∧ w = w' := by
 rcases h with h | h
 ·go_enter Tryz.func57, Tryz.ntmps57
  go_wp2
  go_ret
  exact ⟨rfl, rfl⟩
 ·go_enter Tryz.func57, Tryz.ntmps57
  go_wp2
  go_ret
  exact ⟨ret_bool (by simp; omega), rfl⟩

/-! ### Leap -/
end Go.Proofs.YtaanicginfjgdaaGreatDoor.Dt

namespace Go.Proofs.YtaanicginfjgdaaGreatDoor.Dt
open Go.RowKit
open Go.Proofs.YtaanicginfjgdaaGreatDoor.Cal

def rlen (y m : Int) : Int := if 1 ≤ m ∧ m ≤ 12 then mlen y m else 0
end Go.Proofs.YtaanicginfjgdaaGreatDoor.Dt

namespace Go.Proofs.YtaanicginfjgdaaGreatDoor.Dt
open Go.RowKit
open Go.Proofs.YtaanicginfjgdaaGreatDoor.Cal

end Go.Proofs.YtaanicginfjgdaaGreatDoor.Dt

namespace Go.Proofs.YtaanicginfjgdaaGreatDoor.Dt
open Go.RowKit
open Go.Proofs.YtaanicginfjgdaaGreatDoor.Cal

def dateOk (y m k : Int) : Prop := 2000 ≤ y ∧ y ≤ 2199 ∧ 1 ≤ m ∧ m ≤ 12 ∧ 1 ≤ k ∧ k ≤ mlen y m

end Go.Proofs.YtaanicginfjgdaaGreatDoor.Dt
