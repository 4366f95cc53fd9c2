/-
  Parts of the proof: Dta.
-/
import Derived.Test.YtjhpiclnpmdjnaaGreatDoorRows
import Derived.Test.YtjhpiclnpmdjnaaGreatDoorQ09
import Derived.WalkKit
import Derived.WalkSpells
import Derived.WalkLawsBesides
import Derived.Lib.Hide
namespace Go.Proofs.YtjhpiclnpmdjnaaGreatDoor.Dt
open Go.RowKit
open Go.Proofs.YtjhpiclnpmdjnaaGreatDoor.Cal

theorem ret_bool {a b : Bool} (h : a = b) : Ending.returned (.bool a) = .returned (.bool b) := by rw [h]

/-! ### Valid -/
theorem rvalid_yes (d : Int) (w : World) (h0 : 0 ≤ d) (h1 : d ≤ 73048) : Calls Tryz.prog 37 #[.int .i64 d] w fun e w' => e = .returned (.bool true) ∧ w = w' := by
 go_enter Tryz.func37, Tryz.ntmps37
 go_wp2
 go_ret
 exact ⟨rfl, rfl⟩
theorem rvalid_no (d : Int) (w : World) (h : d < 0 ∨ 73048 < d) : Calls Tryz.prog 37 #[.int .i64 d] w fun e w' => e = .returned (.bool false) ∧ w = w' := by
 rcases h with h | h
 ·go_enter Tryz.func37, Tryz.ntmps37
  go_wp2
  go_ret
  exact ⟨rfl, rfl⟩
 ·go_enter Tryz.func37, Tryz.ntmps37
  go_wp2
  go_ret
  exact ⟨ret_bool (by simp; omega), rfl⟩

/-! ### Leap -/
/-! ### begin -/
end Go.Proofs.YtjhpiclnpmdjnaaGreatDoor.Dt

namespace Go.Proofs.YtjhpiclnpmdjnaaGreatDoor.Dt
open Go.RowKit
open Go.Proofs.YtjhpiclnpmdjnaaGreatDoor.Cal

def rlen (y m : Int) : Int := if 1 ≤ m ∧ m ≤ 12 then mlen y m else 0
end Go.Proofs.YtjhpiclnpmdjnaaGreatDoor.Dt

namespace Go.Proofs.YtjhpiclnpmdjnaaGreatDoor.Dt
open Go.RowKit
open Go.Proofs.YtjhpiclnpmdjnaaGreatDoor.Cal

end Go.Proofs.YtjhpiclnpmdjnaaGreatDoor.Dt

namespace Go.Proofs.YtjhpiclnpmdjnaaGreatDoor.Dt
open Go.RowKit
open Go.Proofs.YtjhpiclnpmdjnaaGreatDoor.Cal

def dateOk (y m k : Int) : Prop := 2000 ≤ y ∧ y ≤ 2199 ∧ 1 ≤ m ∧ m ≤ 12 ∧ 1 ≤ k ∧ k ≤ mlen y m

end Go.Proofs.YtjhpiclnpmdjnaaGreatDoor.Dt
