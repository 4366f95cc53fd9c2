/-
  Schedules, plain: the examples that every statement of this chapter requires.
-/
import Derived.Test.YtfiplppdmedhkaaGreatDoorSma
import Derived.Test.YtfiplppdmedhkaaGreatDoorAnm
namespace Go.Proofs.YtfiplppdmedhkaaGreatDoor.Kl
open Go Go.RowKit
open Go.Proofs.YtfiplppdmedhkaaGreatDoor
open Go.Proofs.YtfiplppdmedhkaaGreatDoor.Cal
open Go.Proofs.YtfiplppdmedhkaaGreatDoor.Ln (Tm Du)
open Go.Proofs.YtfiplppdmedhkaaGreatDoor.An (intr Least enough enough_mono)

set_option maxRecDepth 100000
def hmB : ByteArray := { data := #[104, 111, 109, 101] }
def euB : ByteArray := { data := #[69, 85, 82] }
/-- The example's calendar and terms. -/
def cl0 : Cl := ⟨hmB, [], []⟩
def tm0 (m : Int) : Tm := ⟨m, 1000, 120000, 30, 1, 3, 0, 6, 0, 0, hmB, euB⟩
theorem open0 (d : Int) : openB cl0 d = dOk d := by
  show (dOk d && !hasB [] _ && !hasB [] d) = dOk d
  simp [hasB, upto]
theorem nxt0 {d : Int} (h0 : 0 ≤ d) (h1 : d ≤ 73048) : nxt cl0 d = some d := by
  unfold nxt
  obtain ⟨n, hn⟩ : ∃ n, (73049 - d).toNat = n + 1 := ⟨(73049 - d).toNat - 1, by omega⟩
  rw [hn]
  unfold up
  rw [open0, dOk_yes h0 h1]
  rfl
theorem adj0 {d : Int} (h0 : 0 ≤ d) (h1 : d ≤ 73048) : adj cl0 d = some d := by
  unfold adj
  rw [nxt0 h0 h1]
  exact if_pos (mend_bd h0 h1).1
def l10 : List Du := [⟨1, 59, 330, 10⟩, ⟨2, 90, 333, 7⟩, ⟨3, 120, 337, 3⟩]
def l20 : List Du := [⟨1, 59, 334, 10⟩, ⟨2, 90, 333, 7⟩, ⟨3, 120, 333, 3⟩]
end Go.Proofs.YtfiplppdmedhkaaGreatDoor.Kl
