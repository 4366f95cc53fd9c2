/-
 Schedules, plain: the examples that every statement of this chapter requires.
-/
import Derived.Test.YtaanicginfjgdaaGreatDoorSma
import Derived.Test.YtaanicginfjgdaaGreatDoorAnm
namespace Go.Proofs.YtaanicginfjgdaaGreatDoor.Kl
open Go Go.RowKit
open Go.Proofs.YtaanicginfjgdaaGreatDoor
open Go.Proofs.YtaanicginfjgdaaGreatDoor.Cal
open Go.Proofs.YtaanicginfjgdaaGreatDoor.Ln (Tm Du)
open Go.Proofs.YtaanicginfjgdaaGreatDoor.An (intr Least enough enough_mono)

set_option maxRecDepth 100000
def hmB : ByteArray := { data := #[104, 111, 109, 101] }
def euB : ByteArray := { data := #[69, 85, 82] }
def cl0 : Cl := ⟨hmB, [], []⟩
def tm0 (m : Int) : Tm := ⟨m, 1000, 120000, 30, 1, 3, 0, 6, 0, 0, hmB, euB⟩
def l10 : List Du := [⟨1, 59, 330, 10⟩, ⟨2, 90, 333, 7⟩, ⟨3, 120, 337, 3⟩]
def l20 : List Du := [⟨1, 59, 334, 10⟩, ⟨2, 90, 333, 7⟩, ⟨3, 120, 333, 3⟩]
end Go.Proofs.YtaanicginfjgdaaGreatDoor.Kl
