/-
  The contract of the reference's Divide.
-/
import Derived.Test.YtfiplppdmedhkaaGreatDoorRd2
namespace Go.Proofs.YtfiplppdmedhkaaGreatDoor.Rd
open Go.RowKit
open Go.Proofs.YtfiplppdmedhkaaGreatDoor
open Go.Proofs.YtfiplppdmedhkaaGreatDoor.Wm Go.Proofs.YtfiplppdmedhkaaGreatDoor.Wt

end Go.Proofs.YtfiplppdmedhkaaGreatDoor.Rd
