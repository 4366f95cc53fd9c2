/-
 A loan that is disbursed, plain: it is accepted.
-/
import Derived.Test.YtaanicginfjgdaaGreatDoorSma
import Derived.Test.YtaanicginfjgdaaGreatDoorZl
namespace Go.Proofs.YtaanicginfjgdaaGreatDoor.Ln
open Go Go.RowKit
open Go.Proofs.YtaanicginfjgdaaGreatDoor
open Go.Proofs.YtaanicginfjgdaaGreatDoor.Kl (Cl blE blV bl_facts bl_len bl_each bl_ord bl_P bl_I)

noncomputable def disE (id ac : Int) (t : Tm) (c : Cl) : Int := if id < 1 ∨ ac < 1000 then 1 else blE t c
noncomputable def disO (id ac : Int) (t : Tm) (c : Cl) : Lo := ⟨id, ac, 1, 0, 0, 0, 0, t.stt, 0, 0, 0, t, blV t c, []⟩
noncomputable def disL (id ac : Int) (t : Tm) (c : Cl) : Lo := if disE id ac t c = 0 then disO id ac t c else zLo
end Go.Proofs.YtaanicginfjgdaaGreatDoor.Ln
