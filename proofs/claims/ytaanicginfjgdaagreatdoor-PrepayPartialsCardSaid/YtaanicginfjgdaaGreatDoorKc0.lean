/-
 Calendars in memory.
-/
import Derived.Test.YtaanicginfjgdaaGreatDoorKm
import Derived.Test.YtaanicginfjgdaaGreatDoorBa
namespace Go.Proofs.YtaanicginfjgdaaGreatDoor.Kl
open Go Go.RowKit
open Go.Proofs.YtaanicginfjgdaaGreatDoor

theorem ints_later {W w1 : World} {a : Option Addr} {ws : List Int} (hb : Below W.heap.size W w1) (h : Bk.IntsIn W a ws) : Bk.IntsIn w1 a ws :=
 ⟨h.1, fun h0 => let ⟨b, off, e, hc⟩ := h.2 h0; ⟨b, off, e, fun j hj => cell_later hb (hc j hj)⟩⟩
structure CalIn (W : World) (c : Cl) (wa ha : Option Addr) : Prop where
 wk : Bk.IntsIn W wa c.wk
 hol : Bk.IntsIn W ha c.hol
 nm : c.nm.size ≤ maxLen
theorem CalIn.later {W w1 : World} {c : Cl} {wa ha : Option Addr} (hb : Below W.heap.size W w1) (h : CalIn W c wa ha) : CalIn w1 c wa ha := ⟨ints_later hb h.wk, ints_later hb h.hol, h.nm⟩
end Go.Proofs.YtaanicginfjgdaaGreatDoor.Kl
