/-
 An empty loan; a loan in memory; a struct and a number as results.
-/
import Derived.Test.YtaanicginfjgdaaGreatDoorLc
import Derived.Deep.MidRow
namespace Go.Proofs.YtaanicginfjgdaaGreatDoor.Ln
open Go Go.RowKit
open Go.Proofs.YtaanicginfjgdaaGreatDoor
set_option maxRecDepth 100000

def zTm : Tm := ⟨0, 0, 0, 0, 0, 0, 0, 0, 0, 0, .empty, .empty⟩
def zLo : Lo := ⟨0, 0, 0, 0, 0, 0, 0, 0, 0, 0, 0, zTm, [], []⟩
theorem RowIn.none {α : Type} {enc : α → List Value} {W : World} {a : Option Addr} : RowIn enc W a [] := fun h => absurd h (Nat.not_lt_zero _)
structure LoIn (W : World) (l : Lo) (da ca : Option Addr) : Prop where
 d : RowIn denc W da l.ds
 c : RowIn cenc W ca l.cs
theorem LoIn.later {W W' : World} {l : Lo} {da ca : Option Addr} (h : LoIn W l da ca) (hb : Below W.heap.size W W') : LoIn W' l da ca := ⟨h.d.later hb, h.c.later hb⟩
theorem results2_cell {P : Program} {fn : Func} {p u : Tmp} {ty : TypeId} (h : fn.results = #[.cell p ty, .tmp u]) (tmps : Array Value) (w : World) (g : Nat) (t : TypeId) (cs : Array Value) (fr : Nat × Nat) (d : TypeDesc)
  (hp : tmps.getD p undef = .pointer (some ⟨g, 0, none⟩)) (hg : w.heap[g]? = some (.cells cs t fr))
  (hu : P.underlying ty = some d) (hd : (match d with | .struct _ | .array _ _ => true | _ => false) = true) (hi : (P.info? ty).map (·.size) = some cs.size) :
  (results fn tmps).run P w = .ok (.tuple #[.agg cs, tmps.getD u undef]) w := by
 have hp' : tmps[p]?.getD undef = .pointer (some ⟨g, 0, none⟩) := by simpa using hp
 simp [results, h, hp', asAddr, run_loadVar_row w g t ty cs fr d hg hu hd hi]
theorem dues_setRow {W : World} {da : Option Addr} {ds : List Du} {g : Nat} {cs : Array Value} (h : DuesIn W da ds) (hne : ∀ ad, da = some ad → ad.block ≠ g) : DuesIn (W.setRow g cs) da ds :=
 dues_of_row h.1 (row_row h.row hne)
end Go.Proofs.YtaanicginfjgdaaGreatDoor.Ln
