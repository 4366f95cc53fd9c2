/-
  A single cell of memory that came in (its block is not known whole): what it holds, carried as the facts of whole blocks are. No Go in sight.
-/
import Derived.Test.YtaibocobeibobaaBlk
namespace Go.Proofs.Ytaibocobeibobaa.Bk
open Go Go.RowKit
open Go.Proofs.Ytaibocobeibobaa

/-- This cell holds this value. -/
def Cel (W : World) (a : Addr) (v : Value) : Prop := W.cell? a = some v
section
variable {W w1 : World} {a : Addr} {v : Value}
theorem Cel.mk (h : W.cell? a = some v) : Cel W a v := h
theorem Cel.out (h : Cel W a v) : W.cell? a = some v := h
theorem Cel.later (hb : Below W.heap.size W w1) (h : Cel W a v) : Cel w1 a v := cell_later hb h
theorem Cel.q (h : Cel W a v) : ∀ W', Reg.Cls W W' → W'.cell? a = some v := fun _ hW => hW.cell h
theorem Cel.gall (h : Cel W a v) : ∀ C, Reg.Good W C → (∀ W', In C W' → W'.cell? a = some v) ∧ True := fun _ hC => ⟨fun _ hW => hC.cell hW h, trivial⟩
end
/-- A row of ints that came in: its cells (where it has any). -/
def IntsIn (W : World) (a : Option Addr) (ws : List Int) : Prop := ws.length ≤ 9223372036854775807 ∧ (0 < ws.length → ∃ b off, a = some ⟨b, off, none⟩ ∧ ∀ j, j < ws.length → W.cell? ⟨b, off + j, none⟩ = some (.int .i64 (ws.getD j 0)))
end Go.Proofs.Ytaibocobeibobaa.Bk
