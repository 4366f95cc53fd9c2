/-
  A slice of loans among the arguments.
-/
import Derived.Test.YtjicnlgndkcahaaDoorOl
import Derived.Test.YtjicnlgndkcahaaDoorPw1
namespace Go.Proofs.YtjicnlgndkcahaaDoor.Ol
open Go Go.ChangeShapes Go.WideShapes Go.ChangeAt Go.RowKit
open Go.Proofs.YtjicnlgndkcahaaDoor
open Go.Proofs.YtjicnlgndkcahaaDoor.Ln
set_option maxRecDepth 100000

theorem open_loans_arg {H : Type} {ec : TypeId × Value → H} {W : World} {r : Reach} {b0 : Nat} {base : Nat} {sp : Nat → Bool} {v : Value} {d : DataW H} {p : List MemPlace}
    (hv : Value.okWide Tryd.prog W r b0 40 v) (h : DataW.Trod ec Tryd.prog W base sp true 40 v d p) :
    ∃ (a : Option Addr) (cap : Nat) (xs : List LoS), v = .slice a xs.length cap ∧ LosIn0 W a xs ∧ ∀ x ∈ xs, Dok x.l.ds := by
  obtain ⟨a0, len, cap, rfl⟩ := okWide_slice Tryd.underlying40 hv
  obtain ⟨fuel, hf⟩ := h
  obtain ⟨a, cap', xs, e, _, hr, hq⟩ := open_row (enc := lenc) (Q := fun x => LoIn' W x.l x.da x.ca ∧ Dok x.l.ds) lenc_len (by decide) cL
    (fun _ _ _ h => by obtain ⟨l, da, ca, dk, ck, e, h1, h2, h3⟩ := loan_cells h; exact ⟨⟨l, da, ca, dk, ck⟩, e, ⟨h1, h3⟩, h2⟩) Tryd.underlying40 hf
  simp [Value.cells] at e
  obtain ⟨rfl, rfl, rfl⟩ := e
  exact ⟨a0, cap, xs, rfl, ⟨hr, fun x hx => (hq x hx).1⟩, fun x hx => (hq x hx).2⟩
end Go.Proofs.YtjicnlgndkcahaaDoor.Ol
