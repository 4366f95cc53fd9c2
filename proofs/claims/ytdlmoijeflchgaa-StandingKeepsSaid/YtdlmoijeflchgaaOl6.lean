/-
  Calls of standing orders among the arguments.
-/
import Derived.Test.YtdlmoijeflchgaaOl5
import Derived.Test.YtdlmoijeflchgaaSo11
namespace Go.Proofs.Ytdlmoijeflchgaa.Ol
open Go Go.ChangeShapes Go.WideShapes Go.ChangeAt Go.RowKit
open Go.Proofs.Ytdlmoijeflchgaa
open Go.Proofs.Ytdlmoijeflchgaa.Ln (RowIn)
open Go.Proofs.Ytdlmoijeflchgaa.So (Od oenc oenc_len Ac aenc aenc_len)
set_option maxRecDepth 100000
set_option linter.unusedVariables false

section
variable {H : Type} {ec : TypeId × Value → H} {w : World} {base : Nat} {spare : Nat → Bool} {held : Bool} {m : Nat} {x : DataW H × List MemPlace}
theorem cA : Try.prog.cellsOf 39 = 14 := by kernel_rfl
theorem cBo : Try.prog.cellsOf 4 = 1 := by kernel_rfl
theorem fB {c : Value} (h : DataW.trod ec Try.prog w base spare held m 4 [c] = some x) : ∃ b, c = .bool b := by
  obtain ⟨b, e, _⟩ := DataW.trod_bool Try.underlying4 h
  exact ⟨b, by simpa using e⟩
theorem act_cells {cs : List Value} (h : DataW.trod ec Try.prog w base spare held m 39 cs = some x) : ∃ a : Ac, cs = aenc a ∧ a.o.tx.size ≤ maxLen := by
  obtain ⟨xs, n, _, _, hl, hxl, hf⟩ := DataW.trod_struct Try.underlying39 h
  rw [cA] at hl
  match cs, hl, xs, hxl with
  | [c0, c1, c2, c3, c4, c5, c6, c7, c8, c9, c10, c11, c12, c13], _, [x0, x1, x2, x3, x4], _ =>
    clear h hl hxl
    have h0 := hf 0 _ rfl
    simp [cI] at h0
    have h1 := hf 1 _ rfl
    simp [cI] at h1
    have h2 := hf 2 _ rfl
    simp [cI] at h2
    have h3 := hf 3 _ rfl
    simp [cBo] at h3
    have h4 := hf 4 _ rfl
    simp [cO] at h4
    clear hf
    obtain ⟨a0, rfl, w0⟩ := fI h0
    obtain ⟨a1, rfl, w1⟩ := fI h1
    obtain ⟨a2, rfl, w2⟩ := fI h2
    obtain ⟨a3, rfl⟩ := fB h3
    obtain ⟨a4, e4, w4⟩ := ord_cells h4
    exact ⟨⟨a0, a1, a2, a3, a4⟩, by rw [e4]; rfl, w4⟩
end
/-- Calls among the arguments. -/
theorem open_acts_arg {H : Type} {ec : TypeId × Value → H} {W : World} {r : Reach} {b0 base : Nat} {sp : Nat → Bool} {v : Value} {d : DataW H} {p : List MemPlace}
    (hv : Value.okWide Try.prog W r b0 35 v) (h : DataW.Trod ec Try.prog W base sp true 35 v d p) :
    ∃ (a : Option Addr) (cap : Nat) (l : List Ac), v = .slice a l.length cap ∧ l.length ≤ maxLen ∧ RowIn aenc W a l ∧ ∀ o ∈ l, o.o.tx.size ≤ maxLen := by
  obtain ⟨a0, len, cap, rfl⟩ := okWide_slice Try.underlying35 hv
  obtain ⟨fuel, hf⟩ := h
  obtain ⟨p, k, l, e, z, r, q⟩ := open_row aenc_len (by decide) cA (fun _ _ _ h => act_cells h) Try.underlying35 hf
  simp [Value.cells] at e
  obtain ⟨rfl, rfl, rfl⟩ := e
  exact ⟨_, _, l, rfl, z, r, q⟩
end Go.Proofs.Ytdlmoijeflchgaa.Ol
