/-
  Standing orders and calls among the arguments.
-/
import Derived.Test.YtdlmoijeflchgaaOl4
import Derived.Test.YtdlmoijeflchgaaSo1
namespace Go.Proofs.Ytdlmoijeflchgaa.Ol
open Go Go.ChangeShapes Go.WideShapes Go.ChangeAt Go.RowKit
open Go.Proofs.Ytdlmoijeflchgaa
open Go.Proofs.Ytdlmoijeflchgaa.Ln (RowIn)
open Go.Proofs.Ytdlmoijeflchgaa.So (Od oenc oenc_len)
set_option maxRecDepth 100000
set_option linter.unusedVariables false

section
variable {H : Type} {ec : TypeId × Value → H} {w : World} {base : Nat} {spare : Nat → Bool} {held : Bool} {m : Nat} {x : DataW H × List MemPlace}
theorem cO : Try.prog.cellsOf 23 = 10 := by kernel_rfl
theorem ord_cells {cs : List Value} (h : DataW.trod ec Try.prog w base spare held m 23 cs = some x) : ∃ o : Od, cs = oenc o ∧ o.tx.size ≤ maxLen := by
  obtain ⟨xs, n, _, _, hl, hxl, hf⟩ := DataW.trod_struct Try.underlying23 h
  rw [cO] at hl
  match cs, hl, xs, hxl with
  | [c0, c1, c2, c3, c4, c5, c6, c7, c8, c9], _, [x0, x1, x2, x3, x4, x5, x6, x7, x8, x9], _ =>
    clear h hl hxl
    have h0 := hf 0 _ rfl
    simp [cI] at h0
    have h1 := hf 1 _ rfl
    simp [cI] at h1
    have h2 := hf 2 _ rfl
    simp [cI] at h2
    have h3 := hf 3 _ rfl
    simp [cI] at h3
    have h4 := hf 4 _ rfl
    simp [cI] at h4
    have h5 := hf 5 _ rfl
    simp [cI] at h5
    have h6 := hf 6 _ rfl
    simp [cI] at h6
    have h7 := hf 7 _ rfl
    simp [cI] at h7
    have h8 := hf 8 _ rfl
    simp [cI] at h8
    have h9 := hf 9 _ rfl
    simp [cS] at h9
    clear hf
    obtain ⟨a0, rfl, w0⟩ := fI h0
    obtain ⟨a1, rfl, w1⟩ := fI h1
    obtain ⟨a2, rfl, w2⟩ := fI h2
    obtain ⟨a3, rfl, w3⟩ := fI h3
    obtain ⟨a4, rfl, w4⟩ := fI h4
    obtain ⟨a5, rfl, w5⟩ := fI h5
    obtain ⟨a6, rfl, w6⟩ := fI h6
    obtain ⟨a7, rfl, w7⟩ := fI h7
    obtain ⟨a8, rfl, w8⟩ := fI h8
    obtain ⟨a9, rfl, w9⟩ := fS h9
    exact ⟨⟨a0, a1, a2, a3, a4, a5, a6, a7, a8, a9⟩, rfl, w9⟩
end
/-- An order among the arguments. -/
theorem open_ord_arg {H : Type} {ec : TypeId × Value → H} {W : World} {r : Reach} {b0 base : Nat} {sp : Nat → Bool} {v : Value} {d : DataW H} {p : List MemPlace}
    (hv : Value.okWide Try.prog W r b0 23 v) (h : DataW.Trod ec Try.prog W base sp true 23 v d p) :
    ∃ o : Od, v = .agg #[.int .i64 (o).id, .int .i64 (o).fr, .int .i64 (o).too, .int .i64 (o).am, .int .i64 (o).day, .int .i64 (o).ev, .int .i64 (o).an, .int .i64 (o).un, .int .i64 (o).tr, .string (o).tx] ∧ o.tx.size ≤ maxLen := by
  obtain ⟨cs, rfl, _⟩ := okWide_struct Try.underlying23 hv
  obtain ⟨fuel, hf⟩ := h
  obtain ⟨o, e, h1⟩ := ord_cells hf
  refine ⟨o, ?_, h1⟩
  obtain ⟨cs⟩ := cs
  have e' : cs = _ := e
  rw [e']
  rfl
/-- Orders among the arguments. -/
theorem open_ords_arg {H : Type} {ec : TypeId × Value → H} {W : World} {r : Reach} {b0 base : Nat} {sp : Nat → Bool} {v : Value} {d : DataW H} {p : List MemPlace}
    (hv : Value.okWide Try.prog W r b0 34 v) (h : DataW.Trod ec Try.prog W base sp true 34 v d p) :
    ∃ (a : Option Addr) (cap : Nat) (l : List Od), v = .slice a l.length cap ∧ l.length ≤ maxLen ∧ RowIn oenc W a l ∧ ∀ o ∈ l, o.tx.size ≤ maxLen := by
  obtain ⟨a0, len, cap, rfl⟩ := okWide_slice Try.underlying34 hv
  obtain ⟨fuel, hf⟩ := h
  obtain ⟨p, k, l, e, z, r, q⟩ := open_row oenc_len (by decide) cO (fun _ _ _ h => ord_cells h) Try.underlying34 hf
  simp [Value.cells] at e
  obtain ⟨rfl, rfl, rfl⟩ := e
  exact ⟨_, _, l, rfl, z, r, q⟩
end Go.Proofs.Ytdlmoijeflchgaa.Ol
