/-
  Three ints among the arguments.
-/
import Derived.Test.YtjmgahdjojdanaaDoorOl
namespace Go.Proofs.YtjmgahdjojdanaaDoor.Ol
open Go Go.ChangeShapes Go.WideShapes Go.ChangeAt Go.RowKit
open Go.Proofs.YtjmgahdjojdanaaDoor
set_option linter.unusedVariables false
theorem open_three_arg {H : Type} {ec : TypeId × Value → H} {P : Program} {W : World} {r : Reach} {b0 base : Nat} {sp : Nat → Bool} {t e : TypeId} {v : Value} {d : DataW H} {p : List MemPlace} (ht : P.underlying t = some (.array 3 e)) (he : P.underlying e = some (.int .i64)) (hC : P.cellsOf t = 3) (hc : P.cellsOf e = 1)
    (hv : Value.okWide P W r b0 t v) (h : DataW.Trod ec P W base sp true t v d p) :
    ∃ a b c : Int, v = .agg #[.int .i64 a, .int .i64 b, .int .i64 c] ∧ (Lit.int .i64 a).wf = true ∧ (Lit.int .i64 b).wf = true ∧ (Lit.int .i64 c).wf = true := by
  simp only [Value.okWide, ht] at hv
  obtain ⟨cs, rfl, _⟩ := hv
  obtain ⟨fuel, hf⟩ := h
  obtain ⟨xs, m, _, _, hl, hxl, hg⟩ := DataW.trod_array ht hf
  rw [hC] at hl
  obtain ⟨cs⟩ := cs
  match cs, hl, xs, hxl with
  | [c0, c1, c2], _, [x0, x1, x2], _ =>
    have h0 := hg 0 (by decide)
    have h1 := hg 1 (by decide)
    have h2 := hg 2 (by decide)
    simp [hc, Value.cells] at h0 h1 h2
    obtain ⟨a, ea, _, wa⟩ := DataW.trod_int he h0
    obtain ⟨b, eb, _, wb⟩ := DataW.trod_int he h1
    obtain ⟨c, ec, _, wc⟩ := DataW.trod_int he h2
    obtain rfl : c0 = _ := by simpa using ea
    obtain rfl : c1 = _ := by simpa using eb
    obtain rfl : c2 = _ := by simpa using ec
    exact ⟨a, b, c, rfl, wa, wb, wc⟩
end Go.Proofs.YtjmgahdjojdanaaDoor.Ol
