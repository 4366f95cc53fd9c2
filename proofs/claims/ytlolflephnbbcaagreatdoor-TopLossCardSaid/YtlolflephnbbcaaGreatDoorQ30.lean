/-
  Parts of the proof: Laid3.
-/
import Derived.Test.YtlolflephnbbcaaGreatDoorQ13
import Derived.Test.YtlolflephnbbcaaGreatDoorQ26
import Derived.Lib.LaidTab
namespace Go.Proofs.YtlolflephnbbcaaGreatDoor.Rd
open Go.ChangeShapes Go.WideShapes Go.ChangeAt Go.WideMaps Go.WideElems Go.RowKit
open Go.Proofs.YtlolflephnbbcaaGreatDoor

theorem gPow : Tryz.prog.globalNamed "internal/strconv.uint64pow10" = some 4 := by kernel_rfl
theorem tPow : (Tryz.prog.globals[4]?).map (·.type) = some 342 := by kernel_rfl
theorem cPow : Tryz.prog.cellsOf 342 = 20 := by kernel_rfl
theorem cU64 : Tryz.prog.cellsOf 78 = 1 := by kernel_rfl
set_option maxRecDepth 100000 in
theorem tab_of_head {W : World} (h : Head W "internal/strconv.uint64pow10" Rows.laid_internal_strconv_uint64pow10) : Bm.Tab W := by
 obtain ⟨g0, t0, cs0, f0, p0, hg0, ht0, hv0, hd0⟩ := h
 obtain rfl := Option.some.inj (gPow.symm.trans hg0)
 obtain rfl := Option.some.inj (tPow.symm.trans ht0)
 have hc := Lib.cells_of_tab (k := .u64) (zs := Lib.pow10Tab) Tryz.underlying342 Tryz.underlying78 cU64 cPow hd0
 show W.var? Tryz.prog "internal/strconv.uint64pow10" = _
 rw [hv0, ← hc]
set_option maxRecDepth 100000 in
theorem laid_of3 {W : World} (h : laidMetH Tryz.prog [("math/bits.deBruijn32tab", Rows.laid_math_bits_deBruijn32tab), ("math/bits.deBruijn64tab", Rows.laid_math_bits_deBruijn64tab), ("corebank/rounding.steps", Rows.laid_corebank_rounding_steps), ("internal/strconv.uint64pow10", Rows.laid_internal_strconv_uint64pow10), ("strconv.ErrRange", Rows.laid_strconv_ErrRange), ("strconv.ErrSyntax", Rows.laid_strconv_ErrSyntax), ("unicode.White_Space", Rows.laid_unicode_White_Space), ("strings.asciiSpace", Rows.laid_strings_asciiSpace), ("corebank/arrears.classes", Rows.laid_corebank_arrears_classes)] W) : Stp W ∧ Ln.Ctb W ∧ Bm.Tab W := by
 rw [MakeChecks.laidMetH_plain _ _ _ (by kernel_rfl)] at h
 obtain ⟨ps, ⟨g0, t0, cs0, f0, p0, q0, hg0, ht0, hv0, hd0, ⟨g1, t1, cs1, f1, p1, q1, hg1, ht1, hv1, hd1, ⟨g2, t2, cs2, f2, p2, q2, hg2, ht2, hv2, hd2, ⟨g3, t3, cs3, f3, p3, q3, hg3, ht3, hv3, hd3, ⟨g4, t4, cs4, f4, p4, q4, hg4, ht4, hv4, hd4, ⟨g5, t5, cs5, f5, p5, q5, hg5, ht5, hv5, hd5, ⟨g6, t6, cs6, f6, p6, q6, hg6, ht6, hv6, hd6, ⟨g7, t7, cs7, f7, p7, q7, hg7, ht7, hv7, hd7, ⟨g8, t8, cs8, f8, p8, q8, hg8, ht8, hv8, hd8, _⟩, _⟩, _⟩, _⟩, _⟩, _⟩, _⟩, _⟩, _⟩, _⟩ := h
 exact ⟨stp_of_head ⟨g2, t2, cs2, f2, p2, hg2, ht2, hv2, hd2⟩, ctb_of_head ⟨g8, t8, cs8, f8, p8, hg8, ht8, hv8, hd8⟩, tab_of_head ⟨g3, t3, cs3, f3, p3, hg3, ht3, hv3, hd3⟩⟩
end Go.Proofs.YtlolflephnbbcaaGreatDoor.Rd
