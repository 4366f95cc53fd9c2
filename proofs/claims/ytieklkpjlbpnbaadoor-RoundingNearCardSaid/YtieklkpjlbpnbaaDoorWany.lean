/-
  The contracts of both Divs at every argument, and a wide argument as a number.
-/
import Derived.Test.YtieklkpjlbpnbaaDoorWide9
import Derived.Test.YtieklkpjlbpnbaaDoorR11
namespace Go.Proofs.YtieklkpjlbpnbaaDoor.Wt
open Go.RowKit
open Go.Proofs.YtieklkpjlbpnbaaDoor
open Go.Proofs.YtieklkpjlbpnbaaDoor.Wm

/-- What Div returns. -/
def dq (x n : Int) : Int := if n < 1 then 0 else x / n
def dr (x n : Int) : Int := if n < 1 then 0 else x % n
def de (n : Int) : Int := if n < 1 then 1 else 0
theorem dq_bd {x n : Int} (hx : I128 x) : I128 (dq x n) := by
  unfold dq
  split
  · unfold I128; omega
  · exact quo_bd hx (by omega)
theorem div_any (x n : Int) (w : World) (hx : I128 x) (hn : I64 n) : Calls Tryd.prog 34 #[.agg #[.int .i64 (hi x), .int .u64 (lo x)], .int .i64 n] w fun e w' => e = .returned (.tuple #[.agg #[.int .i64 (hi (dq x n)), .int .u64 (lo (dq x n))], .int .i64 (dr x n), .int .i64 (de n)]) ∧ Below w.heap.size w w' := by
  by_cases h : n < 1
  · rw [show dq x n = 0 from if_pos h, show dr x n = 0 from if_pos h, show de n = 1 from if_pos h, hi_0, lo_0]
    exact div_zero x n w h
  · rw [show dq x n = x / n from if_neg h, show dr x n = x % n from if_neg h, show de n = 0 from if_neg h]
    by_cases h0 : 0 ≤ x
    · exact div_pos x n w hx hn (by omega) h0
    · have r := Int.emod_nonneg (-x) (show n ≠ 0 by omega)
      by_cases hr : (-x) % n = 0
      · exact div_neg0 x n w hx hn (by omega) (by omega) hr
      · exact div_neg1 x n w hx hn (by omega) (by omega) (by omega)
theorem rdiv_any (x n : Int) (w : World) (hx : I128 x) (hn : I64 n) : Calls Tryd.prog 31 #[.agg #[.int .i64 (hi x), .int .u64 (lo x)], .int .i64 n] w fun e w' => e = .returned (.tuple #[.agg #[.int .i64 (hi (dq x n)), .int .u64 (lo (dq x n))], .int .i64 (dr x n), .int .i64 (de n)]) ∧ Below w.heap.size w w' := by
  by_cases h : n < 1
  · rw [show dq x n = 0 from if_pos h, show dr x n = 0 from if_pos h, show de n = 1 from if_pos h, hi_0, lo_0]
    exact rdiv_zero x n w h
  · rw [show dq x n = x / n from if_neg h, show dr x n = x % n from if_neg h, show de n = 0 from if_neg h]
    by_cases h0 : 0 ≤ x
    · exact rdiv_pos x n w hx hn (by omega) h0
    · have r := Int.emod_nonneg (-x) (show n ≠ 0 by omega)
      by_cases hr : (-x) % n = 0
      · exact rdiv_neg0 x n w hx hn (by omega) (by omega) hr
      · exact rdiv_neg1 x n w hx hn (by omega) (by omega) (by omega)
theorem wf_i64 {a : Int} (h : (Lit.int .i64 a).wf = true) : I64 a := by
  simp [Lit.wf, IntKind.min, IntKind.max, IntKind.signed, IntKind.bits] at h
  unfold I64; omega
theorem wf_u64 {a : Int} (h : (Lit.int .u64 a).wf = true) : U64 a := by
  simp [Lit.wf, IntKind.min, IntKind.max, IntKind.signed, IntKind.bits] at h
  unfold U64; omega
theorem as_wide {a b : Int} (ha : (Lit.int .i64 a).wf = true) (hb : (Lit.int .u64 b).wf = true) : ∃ x, I128 x ∧ a = hi x ∧ b = lo x :=
  ⟨val a b, val_bd (wf_i64 ha) (wf_u64 hb), (hi_val (wf_u64 hb)).symm, (lo_val (wf_u64 hb)).symm⟩
end Go.Proofs.YtieklkpjlbpnbaaDoor.Wt
