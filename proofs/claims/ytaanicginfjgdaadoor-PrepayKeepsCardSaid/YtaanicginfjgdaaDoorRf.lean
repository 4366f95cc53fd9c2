/-
  The contract of the reference's Of.
  The contracts of the reference's Mul, minus, Less: said of numbers of two words.
  The contracts of the reference's Int, Cmp and Div.
  The contracts of both Divs at every argument, and a wide argument as a number.
  Plain mathematics of rounded quotients; no Go in sight.
-/
import Derived.Test.YtaanicginfjgdaaDoorWb
import Derived.Test.YtaanicginfjgdaaDoorRga
import Derived.Test.YtaanicginfjgdaaDoorRb
import Derived.Test.YtaanicginfjgdaaDoorRc
import Derived.Test.YtaanicginfjgdaaDoorWe
namespace Go.Proofs.YtaanicginfjgdaaDoor.Wt
open Go.RowKit
open Go.Proofs.YtaanicginfjgdaaDoor
open Go.Proofs.YtaanicginfjgdaaDoor.Wm

theorem of_neg {n : Int} (hn : I64 n) (h : n < 0) : IntKind.u64.wrap n = lo n ∧ hi n = -1 := by
  rw [IntKind.wrap_u64]; unfold I64 at hn; unfold lo hi; omega
theorem of_pos {n : Int} (hn : I64 n) (h : 0 ≤ n) : IntKind.u64.wrap n = lo n ∧ hi n = 0 := by
  rw [IntKind.wrap_u64]; unfold I64 at hn; unfold lo hi; omega
end Go.Proofs.YtaanicginfjgdaaDoor.Wt

namespace Go.Proofs.YtaanicginfjgdaaDoor.Wt
open Go.RowKit
open Go.Proofs.YtaanicginfjgdaaDoor
open Go.Proofs.YtaanicginfjgdaaDoor.Wm

end Go.Proofs.YtaanicginfjgdaaDoor.Wt

namespace Go.Proofs.YtaanicginfjgdaaDoor.Wt
open Go.RowKit
open Go.Proofs.YtaanicginfjgdaaDoor
open Go.Proofs.YtaanicginfjgdaaDoor.Wm

theorem iw (n : Int) : IntKind.i64.wrap n = wrap64 n := by rw [IntKind.wrap_i64]; unfold wrap64; omega
end Go.Proofs.YtaanicginfjgdaaDoor.Wt

namespace Go.Proofs.YtaanicginfjgdaaDoor.Wt
open Go.RowKit
open Go.Proofs.YtaanicginfjgdaaDoor
open Go.Proofs.YtaanicginfjgdaaDoor.Wm

/-- What Div returns. -/
def dq (x n : Int) : Int := if n < 1 then 0 else x / n
def dr (x n : Int) : Int := if n < 1 then 0 else x % n
def de (n : Int) : Int := if n < 1 then 1 else 0
theorem dq_bd {x n : Int} (hx : I128 x) : I128 (dq x n) := by
  unfold dq
  split
  · unfold I128; omega
  · exact quo_bd hx (by omega)
theorem div_any (x n : Int) (w : World) (hx : I128 x) (hn : I64 n) : Calls Tryd.prog 72 #[.agg #[.int .i64 (hi x), .int .u64 (lo x)], .int .i64 n] w fun e w' => e = .returned (.tuple #[.agg #[.int .i64 (hi (dq x n)), .int .u64 (lo (dq x n))], .int .i64 (dr x n), .int .i64 (de n)]) ∧ Below w.heap.size w w' := by
  by_cases h : n < 1
  · rw [show dq x n = 0 from if_pos h, show dr x n = 0 from if_pos h, show de n = 1 from if_pos h, hi_0, lo_0]
    exact div_zero x n w h
  · rw [show dq x n = x / n from if_neg h, show dr x n = x % n from if_neg h, show de n = 0 from if_neg h]
    by_cases h0 : 0 ≤ x
    · exact div_pos x n w hx hn (by omega) h0
    · have r := Int.emod_nonneg (-x) (show n ≠ 0 by omega)
      by_cases hr : (-x) % n = 0
      · exact div_neg0 x n w hx hn (by omega) (by omega) hr
      · exact div_neg1 x n w hx hn (by omega) (by omega) (by omega)
theorem wf_i64 {a : Int} (h : (Lit.int .i64 a).wf = true) : I64 a := by
  simp [Lit.wf, IntKind.min, IntKind.max, IntKind.signed, IntKind.bits] at h
  unfold I64; omega
theorem wf_u64 {a : Int} (h : (Lit.int .u64 a).wf = true) : U64 a := by
  simp [Lit.wf, IntKind.min, IntKind.max, IntKind.signed, IntKind.bits] at h
  unfold U64; omega
theorem as_wide {a b : Int} (ha : (Lit.int .i64 a).wf = true) (hb : (Lit.int .u64 b).wf = true) : ∃ x, I128 x ∧ a = hi x ∧ b = lo x :=
  ⟨val a b, val_bd (wf_i64 ha) (wf_u64 hb), (hi_val (wf_u64 hb)).symm, (lo_val (wf_u64 hb)).symm⟩
end Go.Proofs.YtaanicginfjgdaaDoor.Wt

namespace Go.Proofs.YtaanicginfjgdaaDoor.Rd
open Go.Proofs.YtaanicginfjgdaaDoor.Wm
open Go.Proofs.YtaanicginfjgdaaDoor.Wt

/-- Whether the greater one of the two integers next to a quotient is taken. -/
def upB (neg odd : Bool) (r n mode : Int) : Bool := if mode = 1 then neg else if mode = 2 then !neg else if mode = 3 then false else if mode = 4 then true else if r = n - r then (if mode = 5 then !neg else odd) else decide (n - r < r)
/-- What is added to the lower one. -/
def moreI (neg odd : Bool) (r n mode : Int) : Int := if upB neg odd r n mode then 1 else 0
/-- A rounded quotient. -/
def rd (x n mode : Int) : Int := x / n + if 0 < x % n then moreI (decide (x < 0)) (decide (x / n % 2 = 1)) (x % n) n mode else 0
/-- Divisor and mode are accepted. -/
def rok (n mode : Int) : Prop := 1 ≤ n ∧ 1 ≤ mode ∧ mode ≤ 6
instance (n mode : Int) : Decidable (rok n mode) := by unfold rok; exact inferInstance
def rdV (x n mode : Int) : Int := if rok n mode then ifit (rd x n mode) else 0
def rdE (x n mode : Int) : Int := if rok n mode then (if iin (rd x n mode) then 0 else 6) else 1
theorem upB_1 {neg odd : Bool} {r n mode : Int} (hm : 5 ≤ mode) (h : n - r < r) : upB neg odd r n mode = true := by
  unfold upB
  rw [if_neg (by omega), if_neg (by omega), if_neg (by omega), if_neg (by omega), if_neg (by omega), decide_eq_true h]
theorem upB_0 {neg odd : Bool} {r n mode : Int} (hm : 5 ≤ mode) (h : r < n - r) : upB neg odd r n mode = false := by
  unfold upB
  rw [if_neg (by omega), if_neg (by omega), if_neg (by omega), if_neg (by omega), if_neg (by omega), decide_eq_false (by omega)]
theorem upB_5 {neg odd : Bool} {r n : Int} (h : r = n - r) : upB neg odd r n 5 = !neg := by
  unfold upB
  rw [if_neg (by omega), if_neg (by omega), if_neg (by omega), if_neg (by omega), if_pos h, if_pos rfl]
theorem upB_6 {neg odd : Bool} {r n : Int} (h : r = n - r) : upB neg odd r n 6 = odd := by
  unfold upB
  rw [if_neg (by omega), if_neg (by omega), if_neg (by omega), if_neg (by omega), if_pos h, if_neg (by omega)]
theorem upB_ne {neg odd : Bool} {r n mode : Int} (hm : 5 ≤ mode) (h : ¬ r = n - r) : upB neg odd r n mode = decide (n - r < r) := by
  unfold upB
  rw [if_neg (by omega), if_neg (by omega), if_neg (by omega), if_neg (by omega), if_neg h]
theorem moreI_bd (neg odd : Bool) (r n mode : Int) : 0 ≤ moreI neg odd r n mode ∧ moreI neg odd r n mode ≤ 1 := by unfold moreI; split <;> omega
theorem rd_bd {x n mode : Int} (hx : I128 x) (hn : 1 ≤ n) : I128 (rd x n mode) := by
  unfold rd
  split
  · rename_i h
    have h1 := quo_bd hx (show 0 < n by omega)
    have h2 := moreI_bd (decide (x < 0)) (decide (x / n % 2 = 1)) (x % n) n mode
    have h3 := Int.mul_ediv_add_emod x n
    have h4 := Int.emod_lt_of_pos x (show 0 < n by omega)
    unfold I128 at *
    have h5 : x / n ≤ 85070591730234615865843651857942052864 := by
      rcases Classical.em (x / n ≤ 85070591730234615865843651857942052864) with h5 | h5
      · exact h5
      · have : 2 * (x / n) ≤ n * (x / n) := Int.mul_le_mul_of_nonneg_right (by omega) (by omega)
        omega
    omega
  · rw [Int.add_zero]; exact quo_bd hx (by omega)
theorem rd_exact {x n mode : Int} (h : ¬ 0 < x % n) : rd x n mode = x / n := by unfold rd; rw [if_neg h, Int.add_zero]
theorem rd_step {x n mode : Int} (h : 0 < x % n) : rd x n mode = x / n + moreI (decide (x < 0)) (decide (x / n % 2 = 1)) (x % n) n mode := by unfold rd; rw [if_pos h]
theorem quo_sign {x n : Int} (hn : 1 ≤ n) : (x / n < 0) = (x < 0) := by
  apply propext
  constructor
  · intro h
    rcases Classical.em (x < 0) with h' | h'
    · exact h'
    · have := Int.ediv_nonneg (show 0 ≤ x by omega) (show 0 ≤ n by omega); omega
  · exact fun h => Int.ediv_neg_of_neg_of_pos h (by omega)
theorem lo_mod (x : Int) : lo x % 2 = x % 2 := by unfold lo; omega
end Go.Proofs.YtaanicginfjgdaaDoor.Rd
