/-
  The contracts of daycount.Sum and of the reference's Sum: the same number, for every argument.
-/
import Derived.Test.YtjmgahdjojdanaaDoorDcs
namespace Go.Proofs.YtjmgahdjojdanaaDoor.Dt
open Go.RowKit
open Go.Proofs.YtjmgahdjojdanaaDoor.Cal

/-- The sum of the weights up to a day, of any basis. -/
noncomputable def cwx (b d : Int) : Int := if 1 ≤ b ∧ b ≤ 4 then cw b d else 0
theorem cwx_bd (b d : Int) (h0 : 0 ≤ d) (h1 : d ≤ 73048) : 0 ≤ cwx b d ∧ cwx b d ≤ 4000000000 := by
  unfold cwx; split
  · exact cw_bd b d h0 h1
  · omega
theorem cwx_step (b d : Int) (h0 : 0 ≤ d) (h1 : d + 1 ≤ 73048) : cwx b (d + 1) = cwx b d + wei b d := by
  rw [wei_in h0 (by omega)]
  unfold cwx
  by_cases h : 1 ≤ b ∧ b ≤ 4
  · simp only [if_pos h]; rw [wgt_cw b d h h0 h1]; omega
  · simp only [if_neg h]
    have c1 : ¬ b = 1 := by omega
    have c2 : ¬ b = 2 := by omega
    have c3 : ¬ b = 3 := by omega
    have c4 : ¬ b = 4 := by omega
    simp [wgt, c1, c2, c3, c4]
theorem sumv_cwx (b f t : Int) (h0 : 0 ≤ f) (hft : f ≤ t) (h1 : t ≤ 73048) : sumv b f t = cwx b t - cwx b f := by
  unfold cwx
  by_cases h : 1 ≤ b ∧ b ≤ 4
  · rw [sumv_in ⟨h, h0, hft, h1⟩, if_pos h, if_pos h]
  · rw [sumv_out (by omega), if_neg h, if_neg h]; rfl

end Go.Proofs.YtjmgahdjojdanaaDoor.Dt
