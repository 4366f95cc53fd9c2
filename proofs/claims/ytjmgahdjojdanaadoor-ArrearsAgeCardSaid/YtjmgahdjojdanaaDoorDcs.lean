/-
  The contracts of daycount's sums of weights, and of the reference's.
-/
import Derived.Test.YtjmgahdjojdanaaDoorDcw
namespace Go.Proofs.YtjmgahdjojdanaaDoor.Dt
open Go.RowKit
open Go.Proofs.YtjmgahdjojdanaaDoor.Cal

theorem weight_at (b d v : Int) (w : World) (h : wei b d = v) : Calls Tryd.prog 32 #[.int .i64 b, .int .i64 d] w fun e w' => e = .returned (.int .i64 v) ∧ Below w.heap.size w w' := by
  subst h; exact weight_any b d w

/-- What one round of 'actual' adds. -/
theorem act_step (x t : Int) (h0 : 0 ≤ x) (ht : t ≤ 73048) (hx : x < t) :
    ∃ v : Int, (v = 4380 ∨ v = 4392) ∧ wei 3 x = v ∧
      ((dateOk (cy x + 1) 1 1 ∧ begin_ (cy x + 1) ≤ t ∧ x < begin_ (cy x + 1) ∧ act (begin_ (cy x + 1)) = act x + (begin_ (cy x + 1) - x) * v) ∨
       (dateOk (cy x + 1) 1 1 ∧ t < begin_ (cy x + 1) ∧ begin_ (cy x + 1) ≤ 73049 ∧ act t = act x + (t - x) * v) ∨
       (¬ dateOk (cy x + 1) 1 1 ∧ act t = act x + (t - x) * v)) := by
  have h := civ_spec x h0 (by omega)
  have hy := h.year
  have hv : wei 3 x = wt (cy x) := by rw [wei_in h0 (by omega)]; simp [wgt]
  refine ⟨wt (cy x), ?_, hv, ?_⟩
  · rcases wt_01 (cy x) with ⟨_, g⟩ | ⟨_, g⟩
    · exact .inl g
    · exact .inr g
  · have hb := begin_bd (cy x + 1) (by have := h.y0; omega) (by have := h.y1; omega)
    have ml := mlen_bd (cy x + 1) 1 (by omega) (by omega)
    by_cases c : cy x + 1 ≤ 2199
    · have hd : dateOk (cy x + 1) 1 1 := ⟨by have := h.y0; omega, c, by omega, by omega, by omega, by omega⟩
      by_cases c2 : begin_ (cy x + 1) ≤ t
      · refine .inl ⟨hd, c2, hy.2, ?_⟩
        have := (act_to_next x h0 (by omega) (by omega)).1; omega
      · refine .inr (.inl ⟨hd, by omega, hb.2, ?_⟩)
        have := act_within x t h0 ht (by omega) (by omega); omega
    · refine .inr (.inr ⟨fun hd => c hd.2.1, ?_⟩)
      have e : cy x = 2199 := by have := h.y1; omega
      have hlt : t < begin_ (cy x + 1) := by rw [e]; have := begin_200; simp only [show (2199 : Int) + 1 = 2200 from rfl]; omega
      have := act_within x t h0 ht (by omega) hlt; omega

end Go.Proofs.YtjmgahdjojdanaaDoor.Dt
