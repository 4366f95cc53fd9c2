/-
  The contract of the reference's Of.
-/
import Derived.Test.YtieklkpjlbpnbaaDoorWide6
namespace Go.Proofs.YtieklkpjlbpnbaaDoor.Wt
open Go.RowKit
open Go.Proofs.YtieklkpjlbpnbaaDoor
open Go.Proofs.YtieklkpjlbpnbaaDoor.Wm

theorem of_neg {n : Int} (hn : I64 n) (h : n < 0) : IntKind.u64.wrap n = lo n ∧ hi n = -1 := by
  rw [IntKind.wrap_u64]; unfold I64 at hn; unfold lo hi; omega
theorem of_pos {n : Int} (hn : I64 n) (h : 0 ≤ n) : IntKind.u64.wrap n = lo n ∧ hi n = 0 := by
  rw [IntKind.wrap_u64]; unfold I64 at hn; unfold lo hi; omega
theorem rof_any (n : Int) (w : World) (hn : I64 n) : Calls Tryd.prog 21 #[.int .i64 n] w fun e w' => e = .returned (.agg #[.int .i64 (hi n), .int .u64 (lo n)]) ∧ Below w.heap.size w w' := by
  by_cases h : n < 0
  · obtain ⟨h1, h2⟩ := of_neg hn h
    rw [← h1, h2]
    clear h1 h2
    go_enter Tryd.func21, Tryd.ntmps21
    go_wp2
    simp [bodyPost, results, Tryd.results21, go_sem]
    exact (by repeat (first | assumption | exact Below.refl _ _ | refine Below.setCell ?_ (by first | exact Nat.le_refl _ | (simp; done) | (simp; omega) | omega) _ | refine Below.alloc ?_ (by first | exact Nat.le_refl _ | (simp; done) | (simp; omega) | omega) _ | refine Below.drew ?_ | exact Nat.le_refl _))
  · obtain ⟨h1, h2⟩ := of_pos hn (by omega)
    rw [← h1, h2]
    clear h1 h2
    go_enter Tryd.func21, Tryd.ntmps21
    go_wp2
    simp [bodyPost, results, Tryd.results21, go_sem]
    exact (by repeat (first | assumption | exact Below.refl _ _ | refine Below.setCell ?_ (by first | exact Nat.le_refl _ | (simp; done) | (simp; omega) | omega) _ | refine Below.alloc ?_ (by first | exact Nat.le_refl _ | (simp; done) | (simp; omega) | omega) _ | refine Below.drew ?_ | exact Nat.le_refl _))
end Go.Proofs.YtieklkpjlbpnbaaDoor.Wt
