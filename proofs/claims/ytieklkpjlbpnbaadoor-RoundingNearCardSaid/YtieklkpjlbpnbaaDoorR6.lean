/-
  The contracts of the reference's minus, Less, sum and Add: said of numbers of two words.
-/
import Derived.Test.YtieklkpjlbpnbaaDoorR4
namespace Go.Proofs.YtieklkpjlbpnbaaDoor.Wt
open Go.RowKit
open Go.Proofs.YtieklkpjlbpnbaaDoor
open Go.Proofs.YtieklkpjlbpnbaaDoor.Wm

theorem rminus_any (a b : Int) (w : World) (ha : U128 a) (hb : U128 b) (h : b ≤ a) :
    Calls Tryd.prog 60 #[.agg #[.int .u64 (hi a), .int .u64 (lo a)], .agg #[.int .u64 (hi b), .int .u64 (lo b)]] w fun e w' => e = .returned (.agg #[.int .u64 (hi (a - b)), .int .u64 (lo (a - b))]) ∧ Below w.heap.size w w' := by
  have e1 := hi_lo a
  have e2 := hi_lo b
  obtain ⟨l1, l2⟩ := lo_bd a
  obtain ⟨m1, m2⟩ := lo_bd b
  obtain ⟨k1, k2⟩ := hi_bdu ha
  obtain ⟨j1, j2⟩ := hi_bdu hb
  by_cases hc : lo a < lo b
  · have hh : hi b + 1 ≤ hi a := by omega
    have H1 := Lib.hid (show hi a - hi b - 1 = hi (a - b) by unfold hi lo at *; omega)
    have H2 := Lib.hid (show IntKind.u64.wrap (lo a - lo b) = lo (a - b) by rw [IntKind.wrap_u64]; unfold hi lo at *; omega)
    clear e1 e2 h ha hb
    go_enter Tryd.func60, Tryd.ntmps60
    go_wp2
    simp [bodyPost, results, Tryd.results60, go_sem]
    exact ⟨⟨H1.out, H2.out⟩, (by repeat (first | assumption | exact Below.refl _ _ | refine Below.setCell ?_ (by first | exact Nat.le_refl _ | (simp; done) | (simp; omega) | omega) _ | refine Below.alloc ?_ (by first | exact Nat.le_refl _ | (simp; done) | (simp; omega) | omega) _ | refine Below.drew ?_ | exact Nat.le_refl _))⟩
  · have hh : hi b ≤ hi a := by omega
    have H1 := Lib.hid (show hi a - hi b = hi (a - b) by unfold hi lo at *; omega)
    have H2 := Lib.hid (show lo a - lo b = lo (a - b) by unfold hi lo at *; omega)
    have hc' : lo b ≤ lo a := by omega
    clear e1 e2 h ha hb hc
    go_enter Tryd.func60, Tryd.ntmps60
    go_wp2
    simp [bodyPost, results, Tryd.results60, go_sem]
    exact ⟨⟨H1.out, H2.out⟩, (by repeat (first | assumption | exact Below.refl _ _ | refine Below.setCell ?_ (by first | exact Nat.le_refl _ | (simp; done) | (simp; omega) | omega) _ | refine Below.alloc ?_ (by first | exact Nat.le_refl _ | (simp; done) | (simp; omega) | omega) _ | refine Below.drew ?_ | exact Nat.le_refl _))⟩

theorem rless_any (a b : Int) (w : World) :
    Calls Tryd.prog 59 #[.agg #[.int .u64 (hi a), .int .u64 (lo a)], .agg #[.int .u64 (hi b), .int .u64 (lo b)]] w fun e w' => e = .returned (.bool (decide (a < b))) ∧ Below w.heap.size w w' := by
  have e1 := hi_lo a
  have e2 := hi_lo b
  obtain ⟨l1, l2⟩ := lo_bd a
  obtain ⟨m1, m2⟩ := lo_bd b
  by_cases hc : hi a < hi b
  · rw [decide_eq_true (show a < b by omega)]
    clear e1 e2
    go_enter Tryd.func59, Tryd.ntmps59
    go_wp2
    go_ret
    exact ⟨rfl, (by repeat (first | assumption | exact Below.refl _ _ | refine Below.setCell ?_ (by first | exact Nat.le_refl _ | (simp; done) | (simp; omega) | omega) _ | refine Below.alloc ?_ (by first | exact Nat.le_refl _ | (simp; done) | (simp; omega) | omega) _ | refine Below.drew ?_ | exact Nat.le_refl _))⟩
  · by_cases hd : hi a = hi b
    · have t1 : (hi a == hi b) = true := by simpa using hd
      have H := Lib.hid (show decide (lo a < lo b) = decide (a < b) by rw [decide_eq_decide]; omega)
      have t0 : decide (hi a < hi b) = false := decide_eq_false hc
      clear e1 e2 hd hc
      go_enter Tryd.func59, Tryd.ntmps59
      go_wp2
      go_ret
      exact ⟨by rw [← H.out]; rfl, (by repeat (first | assumption | exact Below.refl _ _ | refine Below.setCell ?_ (by first | exact Nat.le_refl _ | (simp; done) | (simp; omega) | omega) _ | refine Below.alloc ?_ (by first | exact Nat.le_refl _ | (simp; done) | (simp; omega) | omega) _ | refine Below.drew ?_ | exact Nat.le_refl _))⟩
    · have t1 : (hi a == hi b) = false := by simpa using hd
      rw [decide_eq_false (show ¬ a < b by omega)]
      have t0 : decide (hi a < hi b) = false := decide_eq_false hc
      clear e1 e2 hd hc
      go_enter Tryd.func59, Tryd.ntmps59
      go_wp2
      go_ret
      exact ⟨rfl, (by repeat (first | assumption | exact Below.refl _ _ | refine Below.setCell ?_ (by first | exact Nat.le_refl _ | (simp; done) | (simp; omega) | omega) _ | refine Below.alloc ?_ (by first | exact Nat.le_refl _ | (simp; done) | (simp; omega) | omega) _ | refine Below.drew ?_ | exact Nat.le_refl _))⟩
end Go.Proofs.YtieklkpjlbpnbaaDoor.Wt
