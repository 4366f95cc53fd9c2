/-
  The contract of the reference's plus at any two magnitudes: its number is the same in every world.
-/
import Derived.Test.YtmdomlfkehhleaaR1
namespace Go.Proofs.Ytmdomlfkehhleaa.Wt
open Go.RowKit
open Go.Proofs.Ytmdomlfkehhleaa
open Go.Proofs.Ytmdomlfkehhleaa.Wm

theorem plus_over_w {ah al bh bl : Int} (h1 : U64 ah) (h2 : U64 al) (h3 : U64 bh) (h4 : U64 bl) (ho : 18446744073709551615 < ah + bh ∨ (18446744073709551615 < al + bl ∧ 18446744073709551615 < ah + bh + 1)) :
    ∃ a b : Int, U64 a ∧ U64 b ∧ ∀ w : World, Calls Try.prog 37 #[.agg #[.int .u64 ah, .int .u64 al], .agg #[.int .u64 bh, .int .u64 bl]] w fun e w' => e = .returned (.tuple #[.agg #[.int .u64 a, .int .u64 b], .bool false]) ∧ Below w.heap.size w w' := by
  have wl := wrap_bd (al + bl)
  by_cases hh : 18446744073709551615 < ah + bh
  · have hlt : IntKind.u64.wrap (ah + bh) < ah := by rw [IntKind.wrap_u64]; unfold U64 at h1 h3; omega
    have wh := wrap_bd (ah + bh)
    by_cases hc : al + bl ≤ 18446744073709551615
    · refine ⟨IntKind.u64.wrap (ah + bh), al + bl, wh, by unfold U64 at *; omega, fun w => ?_⟩
      obtain ⟨a1, a2⟩ := h1; obtain ⟨b1, b2⟩ := h2; obtain ⟨c1, c2⟩ := h3; obtain ⟨d1, d2⟩ := h4
      obtain ⟨w1, w2⟩ := wh
      clear ho
      go_enter Try.func37, Try.ntmps37
      go_wp2
      simp [bodyPost, results, Try.results37, go_sem]
      exact (by repeat (first | assumption | exact Below.refl _ _ | refine Below.setCell ?_ (by first | exact Nat.le_refl _ | (simp; done) | (simp; omega) | omega) _ | refine Below.alloc ?_ (by first | exact Nat.le_refl _ | (simp; done) | (simp; omega) | omega) _ | refine Below.drew ?_ | exact Nat.le_refl _))
    · have hlt2 : IntKind.u64.wrap (al + bl) < al := by rw [IntKind.wrap_u64]; unfold U64 at *; omega
      have hs : IntKind.u64.wrap (ah + bh) + 1 ≤ 18446744073709551615 := by rw [IntKind.wrap_u64]; unfold U64 at *; omega
      refine ⟨IntKind.u64.wrap (ah + bh) + 1, IntKind.u64.wrap (al + bl), by unfold U64 at *; omega, wl, fun w => ?_⟩
      obtain ⟨a1, a2⟩ := h1; obtain ⟨b1, b2⟩ := h2; obtain ⟨c1, c2⟩ := h3; obtain ⟨d1, d2⟩ := h4
      obtain ⟨w1, w2⟩ := wh
      obtain ⟨x1, x2⟩ := wl
      clear hc ho
      go_enter Try.func37, Try.ntmps37
      go_wp2
      simp [bodyPost, results, Try.results37, go_sem]
      exact (by repeat (first | assumption | exact Below.refl _ _ | refine Below.setCell ?_ (by first | exact Nat.le_refl _ | (simp; done) | (simp; omega) | omega) _ | refine Below.alloc ?_ (by first | exact Nat.le_refl _ | (simp; done) | (simp; omega) | omega) _ | refine Below.drew ?_ | exact Nat.le_refl _))
  · have hc : 18446744073709551615 < al + bl ∧ ah + bh = 18446744073709551615 := by omega
    obtain ⟨hc, he⟩ := hc
    have hlt2 : IntKind.u64.wrap (al + bl) < al := by rw [IntKind.wrap_u64]; unfold U64 at h2 h4; omega
    have hz : IntKind.u64.wrap (ah + bh + 1) < 1 := by rw [IntKind.wrap_u64]; omega
    have hz0 : 0 ≤ IntKind.u64.wrap (ah + bh + 1) := by rw [IntKind.wrap_u64]; omega
    have hle : ah + bh ≤ 18446744073709551615 := by omega
    refine ⟨IntKind.u64.wrap (ah + bh + 1), IntKind.u64.wrap (al + bl), ⟨hz0, by omega⟩, wl, fun w => ?_⟩
    obtain ⟨a1, a2⟩ := h1; obtain ⟨b1, b2⟩ := h2; obtain ⟨c1, c2⟩ := h3; obtain ⟨d1, d2⟩ := h4
    obtain ⟨x1, x2⟩ := wl
    clear ho hh he
    go_enter Try.func37, Try.ntmps37
    go_wp2
    simp [bodyPost, results, Try.results37, go_sem]
    exact ⟨by omega, (by repeat (first | assumption | exact Below.refl _ _ | refine Below.setCell ?_ (by first | exact Nat.le_refl _ | (simp; done) | (simp; omega) | omega) _ | refine Below.alloc ?_ (by first | exact Nat.le_refl _ | (simp; done) | (simp; omega) | omega) _ | refine Below.drew ?_ | exact Nat.le_refl _))⟩
theorem rplus_w (a b : Int) (ha : U128 a) (hb : U128 b) : ∃ (o : Int) (f : Bool), U128 o ∧ f = decide (a + b ≤ 340282366920938463463374607431768211455) ∧ (f = true → o = a + b) ∧
    ∀ w : World, Calls Try.prog 37 #[.agg #[.int .u64 (hi a), .int .u64 (lo a)], .agg #[.int .u64 (hi b), .int .u64 (lo b)]] w fun e w' => e = .returned (.tuple #[.agg #[.int .u64 (hi o), .int .u64 (lo o)], .bool f]) ∧ Below w.heap.size w w' := by
  by_cases h : a + b ≤ 340282366920938463463374607431768211455
  · exact ⟨a + b, true, ⟨by unfold U128 at ha hb; omega, h⟩, (decide_eq_true h).symm, fun _ => rfl, fun w => rplus_yes a b w ha hb h⟩
  · have e1 := hi_lo a
    have e2 := hi_lo b
    have l1 := lo_bd a
    have l2 := lo_bd b
    have h1 := hi_bdu ha
    have h2 := hi_bdu hb
    obtain ⟨x, y, ux, uy, hc⟩ := plus_over_w h1 l1 h2 l2 (by unfold U64 at *; omega)
    refine ⟨val x y, false, val_bdu ux uy, (decide_eq_false h).symm, (fun e => by cases e), ?_⟩
    rw [hi_val uy, lo_val uy]
    exact hc
end Go.Proofs.Ytmdomlfkehhleaa.Wt
