/-
  The contracts of package wide's Add and Sub.
-/
import Derived.Test.YtieklkpjlbpnbaaDoorWide7
namespace Go.Proofs.YtieklkpjlbpnbaaDoor.Wt
open Go.RowKit
open Go.Proofs.YtieklkpjlbpnbaaDoor
open Go.Proofs.YtieklkpjlbpnbaaDoor.Wm

/-- What Add and Sub return for the number s. -/
def WSum (w : World) (s : Int) (e : Ending) (w' : World) : Prop := e = .returned (.tuple #[.agg #[.int .i64 (hi (fit s)), .int .u64 (lo (fit s))], .int .i64 (ovf s)]) ∧ Below w.heap.size w w'
theorem wsum_in {w w' : World} {s : Int} (h : I128 s) (hb : Below w.heap.size w w') : WSum w s (.returned (.tuple #[.agg #[.int .i64 (hi s), .int .u64 (lo s)], .int .i64 0])) w' := by
  unfold WSum; rw [fit_in h, ovf_in h]; exact ⟨rfl, hb⟩
theorem wsum_out {w w' : World} {s : Int} (h : ¬ I128 s) (hb : Below w.heap.size w w') : WSum w s (.returned (.tuple #[.agg #[.int .i64 0, .int .u64 0], .int .i64 6])) w' := by
  unfold WSum; rw [fit_out h, ovf_out h, hi_0, lo_0]; exact ⟨rfl, hb⟩

/-! ### the bits -/
/-- What Sub64 lends. -/
def bor (x y : Int) : Int := if x < y then 1 else 0
theorem sub64 (x y : Int) (hx : U64 x) (hy : U64 y) (w : World) : (callFunc 55 #[.int .u64 x, .int .u64 y, .int .u64 0]).run Tryd.prog w =
    .ok (.value (.tuple #[.int .u64 (lo (x - y)), .int .u64 (bor x y)])) w := by
  obtain ⟨x0, x1⟩ := hx
  obtain ⟨y0, y1⟩ := hy
  obtain ⟨x, rfl⟩ := Int.eq_ofNat_of_zero_le x0
  obtain ⟨y, rfl⟩ := Int.eq_ofNat_of_zero_le y0
  rw [run_callFunc_extern Tryd.func55 (by kernel_rfl) (by kernel_rfl) (by kernel_rfl) (e := sub64Entry) (by kernel_rfl), show (Value.int .u64 0) = .int .u64 ((0 : Nat) : Int) from rfl, run_sub64 x y 0 (by omega)]
  have e1 : ((x + 18446744073709551616 - y - 0) % 18446744073709551616 : Nat) = lo ((x : Int) - y) := by unfold lo; omega
  have e2 : ((if x < y + 0 then 1 else 0 : Nat) : Int) = bor x y := by unfold bor; split <;> split <;> omega
  rw [e1, e2]
  rfl
theorem bor_bd (x y : Int) : 0 ≤ bor x y ∧ bor x y ≤ 1 := by unfold bor; split <;> omega
theorem car_bd {x y : Int} : 0 ≤ hi (lo x + lo y) ∧ hi (lo x + lo y) ≤ 1 := by have := lo_bd x; have := lo_bd y; unfold U64 at *; unfold hi; omega

/-- The upper word of a sum, as Add forms it. -/
theorem add_hi (x y : Int) : hi (x + y) = hi x + hi y + hi (lo x + lo y) ∧ lo (x + y) = lo (lo x + lo y) := by unfold hi lo; omega
theorem sub_hi (x y : Int) : hi (x - y) = hi x - hi y - bor (lo x) (lo y) ∧ lo (x - y) = lo (lo x - lo y) := by unfold bor; split <;> (unfold hi lo at *; omega)

theorem add_T {a b c s : Int} (h1 : -9223372036854775808 ≤ a ∧ a ≤ 9223372036854775807) (h2 : -9223372036854775808 ≤ b ∧ b ≤ 9223372036854775807) (h3 : 0 ≤ c ∧ c ≤ 1) (e : s = a + b + c) :
    ((-9223372036854775808 ≤ s ∧ s ≤ 9223372036854775807) → wrap64 (wrap64 (a + b) + wrap64 c) = s) ∧ (s < -9223372036854775808 → 0 ≤ wrap64 (wrap64 (a + b) + wrap64 c)) ∧ (9223372036854775807 < s → wrap64 (wrap64 (a + b) + wrap64 c) < 0) := by
  unfold wrap64; omega
set_option maxHeartbeats 1000000 in
theorem add_any (x y : Int) (w : World) (hx : I128 x) (hy : I128 y) :
    Calls Tryd.prog 35 #[.agg #[.int .i64 (hi x), .int .u64 (lo x)], .agg #[.int .i64 (hi y), .int .u64 (lo y)]] w (WSum w (x + y)) := by
  have bx := hi_bd hx
  have by' := hi_bd hy
  have bc := car_bd (x := x) (y := y)
  obtain ⟨e1, e2⟩ := add_hi x y
  have ha := Lib.hid (fun w => add64_0 (lo x) (lo y) (lo_bd _).1 (lo_bd _).1 w)
  rw [← e2] at ha
  generalize hi (lo x + lo y) = c at *
  have hin : I128 (x + y) → -9223372036854775808 ≤ hi (x + y) ∧ hi (x + y) ≤ 9223372036854775807 := fun h => hi_bd h
  have hout : ¬ I128 (x + y) → hi (x + y) < -9223372036854775808 ∨ 9223372036854775807 < hi (x + y) := fun h => by
    have h1 := hi_lo (x + y)
    have h2 := lo_bd (x + y)
    unfold U64 at h2
    unfold I128 at h
    omega
  unfold I64 at bx by'
  obtain ⟨t1, t2, t3⟩ := add_T bx by' bc e1
  clear hx hy e2
  generalize hi x = a at *
  generalize hi y = b at *
  have W1 := fun h (w' : World) => wsum_in (w := w) (w' := w') (s := x + y) h
  have W2 := fun h (w' : World) => wsum_out (w := w) (w' := w') (s := x + y) h
  generalize hi (x + y) = s at *
  generalize lo (x + y) = l at *
  have HW1 := Lib.hid W1
  have HW2 := Lib.hid W2
  clear W1 W2
  by_cases hI : I128 (x + y)
  · have H4 := Lib.hid (t1 (hin hI))
    have hr := hin hI
    have HI := Lib.hid hI
    have sg : (a < 0 ∧ b < 0 ∧ wrap64 (wrap64 (a + b) + wrap64 c) < 0) ∨ (0 ≤ a ∧ 0 ≤ b ∧ 0 ≤ wrap64 (wrap64 (a + b) + wrap64 c)) ∨ (a < 0 ∧ 0 ≤ b) ∨ (0 ≤ a ∧ b < 0) := by
      rw [t1 hr]; omega
    clear t1 t2 t3 hin hout hI hr bx by' bc e1
    rcases sg with ⟨h1, h2, h3⟩ | ⟨h1, h2, h3⟩ | ⟨h1, h2⟩ | ⟨h1, h2⟩
    · skip
      have d1 : decide (a < 0) = true := decide_eq_true (by omega)
      have d2 : decide (b < 0) = true := decide_eq_true (by omega)
      have d3 : decide (wrap64 (wrap64 (a + b) + wrap64 c) < 0) = true := decide_eq_true (by omega)
      clear h1 h2 h3
      go_enter Tryd.func35, Tryd.ntmps35
      go_wp2_with (simp only [ha.out])
      rw [H4.out]
      simp [bodyPost, results, Tryd.results35, go_sem]
      exact HW1.out HI.out _ (by repeat (first | assumption | exact Below.refl _ _ | refine Below.setCell ?_ (by first | exact Nat.le_refl _ | (simp; done) | (simp; omega) | omega) _ | refine Below.alloc ?_ (by first | exact Nat.le_refl _ | (simp; done) | (simp; omega) | omega) _ | refine Below.drew ?_ | exact Nat.le_refl _))
    · skip
      have d1 : decide (a < 0) = false := decide_eq_false (by omega)
      have d2 : decide (b < 0) = false := decide_eq_false (by omega)
      have d3 : decide (wrap64 (wrap64 (a + b) + wrap64 c) < 0) = false := decide_eq_false (by omega)
      clear h1 h2 h3
      go_enter Tryd.func35, Tryd.ntmps35
      go_wp2_with (simp only [ha.out])
      rw [H4.out]
      simp [bodyPost, results, Tryd.results35, go_sem]
      exact HW1.out HI.out _ (by repeat (first | assumption | exact Below.refl _ _ | refine Below.setCell ?_ (by first | exact Nat.le_refl _ | (simp; done) | (simp; omega) | omega) _ | refine Below.alloc ?_ (by first | exact Nat.le_refl _ | (simp; done) | (simp; omega) | omega) _ | refine Below.drew ?_ | exact Nat.le_refl _))
    · skip
      have d1 : decide (a < 0) = true := decide_eq_true (by omega)
      have d2 : decide (b < 0) = false := decide_eq_false (by omega)
      clear h1 h2
      go_enter Tryd.func35, Tryd.ntmps35
      go_wp2_with (simp only [ha.out])
      rw [H4.out]
      simp [bodyPost, results, Tryd.results35, go_sem]
      exact HW1.out HI.out _ (by repeat (first | assumption | exact Below.refl _ _ | refine Below.setCell ?_ (by first | exact Nat.le_refl _ | (simp; done) | (simp; omega) | omega) _ | refine Below.alloc ?_ (by first | exact Nat.le_refl _ | (simp; done) | (simp; omega) | omega) _ | refine Below.drew ?_ | exact Nat.le_refl _))
    · skip
      have d1 : decide (a < 0) = false := decide_eq_false (by omega)
      have d2 : decide (b < 0) = true := decide_eq_true (by omega)
      clear h1 h2
      go_enter Tryd.func35, Tryd.ntmps35
      go_wp2_with (simp only [ha.out])
      rw [H4.out]
      simp [bodyPost, results, Tryd.results35, go_sem]
      exact HW1.out HI.out _ (by repeat (first | assumption | exact Below.refl _ _ | refine Below.setCell ?_ (by first | exact Nat.le_refl _ | (simp; done) | (simp; omega) | omega) _ | refine Below.alloc ?_ (by first | exact Nat.le_refl _ | (simp; done) | (simp; omega) | omega) _ | refine Below.drew ?_ | exact Nat.le_refl _))
  · have hr := hout hI
    have HI := Lib.hid hI
    have sg : (a < 0 ∧ b < 0 ∧ 0 ≤ wrap64 (wrap64 (a + b) + wrap64 c)) ∨ (0 ≤ a ∧ 0 ≤ b ∧ wrap64 (wrap64 (a + b) + wrap64 c) < 0) := by
      rcases hr with hr | hr
      · have := t2 hr; omega
      · have := t3 hr; omega
    clear t1 t2 t3 hin hout hI hr bx by' bc e1
    rcases sg with ⟨h1, h2, h3⟩ | ⟨h1, h2, h3⟩
    · skip
      have d1 : decide (a < 0) = true := decide_eq_true (by omega)
      have d2 : decide (b < 0) = true := decide_eq_true (by omega)
      have d3 : decide (wrap64 (wrap64 (a + b) + wrap64 c) < 0) = false := decide_eq_false (by omega)
      clear h1 h2 h3
      go_enter Tryd.func35, Tryd.ntmps35
      go_wp2_with (simp only [ha.out])
      simp [bodyPost, results, Tryd.results35, go_sem]
      exact HW2.out HI.out _ (by repeat (first | assumption | exact Below.refl _ _ | refine Below.setCell ?_ (by first | exact Nat.le_refl _ | (simp; done) | (simp; omega) | omega) _ | refine Below.alloc ?_ (by first | exact Nat.le_refl _ | (simp; done) | (simp; omega) | omega) _ | refine Below.drew ?_ | exact Nat.le_refl _))
    · skip
      have d1 : decide (a < 0) = false := decide_eq_false (by omega)
      have d2 : decide (b < 0) = false := decide_eq_false (by omega)
      have d3 : decide (wrap64 (wrap64 (a + b) + wrap64 c) < 0) = true := decide_eq_true (by omega)
      clear h1 h2 h3
      go_enter Tryd.func35, Tryd.ntmps35
      go_wp2_with (simp only [ha.out])
      simp [bodyPost, results, Tryd.results35, go_sem]
      exact HW2.out HI.out _ (by repeat (first | assumption | exact Below.refl _ _ | refine Below.setCell ?_ (by first | exact Nat.le_refl _ | (simp; done) | (simp; omega) | omega) _ | refine Below.alloc ?_ (by first | exact Nat.le_refl _ | (simp; done) | (simp; omega) | omega) _ | refine Below.drew ?_ | exact Nat.le_refl _))

theorem sub_T {a b c s : Int} (h1 : -9223372036854775808 ≤ a ∧ a ≤ 9223372036854775807) (h2 : -9223372036854775808 ≤ b ∧ b ≤ 9223372036854775807) (h3 : 0 ≤ c ∧ c ≤ 1) (e : s = a - b - c) :
    ((-9223372036854775808 ≤ s ∧ s ≤ 9223372036854775807) → wrap64 (wrap64 (a - b) - wrap64 c) = s) ∧ (s < -9223372036854775808 → 0 ≤ wrap64 (wrap64 (a - b) - wrap64 c)) ∧ (9223372036854775807 < s → wrap64 (wrap64 (a - b) - wrap64 c) < 0) := by
  unfold wrap64; omega
set_option maxHeartbeats 1000000 in
theorem sub_any (x y : Int) (w : World) (hx : I128 x) (hy : I128 y) :
    Calls Tryd.prog 41 #[.agg #[.int .i64 (hi x), .int .u64 (lo x)], .agg #[.int .i64 (hi y), .int .u64 (lo y)]] w (WSum w (x - y)) := by
  have bx := hi_bd hx
  have by' := hi_bd hy
  have bc := bor_bd (lo x) (lo y)
  obtain ⟨e1, e2⟩ := sub_hi x y
  have ha := Lib.hid (fun w => sub64 (lo x) (lo y) (lo_bd _) (lo_bd _) w)
  rw [← e2] at ha
  generalize bor (lo x) (lo y) = c at *
  have hin : I128 (x - y) → -9223372036854775808 ≤ hi (x - y) ∧ hi (x - y) ≤ 9223372036854775807 := fun h => hi_bd h
  have hout : ¬ I128 (x - y) → hi (x - y) < -9223372036854775808 ∨ 9223372036854775807 < hi (x - y) := fun h => by
    have h1 := hi_lo (x - y)
    have h2 := lo_bd (x - y)
    unfold U64 at h2
    unfold I128 at h
    omega
  unfold I64 at bx by'
  obtain ⟨t1, t2, t3⟩ := sub_T bx by' bc e1
  clear hx hy e2
  generalize hi x = a at *
  generalize hi y = b at *
  have W1 := fun h (w' : World) => wsum_in (w := w) (w' := w') (s := x - y) h
  have W2 := fun h (w' : World) => wsum_out (w := w) (w' := w') (s := x - y) h
  generalize hi (x - y) = s at *
  generalize lo (x - y) = l at *
  have HW1 := Lib.hid W1
  have HW2 := Lib.hid W2
  clear W1 W2
  by_cases hI : I128 (x - y)
  · have H4 := Lib.hid (t1 (hin hI))
    have hr := hin hI
    have HI := Lib.hid hI
    have sg : (a < 0 ∧ 0 ≤ b ∧ wrap64 (wrap64 (a - b) - wrap64 c) < 0) ∨ (0 ≤ a ∧ b < 0 ∧ 0 ≤ wrap64 (wrap64 (a - b) - wrap64 c)) ∨ (a < 0 ∧ b < 0) ∨ (0 ≤ a ∧ 0 ≤ b) := by
      rw [t1 hr]; omega
    clear t1 t2 t3 hin hout hI hr bx by' bc e1
    rcases sg with ⟨h1, h2, h3⟩ | ⟨h1, h2, h3⟩ | ⟨h1, h2⟩ | ⟨h1, h2⟩
    · skip
      have d1 : decide (a < 0) = true := decide_eq_true (by omega)
      have d2 : decide (b < 0) = false := decide_eq_false (by omega)
      have d3 : decide (wrap64 (wrap64 (a - b) - wrap64 c) < 0) = true := decide_eq_true (by omega)
      clear h1 h2 h3
      go_enter Tryd.func41, Tryd.ntmps41
      go_wp2_with (simp only [ha.out])
      rw [H4.out]
      simp [bodyPost, results, Tryd.results41, go_sem]
      exact HW1.out HI.out _ (by repeat (first | assumption | exact Below.refl _ _ | refine Below.setCell ?_ (by first | exact Nat.le_refl _ | (simp; done) | (simp; omega) | omega) _ | refine Below.alloc ?_ (by first | exact Nat.le_refl _ | (simp; done) | (simp; omega) | omega) _ | refine Below.drew ?_ | exact Nat.le_refl _))
    · skip
      have d1 : decide (a < 0) = false := decide_eq_false (by omega)
      have d2 : decide (b < 0) = true := decide_eq_true (by omega)
      have d3 : decide (wrap64 (wrap64 (a - b) - wrap64 c) < 0) = false := decide_eq_false (by omega)
      clear h1 h2 h3
      go_enter Tryd.func41, Tryd.ntmps41
      go_wp2_with (simp only [ha.out])
      rw [H4.out]
      simp [bodyPost, results, Tryd.results41, go_sem]
      exact HW1.out HI.out _ (by repeat (first | assumption | exact Below.refl _ _ | refine Below.setCell ?_ (by first | exact Nat.le_refl _ | (simp; done) | (simp; omega) | omega) _ | refine Below.alloc ?_ (by first | exact Nat.le_refl _ | (simp; done) | (simp; omega) | omega) _ | refine Below.drew ?_ | exact Nat.le_refl _))
    · skip
      have d1 : decide (a < 0) = true := decide_eq_true (by omega)
      have d2 : decide (b < 0) = true := decide_eq_true (by omega)
      clear h1 h2
      go_enter Tryd.func41, Tryd.ntmps41
      go_wp2_with (simp only [ha.out])
      rw [H4.out]
      simp [bodyPost, results, Tryd.results41, go_sem]
      exact HW1.out HI.out _ (by repeat (first | assumption | exact Below.refl _ _ | refine Below.setCell ?_ (by first | exact Nat.le_refl _ | (simp; done) | (simp; omega) | omega) _ | refine Below.alloc ?_ (by first | exact Nat.le_refl _ | (simp; done) | (simp; omega) | omega) _ | refine Below.drew ?_ | exact Nat.le_refl _))
    · skip
      have d1 : decide (a < 0) = false := decide_eq_false (by omega)
      have d2 : decide (b < 0) = false := decide_eq_false (by omega)
      clear h1 h2
      go_enter Tryd.func41, Tryd.ntmps41
      go_wp2_with (simp only [ha.out])
      rw [H4.out]
      simp [bodyPost, results, Tryd.results41, go_sem]
      exact HW1.out HI.out _ (by repeat (first | assumption | exact Below.refl _ _ | refine Below.setCell ?_ (by first | exact Nat.le_refl _ | (simp; done) | (simp; omega) | omega) _ | refine Below.alloc ?_ (by first | exact Nat.le_refl _ | (simp; done) | (simp; omega) | omega) _ | refine Below.drew ?_ | exact Nat.le_refl _))
  · have hr := hout hI
    have HI := Lib.hid hI
    have sg : (a < 0 ∧ 0 ≤ b ∧ 0 ≤ wrap64 (wrap64 (a - b) - wrap64 c)) ∨ (0 ≤ a ∧ b < 0 ∧ wrap64 (wrap64 (a - b) - wrap64 c) < 0) := by
      rcases hr with hr | hr
      · have := t2 hr; omega
      · have := t3 hr; omega
    clear t1 t2 t3 hin hout hI hr bx by' bc e1
    rcases sg with ⟨h1, h2, h3⟩ | ⟨h1, h2, h3⟩
    · skip
      have d1 : decide (a < 0) = true := decide_eq_true (by omega)
      have d2 : decide (b < 0) = false := decide_eq_false (by omega)
      have d3 : decide (wrap64 (wrap64 (a - b) - wrap64 c) < 0) = false := decide_eq_false (by omega)
      clear h1 h2 h3
      go_enter Tryd.func41, Tryd.ntmps41
      go_wp2_with (simp only [ha.out])
      simp [bodyPost, results, Tryd.results41, go_sem]
      exact HW2.out HI.out _ (by repeat (first | assumption | exact Below.refl _ _ | refine Below.setCell ?_ (by first | exact Nat.le_refl _ | (simp; done) | (simp; omega) | omega) _ | refine Below.alloc ?_ (by first | exact Nat.le_refl _ | (simp; done) | (simp; omega) | omega) _ | refine Below.drew ?_ | exact Nat.le_refl _))
    · skip
      have d1 : decide (a < 0) = false := decide_eq_false (by omega)
      have d2 : decide (b < 0) = true := decide_eq_true (by omega)
      have d3 : decide (wrap64 (wrap64 (a - b) - wrap64 c) < 0) = true := decide_eq_true (by omega)
      clear h1 h2 h3
      go_enter Tryd.func41, Tryd.ntmps41
      go_wp2_with (simp only [ha.out])
      simp [bodyPost, results, Tryd.results41, go_sem]
      exact HW2.out HI.out _ (by repeat (first | assumption | exact Below.refl _ _ | refine Below.setCell ?_ (by first | exact Nat.le_refl _ | (simp; done) | (simp; omega) | omega) _ | refine Below.alloc ?_ (by first | exact Nat.le_refl _ | (simp; done) | (simp; omega) | omega) _ | refine Below.drew ?_ | exact Nat.le_refl _))

end Go.Proofs.YtieklkpjlbpnbaaDoor.Wt
