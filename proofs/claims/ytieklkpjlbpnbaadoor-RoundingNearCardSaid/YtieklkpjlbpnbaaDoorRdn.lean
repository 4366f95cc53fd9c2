/-
  Plain mathematics of rounded quotients: the mirror law, and how near a rounded quotient is to the exact one; no Go in sight.
-/
import Derived.Test.YtieklkpjlbpnbaaDoorRdm
namespace Go.Proofs.YtieklkpjlbpnbaaDoor.Rd
open Go.Proofs.YtieklkpjlbpnbaaDoor.Wm
open Go.Proofs.YtieklkpjlbpnbaaDoor.Wt

/-- The mode for the negated number. -/
def mirr (mode : Int) : Int := if mode = 3 then 4 else if mode = 4 then 3 else mode
theorem upB_mirror {neg odd : Bool} {r n mode : Int} (hm : 1 ≤ mode) (hm6 : mode ≤ 6) : upB (!neg) (!odd) (n - r) n (mirr mode) = !upB neg odd r n mode := by
  have h : mode = 1 ∨ mode = 2 ∨ mode = 3 ∨ mode = 4 ∨ mode = 5 ∨ mode = 6 := by omega
  rcases h with rfl | rfl | rfl | rfl | rfl | rfl
  · simp [upB, mirr]
  · simp [upB, mirr]
  · simp [upB, mirr]
  · simp [upB, mirr]
  all_goals
    show upB _ _ _ _ _ = _
    by_cases e : r = n - r
    · first
        | (rw [show mirr 5 = 5 by decide, upB_5 e, upB_5 (show n - r = n - (n - r) by omega)])
        | (rw [show mirr 6 = 6 by decide, upB_6 e, upB_6 (show n - r = n - (n - r) by omega)])
    · first | rw [show mirr 5 = 5 by decide] | rw [show mirr 6 = 6 by decide]
      rw [upB_ne (by omega) e, upB_ne (by omega) (show ¬ n - r = n - (n - r) by omega)]
      by_cases h : n - r < r
      · rw [decide_eq_true h, decide_eq_false (by omega)]; rfl
      · rw [decide_eq_false h, decide_eq_true (by omega)]; rfl
theorem rd_mirror {a n mode : Int} (hn : 1 ≤ n) (hm : 1 ≤ mode) (hm6 : mode ≤ 6) : rd (-a) n (mirr mode) = -rd a n mode := by
  have e := Int.mul_ediv_add_emod a n
  have r0 := Int.emod_nonneg a (show n ≠ 0 by omega)
  have r1 := Int.emod_lt_of_pos a (show 0 < n by omega)
  by_cases hr : 0 < a % n
  · have hq : (-a) / n = -(a / n) - 1 ∧ (-a) % n = n - a % n := by
      refine (Int.ediv_emod_unique (show 0 < n by omega)).2 ⟨?_, by omega, by omega⟩
      rw [Int.mul_sub, Int.mul_neg]
      omega
    have ha0 : a ≠ 0 := fun h => by rw [h] at hr; simp at hr
    have hng : decide (-a < 0) = !decide (a < 0) := by
      by_cases h : a < 0
      · rw [decide_eq_true h, decide_eq_false (by omega)]; rfl
      · rw [decide_eq_false h, decide_eq_true (by omega)]; rfl
    have hod : decide ((-(a / n) - 1) % 2 = 1) = !decide (a / n % 2 = 1) := by
      by_cases h : a / n % 2 = 1
      · rw [decide_eq_true h, decide_eq_false (by omega)]; rfl
      · rw [decide_eq_false h, decide_eq_true (by omega)]; rfl
    rw [rd_step (x := -a) (by rw [hq.2]; omega), rd_step hr, hq.1, hq.2, hng, hod]
    unfold moreI
    rw [upB_mirror hm hm6]
    cases upB (decide (a < 0)) (decide (a / n % 2 = 1)) (a % n) n mode <;> simp <;> omega
  · have hq : (-a) / n = -(a / n) ∧ (-a) % n = 0 := by
      refine (Int.ediv_emod_unique (show 0 < n by omega)).2 ⟨?_, by omega, by omega⟩
      rw [Int.mul_neg]
      omega
    rw [rd_exact (x := -a) (by rw [hq.2]; omega), rd_exact hr, hq.1]

/-- The distance of a rounded quotient, times the divisor. -/
def dist (a n mode : Int) : Int := rd a n mode * n - a
theorem dist_eq {a n mode : Int} (hn : 1 ≤ n) : (a % n = 0 ∧ dist a n mode = 0) ∨ (0 < a % n ∧ a % n < n ∧ dist a n mode = (if upB (decide (a < 0)) (decide (a / n % 2 = 1)) (a % n) n mode then n - a % n else -(a % n))) := by
  have e := Int.mul_ediv_add_emod a n
  rw [Int.mul_comm] at e
  have r0 := Int.emod_nonneg a (show n ≠ 0 by omega)
  have r1 := Int.emod_lt_of_pos a (show 0 < n by omega)
  unfold dist
  by_cases hr : 0 < a % n
  · refine .inr ⟨hr, r1, ?_⟩
    rw [rd_step hr]
    unfold moreI
    cases upB (decide (a < 0)) (decide (a / n % 2 = 1)) (a % n) n mode
    · simp; omega
    · simp [Int.add_mul]; omega
  · refine .inl ⟨by omega, ?_⟩
    rw [rd_exact hr]; omega
theorem dist_bd {a n mode : Int} (hn : 1 ≤ n) : -n < dist a n mode ∧ dist a n mode < n := by
  rcases dist_eq (a := a) (mode := mode) hn with ⟨_, h⟩ | ⟨h1, h2, h⟩
  · omega
  · rw [h]; split <;> omega
/-- What near asks, as a proposition. -/
def Near (a n d q mode : Int) : Prop :=
  (mode = 1 → (d ≤ 0 ∧ 0 ≤ a) ∨ (0 ≤ d ∧ a < 0)) ∧ (mode = 2 → (0 ≤ d ∧ 0 ≤ a) ∨ (d ≤ 0 ∧ a < 0)) ∧ (mode = 3 → d ≤ 0) ∧ (mode = 4 → 0 ≤ d) ∧
  (5 ≤ mode → (2 * d < n ∧ -n < 2 * d) ∨ ((2 * d = n ∨ 2 * d = -n) ∧ (mode = 6 → q % 2 = 0) ∧ (mode = 5 → (0 ≤ d ∧ 0 ≤ a) ∨ (d ≤ 0 ∧ a < 0))))
theorem near_all {a n mode : Int} (hn : 1 ≤ n) (hm : 1 ≤ mode) (hm6 : mode ≤ 6) : Near a n (dist a n mode) (rd a n mode) mode := by
  rcases dist_eq (a := a) (mode := mode) hn with ⟨h0, h⟩ | ⟨h1, h2, h⟩
  · rw [h]
    unfold Near
    refine ⟨fun _ => ?_, fun _ => ?_, fun _ => by omega, fun _ => by omega, fun _ => .inl (by omega)⟩
    · by_cases ha : 0 ≤ a
      · exact .inl ⟨by omega, ha⟩
      · exact .inr ⟨by omega, by omega⟩
    · by_cases ha : 0 ≤ a
      · exact .inl ⟨by omega, ha⟩
      · exact .inr ⟨by omega, by omega⟩
  · have hrd := rd_step (mode := mode) h1
    generalize hd : dist a n mode = d at *
    generalize hr : a % n = r at *
    have hmode : mode = 1 ∨ mode = 2 ∨ mode = 3 ∨ mode = 4 ∨ mode = 5 ∨ mode = 6 := by omega
    unfold Near
    rcases hmode with rfl | rfl | rfl | rfl | rfl | rfl
    · refine ⟨fun _ => ?_, fun h => by omega, fun h => by omega, fun h => by omega, fun h => by omega⟩
      by_cases ha : a < 0
      · rw [show upB (decide (a < 0)) (decide (a / n % 2 = 1)) r n 1 = true by simp [upB, ha]] at h
        simp at h
        exact .inr ⟨by omega, ha⟩
      · rw [show upB (decide (a < 0)) (decide (a / n % 2 = 1)) r n 1 = false by simp [upB, ha]] at h
        simp at h
        exact .inl ⟨by omega, by omega⟩
    · refine ⟨fun h => by omega, fun _ => ?_, fun h => by omega, fun h => by omega, fun h => by omega⟩
      by_cases ha : a < 0
      · rw [show upB (decide (a < 0)) (decide (a / n % 2 = 1)) r n 2 = false by simp [upB, ha]] at h
        simp at h
        exact .inr ⟨by omega, ha⟩
      · rw [show upB (decide (a < 0)) (decide (a / n % 2 = 1)) r n 2 = true by simp [upB, ha]] at h
        simp at h
        exact .inl ⟨by omega, by omega⟩
    · refine ⟨fun h => by omega, fun h => by omega, fun _ => ?_, fun h => by omega, fun h => by omega⟩
      rw [show upB (decide (a < 0)) (decide (a / n % 2 = 1)) r n 3 = false by simp [upB]] at h
      simp at h
      omega
    · refine ⟨fun h => by omega, fun h => by omega, fun h => by omega, fun _ => ?_, fun h => by omega⟩
      rw [show upB (decide (a < 0)) (decide (a / n % 2 = 1)) r n 4 = true by simp [upB]] at h
      simp at h
      omega
    · refine ⟨fun h => by omega, fun h => by omega, fun h => by omega, fun h => by omega, fun _ => ?_⟩
      by_cases e : r = n - r
      · rw [upB_5 e] at h
        refine .inr ⟨?_, fun h => by omega, fun _ => ?_⟩
        · by_cases ha : a < 0
          · simp [ha] at h; omega
          · simp [ha] at h; omega
        · by_cases ha : a < 0
          · simp [ha] at h; exact .inr ⟨by omega, ha⟩
          · simp [ha] at h; exact .inl ⟨by omega, by omega⟩
      · rw [upB_ne (by omega) e] at h
        refine .inl ?_
        by_cases hlt : n - r < r
        · simp [hlt] at h; omega
        · simp [hlt] at h; omega
    · refine ⟨fun h => by omega, fun h => by omega, fun h => by omega, fun h => by omega, fun _ => ?_⟩
      by_cases e : r = n - r
      · rw [upB_6 e] at h
        unfold moreI at hrd
        rw [upB_6 e] at hrd
        refine .inr ⟨?_, fun _ => ?_, fun h => by omega⟩
        · by_cases ho : a / n % 2 = 1
          · simp [ho] at h; omega
          · simp [ho] at h; omega
        · by_cases ho : a / n % 2 = 1
          · simp [ho] at hrd; omega
          · simp [ho] at hrd; omega
      · rw [upB_ne (by omega) e] at h
        refine .inl ?_
        by_cases hlt : n - r < r
        · simp [hlt] at h; omega
        · simp [hlt] at h; omega
end Go.Proofs.YtieklkpjlbpnbaaDoor.Rd
