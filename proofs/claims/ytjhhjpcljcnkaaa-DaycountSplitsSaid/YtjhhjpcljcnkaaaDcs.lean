/-
  The contracts of daycount's sums of weights, and of the reference's.
-/
import Derived.Test.YtjhhjpcljcnkaaaDcw
namespace Go.Proofs.Ytjhhjpcljcnkaaa.Dt
open Go.RowKit
open Go.Proofs.Ytjhhjpcljcnkaaa.Cal

theorem weight_at (b d v : Int) (w : World) (h : wei b d = v) : Calls Try.prog 12 #[.int .i64 b, .int .i64 d] w fun e w' => e = .returned (.int .i64 v) ∧ Below w.heap.size w w' := by
  subst h; exact weight_any b d w

/-- What one round of 'actual' adds. -/
theorem act_step (x t : Int) (h0 : 0 ≤ x) (ht : t ≤ 73048) (hx : x < t) :
    ∃ v : Int, (v = 4380 ∨ v = 4392) ∧ wei 3 x = v ∧
      ((dateOk (cy x + 1) 1 1 ∧ begin_ (cy x + 1) ≤ t ∧ x < begin_ (cy x + 1) ∧ act (begin_ (cy x + 1)) = act x + (begin_ (cy x + 1) - x) * v) ∨
       (dateOk (cy x + 1) 1 1 ∧ t < begin_ (cy x + 1) ∧ begin_ (cy x + 1) ≤ 73049 ∧ act t = act x + (t - x) * v) ∨
       (¬ dateOk (cy x + 1) 1 1 ∧ act t = act x + (t - x) * v)) := by
  have h := civ_spec x h0 (by omega)
  have hy := h.year
  have hv : wei 3 x = wt (cy x) := by rw [wei_in h0 (by omega)]; simp [wgt]
  refine ⟨wt (cy x), ?_, hv, ?_⟩
  · rcases wt_01 (cy x) with ⟨_, g⟩ | ⟨_, g⟩
    · exact .inl g
    · exact .inr g
  · have hb := begin_bd (cy x + 1) (by have := h.y0; omega) (by have := h.y1; omega)
    have ml := mlen_bd (cy x + 1) 1 (by omega) (by omega)
    by_cases c : cy x + 1 ≤ 2199
    · have hd : dateOk (cy x + 1) 1 1 := ⟨by have := h.y0; omega, c, by omega, by omega, by omega, by omega⟩
      by_cases c2 : begin_ (cy x + 1) ≤ t
      · refine .inl ⟨hd, c2, hy.2, ?_⟩
        have := (act_to_next x h0 (by omega) (by omega)).1; omega
      · refine .inr (.inl ⟨hd, by omega, hb.2, ?_⟩)
        have := act_within x t h0 ht (by omega) (by omega); omega
    · refine .inr (.inr ⟨fun hd => c hd.2.1, ?_⟩)
      have e : cy x = 2199 := by have := h.y1; omega
      have hlt : t < begin_ (cy x + 1) := by rw [e]; have := begin_200; simp only [show (2199 : Int) + 1 = 2200 from rfl]; omega
      have := act_within x t h0 ht (by omega) hlt; omega

theorem day_first (y : Int) (w : World) (hd : dateOk y 1 1) : Calls Try.prog 42 #[.int .i64 y, .int .i64 1, .int .i64 1] w fun e w' => e = .returned (.tuple #[.int .i64 (begin_ y), .int .i64 0]) ∧ Below w.heap.size w w' := by
  refine (day_yes y 1 1 w hd).mono ?_
  rintro e w' ⟨rfl, hb⟩
  exact ⟨by rw [cum_1]; rw [show begin_ y + 0 + 1 - 1 = begin_ y by omega], hb⟩

set_option maxHeartbeats 1600000 in
theorem actual_any (f t : Int) (w : World) (h0 : 0 ≤ f) (h1 : t ≤ 73048) (hft : f ≤ t) : Calls Try.prog 31 #[.int .i64 f, .int .i64 t] w fun e w' => e = .returned (.int .i64 (act t - act f)) ∧ Below w.heap.size w w' := by
  have af := act_bd f h0 (by omega)
  go_enter Try.func31, Try.ntmps31
  go_wp2_with fail
  go_loopw [0, 5] (fun x s wr => ∃ q : Int, f ≤ q ∧ q ≤ t ∧ x = .int .i64 q ∧ s = .int .i64 (act q - act f) ∧ Below w.heap.size w wr) (fun x _ _ => (t - intOf x).toNat)
  case atStart => exact ⟨f, by omega, hft, rfl, by rw [Int.sub_self], Below.refl _ _⟩
  case round =>
    obtain ⟨q, hq0, hq1, rfl, rfl, hbe⟩ := hrel
    have aq := act_bd q (by omega) (by omega)
    have cq := civ_bd q (by omega) (by omega)
    by_cases hlt : q < t
    · obtain ⟨v, hv, hw, hcase⟩ := act_step q t (by omega) h1 hlt
      have HW := Lib.hid hw
      clear hw
      rcases hcase with ⟨hd, c2, c3, ha⟩ | ⟨hd, c2, c3, ha⟩ | ⟨hd, ha⟩
      · have HA := Lib.hid ha
        have HD := Lib.hid hd
        clear ha hd
        rcases hv with hv | hv <;> subst hv
        all_goals
          go_wp2_with fail
          refine (civil_any _ _ (by omega) (by omega)).mono ?_
          rintro e w1 ⟨rfl, hb1⟩
          go_wp2_with fail
          refine (day_first _ _ HD.out).mono ?_
          rintro e w2 ⟨rfl, hb2⟩
          go_wp2_with fail
          refine (weight_at _ _ _ _ HW.out).mono ?_
          rintro e w3 ⟨rfl, hb3⟩
          go_wp2_with fail
          go_roundw
          case rel => exact ⟨_, by omega, c2, rfl, by rw [HA.out]; go_num, bstep (bstep (bstep hbe hbe.size hb1) (Nat.le_trans hbe.size hb1.size) hb2) (Nat.le_trans (Nat.le_trans hbe.size hb1.size) hb2.size) hb3⟩
          case measure => simp [intOf]; omega
      · have HA := Lib.hid ha
        have HD := Lib.hid hd
        clear ha hd
        rcases hv with hv | hv <;> subst hv
        all_goals
          go_wp2_with fail
          refine (civil_any _ _ (by omega) (by omega)).mono ?_
          rintro e w1 ⟨rfl, hb1⟩
          go_wp2_with fail
          refine (day_first _ _ HD.out).mono ?_
          rintro e w2 ⟨rfl, hb2⟩
          go_wp2_with fail
          refine (weight_at _ _ _ _ HW.out).mono ?_
          rintro e w3 ⟨rfl, hb3⟩
          go_wp2_with fail
          go_roundw
          case rel => exact ⟨t, by omega, by omega, rfl, by rw [HA.out]; go_num, bstep (bstep (bstep hbe hbe.size hb1) (Nat.le_trans hbe.size hb1.size) hb2) (Nat.le_trans (Nat.le_trans hbe.size hb1.size) hb2.size) hb3⟩
          case measure => simp [intOf]; omega
      · have HA := Lib.hid ha
        have HD := Lib.hid hd
        clear ha hd
        rcases hv with hv | hv <;> subst hv
        all_goals
          go_wp2_with fail
          refine (civil_any _ _ (by omega) (by omega)).mono ?_
          rintro e w1 ⟨rfl, hb1⟩
          go_wp2_with fail
          refine (day_no _ _ _ _ HD.out).mono ?_
          rintro e w2 ⟨rfl, hb2⟩
          go_wp2_with fail
          refine (weight_at _ _ _ _ HW.out).mono ?_
          rintro e w3 ⟨rfl, hb3⟩
          go_wp2_with fail
          go_roundw
          case rel => exact ⟨t, by omega, by omega, rfl, by rw [HA.out]; go_num, bstep (bstep (bstep hbe hbe.size hb1) (Nat.le_trans hbe.size hb1.size) hb2) (Nat.le_trans (Nat.le_trans hbe.size hb1.size) hb2.size) hb3⟩
          case measure => simp [intOf]; omega
    · have e : q = t := by omega
      subst e
      clear hlt
      go_wp2_with fail
      go_ret
      exact ⟨rfl, hbe⟩

end Go.Proofs.Ytjhhjpcljcnkaaa.Dt
