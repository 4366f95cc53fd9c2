/-
  The contracts of the functions of package daycount that compute with days alone, and of the reference's.
-/
import Derived.Test.YtjmgahdjojdanaaDoorDate4
import Derived.Test.YtjmgahdjojdanaaDoorDcm
namespace Go.Proofs.YtjmgahdjojdanaaDoor.Dt
open Go.RowKit
open Go.Proofs.YtjmgahdjojdanaaDoor.Cal

/-- A value that is no day. -/
theorem val_of_not {d : Int} (h : ¬ (0 ≤ d ∧ d ≤ 73048)) : d < 0 ∨ 73048 < d := by omega

theorem thirty_any (f t : Int) (w : World) : Calls Tryd.prog 66 #[.int .i64 f, .int .i64 t] w fun e w' => e = .returned (.int .i64 (thi f t)) ∧ Below w.heap.size w w' := by
  by_cases hf : 0 ≤ f ∧ f ≤ 73048
  · by_cases ht : 0 ≤ t ∧ t ≤ 73048
    · rw [thi_in ⟨hf, ht⟩]
      have cf := civ_bd f hf.1 hf.2
      have ct := civ_bd t ht.1 ht.2
      unfold u30
      go_enter Tryd.func66, Tryd.ntmps66
      go_wp2_with (go_at_call 63; refine (valid_yes _ _ (by omega) (by omega)).mono ?_; rintro e w' ⟨rfl, rfl⟩)
      refine (civil_any _ _ hf.1 hf.2).mono ?_
      rintro e w1 ⟨rfl, hb1⟩
      go_wp2_with fail
      refine (civil_any _ _ ht.1 ht.2).mono ?_
      rintro e w2 ⟨rfl, hb2⟩
      go_wp2_with fail
      all_goals (go_ret; exact ⟨ret_int (by omega), bstep hb1 hb1.size hb2⟩)
    · have ht' := val_of_not ht
      rw [thi_out (by omega)]
      clear ht
      go_enter Tryd.func66, Tryd.ntmps66
      go_wp2_with fail
      refine (valid_yes _ _ hf.1 hf.2).mono ?_
      rintro e w' ⟨rfl, rfl⟩
      go_wp2_with fail
      refine (valid_no _ _ ht').mono ?_
      rintro e w' ⟨rfl, rfl⟩
      go_wp2_with fail
      go_ret
      exact ⟨rfl, Below.refl _ _⟩
  · have hf' := val_of_not hf
    rw [thi_out (by omega)]
    clear hf
    go_enter Tryd.func66, Tryd.ntmps66
    go_wp2_with fail
    refine (valid_no _ _ hf').mono ?_
    rintro e w' ⟨rfl, rfl⟩
    go_wp2_with fail
    go_ret
    exact ⟨rfl, Below.refl _ _⟩

theorem rthirty_any (f t : Int) (w : World) : Calls Tryd.prog 76 #[.int .i64 f, .int .i64 t] w fun e w' => e = .returned (.int .i64 (thi f t)) ∧ w = w' := by
  by_cases hf : 0 ≤ f ∧ f ≤ 73048
  · by_cases ht : 0 ≤ t ∧ t ≤ 73048
    · rw [thi_in ⟨hf, ht⟩]
      have cf := civ_bd f hf.1 hf.2
      have ct := civ_bd t ht.1 ht.2
      unfold u30
      go_enter Tryd.func76, Tryd.ntmps76
      go_wp2_with (go_at_call 35; refine (rvalid_yes _ _ (by omega) (by omega)).mono ?_; rintro e w' ⟨rfl, rfl⟩)
      refine (rcivil_any _ _ hf.1 hf.2).mono ?_
      rintro e w' ⟨rfl, rfl⟩
      go_wp2_with fail
      refine (rcivil_any _ _ ht.1 ht.2).mono ?_
      rintro e w' ⟨rfl, rfl⟩
      go_wp2_with fail
      all_goals (go_ret; exact ⟨ret_int (by omega), rfl⟩)
    · have ht' := val_of_not ht
      rw [thi_out (by omega)]
      clear ht
      go_enter Tryd.func76, Tryd.ntmps76
      go_wp2_with fail
      refine (rvalid_yes _ _ hf.1 hf.2).mono ?_
      rintro e w' ⟨rfl, rfl⟩
      go_wp2_with fail
      refine (rvalid_no _ _ ht').mono ?_
      rintro e w' ⟨rfl, rfl⟩
      go_wp2_with fail
      go_ret
      exact ⟨rfl, rfl⟩
  · have hf' := val_of_not hf
    rw [thi_out (by omega)]
    clear hf
    go_enter Tryd.func76, Tryd.ntmps76
    go_wp2_with fail
    refine (rvalid_no _ _ hf').mono ?_
    rintro e w' ⟨rfl, rfl⟩
    go_wp2_with fail
    go_ret
    exact ⟨rfl, rfl⟩

theorem thi_next {d : Int} (h0 : 0 ≤ d) (h1 : d ≤ 73048) : thi d (d + 1) * 4453 = (if d + 1 ≤ 73048 then 4453 * (u30 (d + 1) - u30 d) else 0) := by
  by_cases c : d + 1 ≤ 73048
  · rw [thi_in (by omega), if_pos c]; omega
  · rw [thi_out (by omega), if_neg c]; rfl
theorem thi_bd (f t : Int) : -100000 ≤ thi f t ∧ thi f t ≤ 100000 := by
  unfold thi; split
  · next h => have := u30_bd f h.1.1 h.1.2; have := u30_bd t h.2.1 h.2.2; omega
  · omega

set_option maxHeartbeats 800000 in
theorem weight_any (b d : Int) (w : World) : Calls Tryd.prog 32 #[.int .i64 b, .int .i64 d] w fun e w' => e = .returned (.int .i64 (wei b d)) ∧ Below w.heap.size w w' := by
  by_cases hd : 0 ≤ d ∧ d ≤ 73048
  · obtain ⟨h0, h1⟩ := hd
    rw [wei_in h0 h1]
    have cf := civ_bd d h0 h1
    have tb := thi_bd d (d + 1)
    by_cases c3 : b = 3
    · subst c3
      rcases wt_01 (cy d) with ⟨hl, hw⟩ | ⟨hl, hw⟩
      all_goals
        have e1 : wgt 3 d = wt (cy d) := by simp [wgt]
        rw [e1, hw]
        have HL := Lib.hid hl
        clear e1 hw hl
        go_enter Tryd.func32, Tryd.ntmps32
        go_wp2_with fail
        refine (valid_yes _ _ h0 h1).mono ?_
        rintro e w' ⟨rfl, rfl⟩
        go_wp2_with fail
        refine (civil_any _ _ h0 h1).mono ?_
        rintro e w1 ⟨rfl, hb1⟩
        go_wp2_with fail
        refine (leap_any _ _ (by omega)).mono ?_
        rw [HL.out]
        rintro e w' ⟨rfl, rfl⟩
        go_wp2_with fail
        go_ret
        exact ⟨rfl, hb1⟩
    by_cases c2 : b = 2
    · subst c2
      have e1 : wgt 2 d = 4392 := by simp [wgt]
      rw [e1]
      clear e1
      go_enter Tryd.func32, Tryd.ntmps32
      go_wp2_with fail
      refine (valid_yes _ _ h0 h1).mono ?_
      rintro e w' ⟨rfl, rfl⟩
      go_wp2_with fail
      refine (civil_any _ _ h0 h1).mono ?_
      rintro e w1 ⟨rfl, hb1⟩
      go_wp2_with fail
      go_ret
      exact ⟨rfl, hb1⟩
    by_cases c4 : b = 4
    · subst c4
      have e1 : wgt 4 d = thi d (d + 1) * 4453 := by rw [thi_next h0 h1]; simp [wgt]
      rw [e1]
      clear e1
      go_enter Tryd.func32, Tryd.ntmps32
      go_wp2_with fail
      refine (valid_yes _ _ h0 h1).mono ?_
      rintro e w' ⟨rfl, rfl⟩
      go_wp2_with fail
      refine (civil_any _ _ h0 h1).mono ?_
      rintro e w1 ⟨rfl, hb1⟩
      go_wp2_with fail
      refine (thirty_any _ _ _).mono ?_
      rintro e w2 ⟨rfl, hb2⟩
      go_wp2_with fail
      go_ret
      exact ⟨rfl, bstep hb1 hb1.size hb2⟩
    by_cases c1 : b = 1
    · subst c1
      have e1 : wgt 1 d = 4453 := by simp [wgt]
      rw [e1]
      clear e1
      go_enter Tryd.func32, Tryd.ntmps32
      go_wp2_with fail
      refine (valid_yes _ _ h0 h1).mono ?_
      rintro e w' ⟨rfl, rfl⟩
      go_wp2_with fail
      refine (civil_any _ _ h0 h1).mono ?_
      rintro e w1 ⟨rfl, hb1⟩
      go_wp2_with fail
      go_ret
      exact ⟨rfl, hb1⟩
    have e1 : wgt b d = 0 := by simp [wgt, c1, c2, c3, c4]
    rw [e1]
    clear e1
    have k1 : (b == 1) = false := by simpa using c1
    have k2 : (b == 2) = false := by simpa using c2
    have k3 : (b == 3) = false := by simpa using c3
    have k4 : (b == 4) = false := by simpa using c4
    clear c1 c2 c3 c4
    go_enter Tryd.func32, Tryd.ntmps32
    go_wp2_with fail
    refine (valid_yes _ _ h0 h1).mono ?_
    rintro e w' ⟨rfl, rfl⟩
    go_wp2_with fail
    refine (civil_any _ _ h0 h1).mono ?_
    rintro e w1 ⟨rfl, hb1⟩
    go_wp2_with fail
    go_ret
    exact ⟨rfl, hb1⟩
  · have hd' := val_of_not hd
    rw [wei_out hd']
    clear hd
    go_enter Tryd.func32, Tryd.ntmps32
    go_wp2_with fail
    refine (valid_no _ _ hd').mono ?_
    rintro e w' ⟨rfl, rfl⟩
    go_wp2_with fail
    go_ret
    exact ⟨rfl, Below.refl _ _⟩

set_option maxHeartbeats 800000 in
theorem rweight_any (b d : Int) (w : World) : Calls Tryd.prog 37 #[.int .i64 b, .int .i64 d] w fun e w' => e = .returned (.int .i64 (wei b d)) ∧ w = w' := by
  by_cases hd : 0 ≤ d ∧ d ≤ 73048
  · obtain ⟨h0, h1⟩ := hd
    rw [wei_in h0 h1]
    have cf := civ_bd d h0 h1
    have tb := thi_bd d (d + 1)
    by_cases c3 : b = 3
    · subst c3
      rcases wt_01 (cy d) with ⟨hl, hw⟩ | ⟨hl, hw⟩
      all_goals
        have e1 : wgt 3 d = wt (cy d) := by simp [wgt]
        rw [e1, hw]
        have HL := Lib.hid hl
        clear e1 hw hl
        go_enter Tryd.func37, Tryd.ntmps37
        go_wp2_with fail
        refine (rvalid_yes _ _ h0 h1).mono ?_
        rintro e w' ⟨rfl, rfl⟩
        go_wp2_with fail
        refine (rcivil_any _ _ h0 h1).mono ?_
        rintro e w' ⟨rfl, rfl⟩
        go_wp2_with fail
        refine (rleap_any _ _ (by omega)).mono ?_
        rw [HL.out]
        rintro e w' ⟨rfl, rfl⟩
        go_wp2_with fail
        go_ret
        exact ⟨rfl, rfl⟩
    by_cases c4 : b = 4
    · subst c4
      have e1 : wgt 4 d = 4453 * thi d (d + 1) := by have := thi_next h0 h1; rw [Int.mul_comm, this]; simp [wgt]
      rw [e1]
      clear e1
      go_enter Tryd.func37, Tryd.ntmps37
      go_wp2_with fail
      refine (rvalid_yes _ _ h0 h1).mono ?_
      rintro e w' ⟨rfl, rfl⟩
      go_wp2_with fail
      refine (rthirty_any _ _ _).mono ?_
      rintro e w' ⟨rfl, rfl⟩
      go_wp2_with fail
      go_ret
      exact ⟨rfl, rfl⟩
    by_cases c2 : b = 2
    · subst c2
      have e1 : wgt 2 d = 4392 := by simp [wgt]
      rw [e1]
      clear e1
      go_enter Tryd.func37, Tryd.ntmps37
      go_wp2_with fail
      refine (rvalid_yes _ _ h0 h1).mono ?_
      rintro e w' ⟨rfl, rfl⟩
      go_wp2_with fail
      go_ret
      exact ⟨rfl, rfl⟩
    by_cases c1 : b = 1
    · subst c1
      have e1 : wgt 1 d = 4453 := by simp [wgt]
      rw [e1]
      clear e1
      go_enter Tryd.func37, Tryd.ntmps37
      go_wp2_with fail
      refine (rvalid_yes _ _ h0 h1).mono ?_
      rintro e w' ⟨rfl, rfl⟩
      go_wp2_with fail
      go_ret
      exact ⟨rfl, rfl⟩
    have e1 : wgt b d = 0 := by simp [wgt, c1, c2, c3, c4]
    rw [e1]
    clear e1
    have k1 : (b == 1) = false := by simpa using c1
    have k2 : (b == 2) = false := by simpa using c2
    have k3 : (b == 3) = false := by simpa using c3
    have k4 : (b == 4) = false := by simpa using c4
    clear c1 c2 c3 c4
    go_enter Tryd.func37, Tryd.ntmps37
    go_wp2_with fail
    refine (rvalid_yes _ _ h0 h1).mono ?_
    rintro e w' ⟨rfl, rfl⟩
    go_wp2_with fail
    go_ret
    exact ⟨rfl, rfl⟩
  · have hd' := val_of_not hd
    rw [wei_out hd']
    clear hd
    go_enter Tryd.func37, Tryd.ntmps37
    go_wp2_with fail
    refine (rvalid_no _ _ hd').mono ?_
    rintro e w' ⟨rfl, rfl⟩
    go_wp2_with fail
    go_ret
    exact ⟨rfl, rfl⟩

end Go.Proofs.YtjmgahdjojdanaaDoor.Dt
