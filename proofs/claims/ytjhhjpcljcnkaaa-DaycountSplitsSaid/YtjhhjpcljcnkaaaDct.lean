/-
  The contracts of daycount.Sum and of the reference's Sum: the same number, for every argument.
-/
import Derived.Test.YtjhhjpcljcnkaaaDcs
namespace Go.Proofs.Ytjhhjpcljcnkaaa.Dt
open Go.RowKit
open Go.Proofs.Ytjhhjpcljcnkaaa.Cal

theorem bvalid_yes (b : Int) (w : World) (h0 : 1 ≤ b) (h1 : b ≤ 4) : Calls Try.prog 10 #[.int .i64 b] w fun e w' => e = .returned (.bool true) ∧ w = w' := by
  go_enter Try.func10, Try.ntmps10
  go_wp2
  go_ret
  exact ⟨rfl, rfl⟩
theorem bvalid_no (b : Int) (w : World) (h : b < 1 ∨ 4 < b) : Calls Try.prog 10 #[.int .i64 b] w fun e w' => e = .returned (.bool false) ∧ w = w' := by
  rcases h with h | h
  · go_enter Try.func10, Try.ntmps10
    go_wp2
    go_ret
    exact ⟨rfl, rfl⟩
  · go_enter Try.func10, Try.ntmps10
    go_wp2
    go_ret
    exact ⟨ret_bool (by simp; omega), rfl⟩
theorem rbvalid_yes (b : Int) (w : World) (h0 : 1 ≤ b) (h1 : b ≤ 4) : Calls Try.prog 11 #[.int .i64 b] w fun e w' => e = .returned (.bool true) ∧ w = w' := by
  go_enter Try.func11, Try.ntmps11
  go_wp2
  go_ret
  exact ⟨rfl, rfl⟩
theorem rbvalid_no (b : Int) (w : World) (h : b < 1 ∨ 4 < b) : Calls Try.prog 11 #[.int .i64 b] w fun e w' => e = .returned (.bool false) ∧ w = w' := by
  rcases h with h | h
  · go_enter Try.func11, Try.ntmps11
    go_wp2
    go_ret
    exact ⟨rfl, rfl⟩
  · go_enter Try.func11, Try.ntmps11
    go_wp2
    go_ret
    exact ⟨ret_bool (by simp; omega), rfl⟩

theorem sum_no (b f t : Int) (w : World) (hn : ¬ ((1 ≤ b ∧ b ≤ 4) ∧ 0 ≤ f ∧ f ≤ t ∧ t ≤ 73048)) : Calls Try.prog 18 #[.int .i64 b, .int .i64 f, .int .i64 t] w fun e w' => e = .returned (.int .i64 0) ∧ Below w.heap.size w w' := by
  by_cases hb : 1 ≤ b ∧ b ≤ 4
  · by_cases hf : 0 ≤ f ∧ f ≤ 73048
    · by_cases ht : 0 ≤ t ∧ t ≤ 73048
      · have hlt : t < f := by omega
        clear hn
        go_enter Try.func18, Try.ntmps18
        go_wp2_with fail
        refine (bvalid_yes _ _ hb.1 hb.2).mono ?_
        rintro e w' ⟨rfl, rfl⟩
        go_wp2_with fail
        refine (valid_yes _ _ hf.1 hf.2).mono ?_
        rintro e w' ⟨rfl, rfl⟩
        go_wp2_with fail
        refine (valid_yes _ _ ht.1 ht.2).mono ?_
        rintro e w' ⟨rfl, rfl⟩
        go_wp2_with fail
        go_ret
        exact ⟨rfl, Below.refl _ _⟩
      · have ht' := val_of_not ht
        clear hn ht
        go_enter Try.func18, Try.ntmps18
        go_wp2_with fail
        refine (bvalid_yes _ _ hb.1 hb.2).mono ?_
        rintro e w' ⟨rfl, rfl⟩
        go_wp2_with fail
        refine (valid_yes _ _ hf.1 hf.2).mono ?_
        rintro e w' ⟨rfl, rfl⟩
        go_wp2_with fail
        refine (valid_no _ _ ht').mono ?_
        rintro e w' ⟨rfl, rfl⟩
        go_wp2_with fail
        go_ret
        exact ⟨rfl, Below.refl _ _⟩
    · have hf' := val_of_not hf
      clear hn hf
      go_enter Try.func18, Try.ntmps18
      go_wp2_with fail
      refine (bvalid_yes _ _ hb.1 hb.2).mono ?_
      rintro e w' ⟨rfl, rfl⟩
      go_wp2_with fail
      refine (valid_no _ _ hf').mono ?_
      rintro e w' ⟨rfl, rfl⟩
      go_wp2_with fail
      go_ret
      exact ⟨rfl, Below.refl _ _⟩
  · have hb' : b < 1 ∨ 4 < b := by omega
    clear hn hb
    go_enter Try.func18, Try.ntmps18
    go_wp2_with fail
    refine (bvalid_no _ _ hb').mono ?_
    rintro e w' ⟨rfl, rfl⟩
    go_wp2_with fail
    go_ret
    exact ⟨rfl, Below.refl _ _⟩

set_option maxHeartbeats 800000 in
theorem sum_yes (b f t : Int) (w : World) (h : (1 ≤ b ∧ b ≤ 4) ∧ 0 ≤ f ∧ f ≤ t ∧ t ≤ 73048) : Calls Try.prog 18 #[.int .i64 b, .int .i64 f, .int .i64 t] w fun e w' => e = .returned (.int .i64 (cw b t - cw b f)) ∧ Below w.heap.size w w' := by
  obtain ⟨⟨hb0, hb1⟩, h0, hft, h1⟩ := h
  have tb := thi_bd f t
  by_cases c4 : b = 4
  · subst c4
    have e : cw 4 t - cw 4 f = thi f t * 4453 := by rw [thi_in (by omega)]; simp only [cw]; simp; omega
    rw [e]
    clear e
    go_enter Try.func18, Try.ntmps18
    go_wp2_with fail
    refine (bvalid_yes _ _ hb0 hb1).mono ?_
    rintro e w' ⟨rfl, rfl⟩
    go_wp2_with fail
    refine (valid_yes _ _ h0 (by omega)).mono ?_
    rintro e w' ⟨rfl, rfl⟩
    go_wp2_with fail
    refine (valid_yes _ _ (by omega) h1).mono ?_
    rintro e w' ⟨rfl, rfl⟩
    go_wp2_with fail
    refine (thirty_any _ _ _).mono ?_
    rintro e w1 ⟨rfl, hb1⟩
    go_wp2_with fail
    go_ret
    exact ⟨rfl, hb1⟩
  by_cases c3 : b = 3
  · subst c3
    have e : cw 3 t - cw 3 f = act t - act f := by simp [cw]
    rw [e]
    clear e
    go_enter Try.func18, Try.ntmps18
    go_wp2_with fail
    refine (bvalid_yes _ _ hb0 hb1).mono ?_
    rintro e w' ⟨rfl, rfl⟩
    go_wp2_with fail
    refine (valid_yes _ _ h0 (by omega)).mono ?_
    rintro e w' ⟨rfl, rfl⟩
    go_wp2_with fail
    refine (valid_yes _ _ (by omega) h1).mono ?_
    rintro e w' ⟨rfl, rfl⟩
    go_wp2_with fail
    refine (actual_any _ _ _ h0 h1 hft).mono ?_
    rintro e w1 ⟨rfl, hb1⟩
    go_wp2_with fail
    go_ret
    exact ⟨rfl, hb1⟩
  have hb : b = 1 ∨ b = 2 := by omega
  rcases hb with hb | hb <;> subst hb
  · have e : cw 1 t - cw 1 f = (t - f) * 4453 := by simp only [cw]; simp; omega
    have e2 := Lib.hid (show wei 1 f = 4453 by rw [wei_in h0 (by omega)]; simp [wgt])
    rw [e]
    clear e c3 c4
    go_enter Try.func18, Try.ntmps18
    go_wp2_with fail
    refine (bvalid_yes _ _ hb0 hb1).mono ?_
    rintro e w' ⟨rfl, rfl⟩
    go_wp2_with fail
    refine (valid_yes _ _ h0 (by omega)).mono ?_
    rintro e w' ⟨rfl, rfl⟩
    go_wp2_with fail
    refine (valid_yes _ _ (by omega) h1).mono ?_
    rintro e w' ⟨rfl, rfl⟩
    go_wp2_with fail
    refine (weight_at _ _ _ _ e2.out).mono ?_
    rintro e w1 ⟨rfl, hb1⟩
    go_wp2_with fail
    go_ret
    exact ⟨rfl, hb1⟩
  · have e : cw 2 t - cw 2 f = (t - f) * 4392 := by simp only [cw]; simp; omega
    have e2 := Lib.hid (show wei 2 f = 4392 by rw [wei_in h0 (by omega)]; simp [wgt])
    rw [e]
    clear e c3 c4
    go_enter Try.func18, Try.ntmps18
    go_wp2_with fail
    refine (bvalid_yes _ _ hb0 hb1).mono ?_
    rintro e w' ⟨rfl, rfl⟩
    go_wp2_with fail
    refine (valid_yes _ _ h0 (by omega)).mono ?_
    rintro e w' ⟨rfl, rfl⟩
    go_wp2_with fail
    refine (valid_yes _ _ (by omega) h1).mono ?_
    rintro e w' ⟨rfl, rfl⟩
    go_wp2_with fail
    refine (weight_at _ _ _ _ e2.out).mono ?_
    rintro e w1 ⟨rfl, hb1⟩
    go_wp2_with fail
    go_ret
    exact ⟨rfl, hb1⟩

theorem sum_any (b f t : Int) (w : World) : Calls Try.prog 18 #[.int .i64 b, .int .i64 f, .int .i64 t] w fun e w' => e = .returned (.int .i64 (sumv b f t)) ∧ Below w.heap.size w w' := by
  by_cases h : (1 ≤ b ∧ b ≤ 4) ∧ 0 ≤ f ∧ f ≤ t ∧ t ≤ 73048
  · rw [sumv_in h]; exact sum_yes b f t w h
  · rw [sumv_out h]; exact sum_no b f t w h

/-- The sum of the weights up to a day, of any basis. -/
noncomputable def cwx (b d : Int) : Int := if 1 ≤ b ∧ b ≤ 4 then cw b d else 0
theorem cwx_bd (b d : Int) (h0 : 0 ≤ d) (h1 : d ≤ 73048) : 0 ≤ cwx b d ∧ cwx b d ≤ 4000000000 := by
  unfold cwx; split
  · exact cw_bd b d h0 h1
  · omega
theorem cwx_step (b d : Int) (h0 : 0 ≤ d) (h1 : d + 1 ≤ 73048) : cwx b (d + 1) = cwx b d + wei b d := by
  rw [wei_in h0 (by omega)]
  unfold cwx
  by_cases h : 1 ≤ b ∧ b ≤ 4
  · simp only [if_pos h]; rw [wgt_cw b d h h0 h1]; omega
  · simp only [if_neg h]
    have c1 : ¬ b = 1 := by omega
    have c2 : ¬ b = 2 := by omega
    have c3 : ¬ b = 3 := by omega
    have c4 : ¬ b = 4 := by omega
    simp [wgt, c1, c2, c3, c4]
theorem sumv_cwx (b f t : Int) (h0 : 0 ≤ f) (hft : f ≤ t) (h1 : t ≤ 73048) : sumv b f t = cwx b t - cwx b f := by
  unfold cwx
  by_cases h : 1 ≤ b ∧ b ≤ 4
  · rw [sumv_in ⟨h, h0, hft, h1⟩, if_pos h, if_pos h]
  · rw [sumv_out (by omega), if_neg h, if_neg h]; rfl

set_option maxHeartbeats 800000 in
theorem rsum_any (b f t : Int) (w : World) : Calls Try.prog 19 #[.int .i64 b, .int .i64 f, .int .i64 t] w fun e w' => e = .returned (.int .i64 (sumv b f t)) ∧ w = w' := by
  by_cases hf : 0 ≤ f ∧ f ≤ 73048
  · by_cases ht : 0 ≤ t ∧ t ≤ 73048
    · by_cases hft : f ≤ t
      · rw [sumv_cwx b f t hf.1 hft ht.2]
        have bf := cwx_bd b f hf.1 hf.2
        go_enter Try.func19, Try.ntmps19
        go_wp2_with fail
        refine (rvalid_yes _ _ hf.1 hf.2).mono ?_
        rintro e w' ⟨rfl, rfl⟩
        go_wp2_with fail
        refine (rvalid_yes _ _ ht.1 ht.2).mono ?_
        rintro e w' ⟨rfl, rfl⟩
        go_wp2_with fail
        go_loop [7, 8] (fun n i => ∃ q : Int, f ≤ q ∧ q ≤ t ∧ n = .int .i64 (cwx b q - cwx b f) ∧ i = .int .i64 q) (fun _ i => (t - intOf i).toNat)
        case atStart => exact ⟨f, by omega, hft, by rw [Int.sub_self], rfl⟩
        case round =>
          obtain ⟨q, hq0, hq1, rfl, rfl⟩ := hrel
          have bq := cwx_bd b q (by omega) (by omega)
          by_cases hlt : q < t
          · have wb := wgt_bd b q (by omega) (by omega)
            rw [← wei_in (by omega) (by omega)] at wb
            have cs := Lib.hid (cwx_step b q (by omega) (by omega))
            go_wp2_with fail
            refine (rweight_any _ _ _).mono ?_
            rintro e w' ⟨rfl, rfl⟩
            go_wp2_with fail
            go_round
            case rel => exact ⟨q + 1, by omega, by omega, by rw [cs.out]; go_num, by go_num⟩
            case measure => simp [intOf]; omega
          · have e : q = t := by omega
            subst e
            clear hlt
            go_wp2_with fail
            go_ret
            exact ⟨rfl, rfl⟩
      · rw [sumv_out (by omega)]
        go_enter Try.func19, Try.ntmps19
        go_wp2_with fail
        refine (rvalid_yes _ _ hf.1 hf.2).mono ?_
        rintro e w' ⟨rfl, rfl⟩
        go_wp2_with fail
        refine (rvalid_yes _ _ ht.1 ht.2).mono ?_
        rintro e w' ⟨rfl, rfl⟩
        go_wp2_with fail
        go_loop [7, 8] (fun n i => n = .int .i64 0 ∧ i = .int .i64 f) (fun _ _ => 0)
        case atStart => exact ⟨rfl, rfl⟩
        case round =>
          obtain ⟨rfl, rfl⟩ := hrel
          go_wp2_with fail
          go_ret
          exact ⟨rfl, rfl⟩
    · have ht' := val_of_not ht
      rw [sumv_out (by omega)]
      clear ht
      go_enter Try.func19, Try.ntmps19
      go_wp2_with fail
      refine (rvalid_yes _ _ hf.1 hf.2).mono ?_
      rintro e w' ⟨rfl, rfl⟩
      go_wp2_with fail
      refine (rvalid_no _ _ ht').mono ?_
      rintro e w' ⟨rfl, rfl⟩
      go_wp2_with fail
      go_ret
      exact ⟨rfl, rfl⟩
  · have hf' := val_of_not hf
    rw [sumv_out (by omega)]
    clear hf
    go_enter Try.func19, Try.ntmps19
    go_wp2_with fail
    refine (rvalid_no _ _ hf').mono ?_
    rintro e w' ⟨rfl, rfl⟩
    go_wp2_with fail
    go_ret
    exact ⟨rfl, rfl⟩

end Go.Proofs.Ytjhhjpcljcnkaaa.Dt
