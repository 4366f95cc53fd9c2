/-
  The contracts of the reference's Civil, and of Day, the program's and the reference's.
-/
import Derived.Test.YtmdjikmpgckpbaaDoorDate3
namespace Go.Proofs.YtmdjikmpgckpbaaDoor.Dt
open Go.RowKit
open Go.Proofs.YtmdjikmpgckpbaaDoor.Cal

theorem year_upr (d y : Int) (hy0 : 2000 ≤ y) (h1 : d ≤ 73048) (hy : y ≤ 2199) (h : 365 + lp y ≤ d - begin_ y) : y + 1 ≤ 2199 ∧ begin_ (y + 1) ≤ d := by
  have := begin_succ y hy0 hy
  have h' : begin_ (y + 1) ≤ d := by omega
  exact ⟨year_up d y h1 hy h', h'⟩

set_option maxHeartbeats 800000 in
theorem rcivil_any (d : Int) (w : World) (h0 : 0 ≤ d) (h1 : d ≤ 73048) : Calls Tryd.prog 39 #[.int .i64 d] w fun e w' => e = .returned (.tuple #[.int .i64 (cy d), .int .i64 (cm d), .int .i64 (ck d)]) ∧ w = w' := by
  go_enter Tryd.func39, Tryd.ntmps39
  go_wp2_with (go_at_call 32; refine (rvalid_yes d _ h0 h1).mono ?_; rintro e w' ⟨rfl, rfl⟩)
  go_loop [0, 5] (fun r t => ∃ y : Int, 2000 ≤ y ∧ y ≤ 2199 ∧ begin_ y ≤ d ∧ r = .int .i64 (d - begin_ y) ∧ t = .int .i64 y) (fun _ t => (2199 - intOf t).toNat)
  case atStart => exact ⟨2000, by omega, by omega, by rw [begin_0]; omega, by rw [begin_0]; go_num, rfl⟩
  case round =>
    obtain ⟨y, hy0, hy1, hy2, rfl, rfl⟩ := hrel
    have lb := lp_bd y
    have hbb := begin_bd y hy0 (by omega)
    have bs := Lib.hid (begin_succ y hy0 hy1)
    by_cases hc : 365 + lp y ≤ d - begin_ y
    · obtain ⟨hy3, hy4⟩ := year_upr d y hy0 h1 hy1 hc
      go_wp2_with (go_at_call 59; refine (ylen_any _ _ (by omega)).mono ?_; rintro e w' ⟨rfl, rfl⟩)
      go_round
      case rel => exact ⟨y + 1, by omega, hy3, hy4, by rw [bs.out]; go_num, by go_num⟩
      case measure => simp [intOf]; omega
    · have hc' : d - begin_ y < 365 + lp y := by omega
      have h13 : d - begin_ y < cum y 13 := by rw [cum_13]; exact hc'
      clear hc
      go_wp2_with (go_at_call 59; refine (ylen_any _ _ (by omega)).mono ?_; rintro e w' ⟨rfl, rfl⟩)
      go_loop [0, 6] (fun r k => ∃ m : Int, 1 ≤ m ∧ m ≤ 12 ∧ 0 ≤ d - begin_ y - cum y m ∧ r = .int .i64 (d - begin_ y - cum y m) ∧ k = .int .i64 m) (fun _ k => (12 - intOf k).toNat)
      case atStart => exact ⟨1, by omega, by omega, by rw [cum_1]; omega, by rw [cum_1]; go_num, rfl⟩
      case round =>
        obtain ⟨m, hm0, hm1, hr, rfl, rfl⟩ := hrel
        have ml := mlen_bd y m hm0 hm1
        have cs := Lib.hid (cum_succ y m)
        have cb := cum_bd y m hm0 (by omega)
        have rl := rlen_in y m hm0 hm1
        by_cases hc : mlen y m ≤ d - begin_ y - cum y m
        · have hm2 := month_up _ y m h13 hm1 hc
          rw [← rl] at ml hc cs
          have cs' := Lib.hid cs
          clear rl cs
          go_wp2_with (go_at_call 60; refine (rlength_any _ _ _ (by omega)).mono ?_; rintro e w' ⟨rfl, rfl⟩)
          go_round
          case rel => exact ⟨m + 1, by omega, hm2, by rw [cs'.out.out]; omega, by rw [cs'.out.out]; go_num, by go_num⟩
          case measure => simp [intOf]; omega
        · have hc' : d - begin_ y - cum y m < mlen y m := by omega
          clear hc
          have hv := Lib.hid (civ_val (is_of d y m hy0 hy1 hm0 hm1 hr hc'))
          rw [← rl] at ml hc'
          clear rl
          go_wp2_with (go_at_call 60; refine (rlength_any _ _ _ (by omega)).mono ?_; rintro e w' ⟨rfl, rfl⟩)
          go_ret3
          exact ⟨hv.out, rfl⟩

/-- A civil date that is one of a day. -/
def dateOk (y m k : Int) : Prop := 2000 ≤ y ∧ y ≤ 2199 ∧ 1 ≤ m ∧ m ≤ 12 ∧ 1 ≤ k ∧ k ≤ mlen y m

set_option maxHeartbeats 800000 in
theorem day_yes (y m k : Int) (w : World) (hd : dateOk y m k) : Calls Tryd.prog 55 #[.int .i64 y, .int .i64 m, .int .i64 k] w fun e w' => e = .returned (.tuple #[.int .i64 (begin_ y + cum y m + k - 1), .int .i64 0]) ∧ Below w.heap.size w w' := by
  obtain ⟨hy0, hy1, hm0, hm1, hk0, hk1⟩ := hd
  have ml := mlen_bd y m hm0 hm1
  have hbb := begin_bd y hy0 (by omega)
  go_enter Tryd.func55, Tryd.ntmps55
  go_wp2_with fail
  refine (length_any _ _ _ (by omega) hm0 hm1).mono ?_
  rintro e w1 ⟨rfl, hb1⟩
  go_wp2_with (go_at_call 53; refine (begin_any _ _ (by omega) (by omega)).mono ?_; rintro e w' ⟨rfl, rfl⟩)
  go_loopw [8, 9] (fun n i wr => ∃ j : Int, 1 ≤ j ∧ j ≤ m ∧ n = .int .i64 (begin_ y + cum y j + k - 1) ∧ i = .int .i64 j ∧ Below w.heap.size w wr) (fun _ i _ => (m - intOf i).toNat)
  case atStart => exact ⟨1, by omega, hm0, by rw [cum_1]; go_num, rfl, hb1⟩
  case round =>
    obtain ⟨j, hj0, hj1, rfl, rfl, hbe⟩ := hrel
    have cb := cum_bd y j hj0 (by omega)
    have cs := Lib.hid (cum_succ y j)
    by_cases hlt : j < m
    · have ml2 := mlen_bd y j hj0 (by omega)
      go_wp2_with fail
      refine (length_any _ _ _ (by omega) hj0 (by omega)).mono ?_
      rintro e w2 ⟨rfl, hb2⟩
      go_wp2_with fail
      go_roundw
      case rel => exact ⟨j + 1, by omega, by omega, by rw [cs.out]; go_num, by go_num, bstep hbe hbe.size hb2⟩
      case measure => simp [intOf]; omega
    · have hj : j = m := by omega
      subst hj
      go_wp2_with fail
      go_ret2
      exact ⟨rfl, hbe⟩

theorem day_no (y m k : Int) (w : World) (hd : ¬ dateOk y m k) : Calls Tryd.prog 55 #[.int .i64 y, .int .i64 m, .int .i64 k] w fun e w' => e = .returned (.tuple #[.int .i64 0, .int .i64 1]) ∧ Below w.heap.size w w' := by
  by_cases c1 : y < 2000
  · clear hd
    go_enter Tryd.func55, Tryd.ntmps55
    go_wp2_with fail
    go_ret2
    exact ⟨rfl, Below.refl _ _⟩
  have d1 : 2000 ≤ y := by omega
  by_cases c2 : 2199 < y
  · clear hd c1
    go_enter Tryd.func55, Tryd.ntmps55
    go_wp2_with fail
    go_ret2
    exact ⟨rfl, Below.refl _ _⟩
  have d2 : y ≤ 2199 := by omega
  by_cases c3 : m < 1
  · clear hd c1 c2
    go_enter Tryd.func55, Tryd.ntmps55
    go_wp2_with fail
    go_ret2
    exact ⟨rfl, Below.refl _ _⟩
  have d3 : 1 ≤ m := by omega
  by_cases c4 : 12 < m
  · clear hd c1 c2 c3
    go_enter Tryd.func55, Tryd.ntmps55
    go_wp2_with fail
    go_ret2
    exact ⟨rfl, Below.refl _ _⟩
  have d4 : m ≤ 12 := by omega
  by_cases c5 : k < 1
  · clear hd c1 c2 c3 c4
    go_enter Tryd.func55, Tryd.ntmps55
    go_wp2_with fail
    go_ret2
    exact ⟨rfl, Below.refl _ _⟩
  have d5 : 1 ≤ k := by omega
  have d6 : mlen y m < k := by unfold dateOk at hd; omega
  clear hd c1 c2 c3 c4 c5
  go_enter Tryd.func55, Tryd.ntmps55
  go_wp2_with fail
  refine (length_any _ _ _ (by omega) d3 d4).mono ?_
  rintro e w1 ⟨rfl, hb1⟩
  go_wp2_with fail
  go_ret2
  exact ⟨rfl, hb1⟩

set_option maxHeartbeats 800000 in
theorem rday_yes (y m k : Int) (w : World) (hd : dateOk y m k) : Calls Tryd.prog 61 #[.int .i64 y, .int .i64 m, .int .i64 k] w fun e w' => e = .returned (.tuple #[.int .i64 (begin_ y + cum y m + k - 1), .int .i64 0]) ∧ w = w' := by
  obtain ⟨hy0, hy1, hm0, hm1, hk0, hk1⟩ := hd
  have ml := mlen_bd y m hm0 hm1
  have hbb := begin_bd y hy0 (by omega)
  rw [← rlen_in y m hm0 hm1] at ml hk1
  go_enter Tryd.func61, Tryd.ntmps61
  go_wp2_with (go_at_call 60; refine (rlength_any _ _ _ (by omega)).mono ?_; rintro e w' ⟨rfl, rfl⟩)
  go_loop [8, 9] (fun n i => ∃ j : Int, 2000 ≤ j ∧ j ≤ y ∧ n = .int .i64 (begin_ j + k - 1) ∧ i = .int .i64 j) (fun _ i => (y - intOf i).toNat)
  case atStart => exact ⟨2000, by omega, by omega, by rw [begin_0]; go_num, rfl⟩
  case round =>
    obtain ⟨j, hj0, hj1, rfl, rfl⟩ := hrel
    have lb := lp_bd j
    have hbj := begin_bd j hj0 (by omega)
    by_cases hlt : j < y
    · have bs := Lib.hid (begin_succ j hj0 (by omega))
      go_wp2_with (go_at_call 59; refine (ylen_any _ _ (by omega)).mono ?_; rintro e w' ⟨rfl, rfl⟩)
      go_round
      case rel => exact ⟨j + 1, by omega, by omega, by rw [bs.out]; go_num, by go_num⟩
      case measure => simp [intOf]; omega
    · have hj : j = y := by omega
      subst hj
      clear hlt
      go_wp2_with fail
      go_loop [8, 10] (fun n i => ∃ q : Int, 1 ≤ q ∧ q ≤ m ∧ n = .int .i64 (begin_ j + cum j q + k - 1) ∧ i = .int .i64 q) (fun _ i => (m - intOf i).toNat)
      case atStart => exact ⟨1, by omega, hm0, by rw [cum_1]; go_num, rfl⟩
      case round =>
        obtain ⟨q, hq0, hq1, rfl, rfl⟩ := hrel
        have cb := cum_bd j q hq0 (by omega)
        by_cases hlt : q < m
        · have ml2 := mlen_bd j q hq0 (by omega)
          have cs := Lib.hid (cum_succ j q)
          have rl := rlen_in j q hq0 (by omega)
          rw [← rl] at ml2 cs
          have cs' := Lib.hid cs
          clear rl cs
          go_wp2_with (go_at_call 60; refine (rlength_any _ _ _ (by omega)).mono ?_; rintro e w' ⟨rfl, rfl⟩)
          go_round
          case rel => exact ⟨q + 1, by omega, by omega, by rw [cs'.out.out]; go_num, by go_num⟩
          case measure => simp [intOf]; omega
        · have hq : q = m := by omega
          subst hq
          go_wp2_with fail
          go_ret2
          exact ⟨rfl, rfl⟩

theorem rday_no (y m k : Int) (w : World) (hd : ¬ dateOk y m k) : Calls Tryd.prog 61 #[.int .i64 y, .int .i64 m, .int .i64 k] w fun e w' => e = .returned (.tuple #[.int .i64 0, .int .i64 1]) ∧ w = w' := by
  by_cases c1 : y < 2000
  · clear hd
    go_enter Tryd.func61, Tryd.ntmps61
    go_wp2_with fail
    go_ret2
    exact ⟨rfl, rfl⟩
  have d1 : 2000 ≤ y := by omega
  by_cases c2 : 2199 < y
  · clear hd c1
    go_enter Tryd.func61, Tryd.ntmps61
    go_wp2_with fail
    go_ret2
    exact ⟨rfl, rfl⟩
  have d2 : y ≤ 2199 := by omega
  by_cases c5 : k < 1
  · clear hd c1 c2
    go_enter Tryd.func61, Tryd.ntmps61
    go_wp2_with fail
    go_ret2
    exact ⟨rfl, rfl⟩
  have d5 : 1 ≤ k := by omega
  have d6 : rlen y m < k := by
    by_cases c : 1 ≤ m ∧ m ≤ 12
    · rw [rlen_in y m c.1 c.2]; unfold dateOk at hd; omega
    · rw [rlen_out y m (by omega)]; omega
  clear hd c1 c2 c5
  go_enter Tryd.func61, Tryd.ntmps61
  go_wp2_with (go_at_call 60; refine (rlength_any _ _ _ (by omega)).mono ?_; rintro e w' ⟨rfl, rfl⟩)
  go_ret2
  exact ⟨rfl, rfl⟩

end Go.Proofs.YtmdjikmpgckpbaaDoor.Dt
