/-
  The contracts of the reference's Civil, and of Day, the program's and the reference's.
-/
import Derived.Test.YtjmgahdjojdanaaDoorDate3
namespace Go.Proofs.YtjmgahdjojdanaaDoor.Dt
open Go.RowKit
open Go.Proofs.YtjmgahdjojdanaaDoor.Cal

theorem year_upr (d y : Int) (hy0 : 2000 ≤ y) (h1 : d ≤ 73048) (hy : y ≤ 2199) (h : 365 + lp y ≤ d - begin_ y) : y + 1 ≤ 2199 ∧ begin_ (y + 1) ≤ d := by
  have := begin_succ y hy0 hy
  have h' : begin_ (y + 1) ≤ d := by omega
  exact ⟨year_up d y h1 hy h', h'⟩

set_option maxHeartbeats 800000 in
theorem rcivil_any (d : Int) (w : World) (h0 : 0 ≤ d) (h1 : d ≤ 73048) : Calls Tryd.prog 74 #[.int .i64 d] w fun e w' => e = .returned (.tuple #[.int .i64 (cy d), .int .i64 (cm d), .int .i64 (ck d)]) ∧ w = w' := by
  go_enter Tryd.func74, Tryd.ntmps74
  go_wp2_with (go_at_call 35; refine (rvalid_yes d _ h0 h1).mono ?_; rintro e w' ⟨rfl, rfl⟩)
  go_loop [0, 5] (fun r t => ∃ y : Int, 2000 ≤ y ∧ y ≤ 2199 ∧ begin_ y ≤ d ∧ r = .int .i64 (d - begin_ y) ∧ t = .int .i64 y) (fun _ t => (2199 - intOf t).toNat)
  case atStart => exact ⟨2000, by omega, by omega, by rw [begin_0]; omega, by rw [begin_0]; go_num, rfl⟩
  case round =>
    obtain ⟨y, hy0, hy1, hy2, rfl, rfl⟩ := hrel
    have lb := lp_bd y
    have hbb := begin_bd y hy0 (by omega)
    have bs := Lib.hid (begin_succ y hy0 hy1)
    by_cases hc : 365 + lp y ≤ d - begin_ y
    · obtain ⟨hy3, hy4⟩ := year_upr d y hy0 h1 hy1 hc
      go_wp2_with (go_at_call 97; refine (ylen_any _ _ (by omega)).mono ?_; rintro e w' ⟨rfl, rfl⟩)
      go_round
      case rel => exact ⟨y + 1, by omega, hy3, hy4, by rw [bs.out]; go_num, by go_num⟩
      case measure => simp [intOf]; omega
    · have hc' : d - begin_ y < 365 + lp y := by omega
      have h13 : d - begin_ y < cum y 13 := by rw [cum_13]; exact hc'
      clear hc
      go_wp2_with (go_at_call 97; refine (ylen_any _ _ (by omega)).mono ?_; rintro e w' ⟨rfl, rfl⟩)
      go_loop [0, 6] (fun r k => ∃ m : Int, 1 ≤ m ∧ m ≤ 12 ∧ 0 ≤ d - begin_ y - cum y m ∧ r = .int .i64 (d - begin_ y - cum y m) ∧ k = .int .i64 m) (fun _ k => (12 - intOf k).toNat)
      case atStart => exact ⟨1, by omega, by omega, by rw [cum_1]; omega, by rw [cum_1]; go_num, rfl⟩
      case round =>
        obtain ⟨m, hm0, hm1, hr, rfl, rfl⟩ := hrel
        have ml := mlen_bd y m hm0 hm1
        have cs := Lib.hid (cum_succ y m)
        have cb := cum_bd y m hm0 (by omega)
        have rl := rlen_in y m hm0 hm1
        by_cases hc : mlen y m ≤ d - begin_ y - cum y m
        · have hm2 := month_up _ y m h13 hm1 hc
          rw [← rl] at ml hc cs
          have cs' := Lib.hid cs
          clear rl cs
          go_wp2_with (go_at_call 98; refine (rlength_any _ _ _ (by omega)).mono ?_; rintro e w' ⟨rfl, rfl⟩)
          go_round
          case rel => exact ⟨m + 1, by omega, hm2, by rw [cs'.out.out]; omega, by rw [cs'.out.out]; go_num, by go_num⟩
          case measure => simp [intOf]; omega
        · have hc' : d - begin_ y - cum y m < mlen y m := by omega
          clear hc
          have hv := Lib.hid (civ_val (is_of d y m hy0 hy1 hm0 hm1 hr hc'))
          rw [← rl] at ml hc'
          clear rl
          go_wp2_with (go_at_call 98; refine (rlength_any _ _ _ (by omega)).mono ?_; rintro e w' ⟨rfl, rfl⟩)
          go_ret3
          exact ⟨hv.out, rfl⟩

/-- A civil date that is one of a day. -/
def dateOk (y m k : Int) : Prop := 2000 ≤ y ∧ y ≤ 2199 ∧ 1 ≤ m ∧ m ≤ 12 ∧ 1 ≤ k ∧ k ≤ mlen y m

end Go.Proofs.YtjmgahdjojdanaaDoor.Dt
