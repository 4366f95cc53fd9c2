/-
  Days of the week, ends of months, months added: the program's and the reference's.
-/
import Derived.Test.YtmdjikmpgckpbaaDoorDate4
import Derived.Test.YtmdjikmpgckpbaaDoorKm
namespace Go.Proofs.YtmdjikmpgckpbaaDoor.Dt
open Go.RowKit
open Go.Proofs.YtmdjikmpgckpbaaDoor.Cal
open Go.Proofs.YtmdjikmpgckpbaaDoor.Kl
set_option maxRecDepth 100000

theorem wday_any (d : Int) (w : World) (h0 : 0 ≤ d) (h1 : d ≤ 73048) : Calls Tryd.prog 85 #[.int .i64 d] w fun e w' => e = .returned (.int .i64 ((d + 5) % 7)) ∧ w = w' := by
  go_enter Tryd.func85, Tryd.ntmps85
  go_wp2_with (go_at_call 27; refine (valid_yes d _ h0 h1).mono ?_; rintro e w' ⟨rfl, rfl⟩)
  go_ret
  exact ⟨rfl, rfl⟩
theorem rwday_any (d : Int) (w : World) (h0 : 0 ≤ d) (h1 : d ≤ 73048) : Calls Tryd.prog 87 #[.int .i64 d] w fun e w' => e = .returned (.int .i64 ((d + 5) % 7)) ∧ w = w' := by
  go_enter Tryd.func87, Tryd.ntmps87
  go_wp2_with (go_at_call 32; refine (rvalid_yes d _ h0 h1).mono ?_; rintro e w' ⟨rfl, rfl⟩)
  go_ret
  exact ⟨rfl, rfl⟩
theorem mend_any (d : Int) (w : World) (h0 : 0 ≤ d) (h1 : d ≤ 73048) : Calls Tryd.prog 58 #[.int .i64 d] w fun e w' => e = .returned (.int .i64 (mend d)) ∧ Below w.heap.size w w' := by
  have hc := civ_spec d h0 h1
  obtain ⟨y0, y1, m0, m1, k0, k1⟩ : 2000 ≤ cy d ∧ cy d ≤ 2199 ∧ 1 ≤ cm d ∧ cm d ≤ 12 ∧ 1 ≤ ck d ∧ ck d ≤ mlen (cy d) (cm d) := ⟨hc.y0, hc.y1, hc.m0, hc.m1, hc.k0, hc.k1⟩
  have ml := mlen_bd (cy d) (cm d) m0 m1
  have HC := Lib.hid (civil_any d w h0 h1)
  have HM := Lib.hid (show mend d = d - ck d + mlen (cy d) (cm d) from rfl)
  clear hc
  generalize cy d = y at *
  generalize cm d = m at *
  generalize ck d = k at *
  generalize mend d = r at *
  go_enter Tryd.func58, Tryd.ntmps58
  go_wp2_with (go_at_call 27; refine (valid_yes d _ h0 h1).mono ?_; rintro e w' ⟨rfl, rfl⟩)
  refine HC.out.mono ?_
  rintro e w1 ⟨rfl, hb1⟩
  go_wp2_with fail
  refine (length_any _ _ _ (by omega) m0 m1).mono ?_
  rintro e w2 ⟨rfl, hb2⟩
  go_wp2_with fail
  go_ret
  exact ⟨ret_int (by rw [HM.out]), bstep hb1 hb1.size hb2⟩
theorem rmend_any (d : Int) (w : World) (h0 : 0 ≤ d) (h1 : d ≤ 73048) : Calls Tryd.prog 64 #[.int .i64 d] w fun e w' => e = .returned (.int .i64 (mend d)) ∧ w = w' := by
  have hc := civ_spec d h0 h1
  obtain ⟨y0, y1, m0, m1, k0, k1⟩ : 2000 ≤ cy d ∧ cy d ≤ 2199 ∧ 1 ≤ cm d ∧ cm d ≤ 12 ∧ 1 ≤ ck d ∧ ck d ≤ mlen (cy d) (cm d) := ⟨hc.y0, hc.y1, hc.m0, hc.m1, hc.k0, hc.k1⟩
  have ml := mlen_bd (cy d) (cm d) m0 m1
  have rl := rlen_in (cy d) (cm d) m0 m1
  have HC := Lib.hid (rcivil_any d w h0 h1)
  have HM := Lib.hid (show mend d = d - ck d + mlen (cy d) (cm d) from rfl)
  have HR := Lib.hid rl
  rw [← rl] at ml k1
  clear hc rl
  generalize cy d = y at *
  generalize cm d = m at *
  generalize ck d = k at *
  generalize mend d = r at *
  go_enter Tryd.func64, Tryd.ntmps64
  go_wp2_with (go_at_call 32; refine (rvalid_yes d _ h0 h1).mono ?_; rintro e w' ⟨rfl, rfl⟩)
  refine HC.out.mono ?_
  rintro e w' ⟨rfl, rfl⟩
  go_wp2_with fail
  refine (rlength_any _ _ _ (by omega)).mono ?_
  rintro e w' ⟨rfl, rfl⟩
  go_wp2_with fail
  go_ret
  exact ⟨ret_int (by rw [HM.out, HR.out]; omega), rfl⟩
set_option maxHeartbeats 1000000 in
theorem addm_any (d n a : Int) (w : World) (h0 : 0 ≤ d) (h1 : d ≤ 73048) (n0 : -2400 ≤ n) (n1 : n ≤ 2400) (a0 : 1 ≤ a) (a1 : a ≤ 31) :
    Calls Tryd.prog 37 #[.int .i64 d, .int .i64 n, .int .i64 a] w fun e w' => e = .returned (.tuple #[.int .i64 (oV (addM d n a)), .int .i64 (oE (addM d n a) 1)]) ∧ Below w.heap.size w w' := by
  have hc := civ_spec d h0 h1
  obtain ⟨y0, y1, m0, m1⟩ : 2000 ≤ cy d ∧ cy d ≤ 2199 ∧ 1 ≤ cm d ∧ cm d ≤ 12 := ⟨hc.y0, hc.y1, hc.m0, hc.m1⟩
  have HC := Lib.hid (civil_any d w h0 h1)
  by_cases hM : 24000 ≤ 12 * cy d + cm d - 1 + n ∧ 12 * cy d + cm d - 1 + n < 26400
  · rw [addM_ok hM]
    show Calls _ _ _ _ fun e w' => e = .returned (.tuple #[.int .i64 _, .int .i64 0]) ∧ _
    obtain ⟨h2, h3⟩ := hM
    clear hc
    generalize cy d = y at *
    generalize cm d = m at *
    generalize ck d = k at *
    have ml := mlen_bd ((12 * y + m - 1 + n) / 12) ((12 * y + m - 1 + n) % 12 + 1) (by omega) (by omega)
    by_cases hk : a ≤ mlen ((12 * y + m - 1 + n) / 12) ((12 * y + m - 1 + n) % 12 + 1)
    · have HK := Lib.hid (Int.min_eq_left hk)
      have HD := Lib.hid (fun (W : World) => day_yes ((12 * y + m - 1 + n) / 12) ((12 * y + m - 1 + n) % 12 + 1) a W ⟨by omega, by omega, by omega, by omega, by omega, by omega⟩)
      go_enter Tryd.func37, Tryd.ntmps37
      go_wp2_with (go_at_call 27; refine (valid_yes d _ h0 h1).mono ?_; rintro e w' ⟨rfl, rfl⟩)
      refine HC.out.mono ?_
      rintro e w1 ⟨rfl, hb1⟩
      go_wp2_with fail
      refine (length_any _ _ _ (by omega) (by omega) (by omega)).mono ?_
      rintro e w2 ⟨rfl, hb2⟩
      go_wp2_with fail
      refine (HD.out _).mono ?_
      rintro e w3 ⟨rfl, hb3⟩
      go_wp2_with fail
      go_ret2
      exact ⟨by rw [HK.out]; rfl, bstep (bstep hb1 hb1.size hb2) (Nat.le_trans hb1.size hb2.size) hb3⟩
    · have HK := Lib.hid (Int.min_eq_right (show mlen ((12 * y + m - 1 + n) / 12) ((12 * y + m - 1 + n) % 12 + 1) ≤ a by omega))
      have HD := Lib.hid (fun (W : World) => day_yes ((12 * y + m - 1 + n) / 12) ((12 * y + m - 1 + n) % 12 + 1) (mlen ((12 * y + m - 1 + n) / 12) ((12 * y + m - 1 + n) % 12 + 1)) W ⟨by omega, by omega, by omega, by omega, by omega, by omega⟩)
      go_enter Tryd.func37, Tryd.ntmps37
      go_wp2_with (go_at_call 27; refine (valid_yes d _ h0 h1).mono ?_; rintro e w' ⟨rfl, rfl⟩)
      refine HC.out.mono ?_
      rintro e w1 ⟨rfl, hb1⟩
      go_wp2_with fail
      refine (length_any _ _ _ (by omega) (by omega) (by omega)).mono ?_
      rintro e w2 ⟨rfl, hb2⟩
      go_wp2_with fail
      refine (HD.out _).mono ?_
      rintro e w3 ⟨rfl, hb3⟩
      go_wp2_with fail
      go_ret2
      exact ⟨by rw [HK.out]; rfl, bstep (bstep hb1 hb1.size hb2) (Nat.le_trans hb1.size hb2.size) hb3⟩
  · rw [addM_no hM]
    show Calls _ _ _ _ fun e w' => e = .returned (.tuple #[.int .i64 0, .int .i64 1]) ∧ _
    clear hc
    generalize cy d = y at *
    generalize cm d = m at *
    generalize ck d = k at *
    by_cases h2 : 12 * y + m - 1 + n < 24000
    · go_enter Tryd.func37, Tryd.ntmps37
      go_wp2_with (go_at_call 27; refine (valid_yes d _ h0 h1).mono ?_; rintro e w' ⟨rfl, rfl⟩)
      refine HC.out.mono ?_
      rintro e w1 ⟨rfl, hb1⟩
      go_wp2_with fail
      go_ret2
      exact ⟨rfl, hb1⟩
    · have h3 : 26400 ≤ 12 * y + m - 1 + n := by omega
      go_enter Tryd.func37, Tryd.ntmps37
      go_wp2_with (go_at_call 27; refine (valid_yes d _ h0 h1).mono ?_; rintro e w' ⟨rfl, rfl⟩)
      refine HC.out.mono ?_
      rintro e w1 ⟨rfl, hb1⟩
      go_wp2_with fail
      go_ret2
      exact ⟨rfl, hb1⟩
set_option maxHeartbeats 1000000 in
theorem raddm_any (d n a : Int) (w : World) (h0 : 0 ≤ d) (h1 : d ≤ 73048) (n0 : -2400 ≤ n) (n1 : n ≤ 2400) (a0 : 1 ≤ a) (a1 : a ≤ 31) :
    Calls Tryd.prog 40 #[.int .i64 d, .int .i64 n, .int .i64 a] w fun e w' => e = .returned (.tuple #[.int .i64 (oV (addM d n a)), .int .i64 (oE (addM d n a) 1)]) ∧ w = w' := by
  have hc := civ_spec d h0 h1
  obtain ⟨y0, y1, m0, m1⟩ : 2000 ≤ cy d ∧ cy d ≤ 2199 ∧ 1 ≤ cm d ∧ cm d ≤ 12 := ⟨hc.y0, hc.y1, hc.m0, hc.m1⟩
  have HC := Lib.hid (rcivil_any d w h0 h1)
  by_cases hM : 24000 ≤ 12 * cy d + cm d - 1 + n ∧ 12 * cy d + cm d - 1 + n < 26400
  · rw [addM_ok hM]
    show Calls _ _ _ _ fun e w' => e = .returned (.tuple #[.int .i64 _, .int .i64 0]) ∧ _
    obtain ⟨h2, h3⟩ := hM
    clear hc
    generalize cy d = y at *
    generalize cm d = m at *
    generalize ck d = k at *
    rw [Int.mul_comm 12 y] at h2 h3 ⊢
    have ml := mlen_bd ((y * 12 + m - 1 + n) / 12) ((y * 12 + m - 1 + n) % 12 + 1) (by omega) (by omega)
    have rl := rlen_in ((y * 12 + m - 1 + n) / 12) ((y * 12 + m - 1 + n) % 12 + 1) (by omega) (by omega)
    rw [← rl]
    rw [← rl] at ml
    by_cases hk : a ≤ rlen ((y * 12 + m - 1 + n) / 12) ((y * 12 + m - 1 + n) % 12 + 1)
    · have HK := Lib.hid (Int.min_eq_left hk)
      have HD := Lib.hid (fun (W : World) => rday_yes ((y * 12 + m - 1 + n) / 12) ((y * 12 + m - 1 + n) % 12 + 1) a W ⟨by omega, by omega, by omega, by omega, by omega, by omega⟩)
      clear rl
      go_enter Tryd.func40, Tryd.ntmps40
      go_wp2_with (go_at_call 32; refine (rvalid_yes d _ h0 h1).mono ?_; rintro e w' ⟨rfl, rfl⟩)
      refine HC.out.mono ?_
      rintro e w' ⟨rfl, rfl⟩
      go_wp2_with fail
      refine (rlength_any _ _ _ (by omega)).mono ?_
      rintro e w' ⟨rfl, rfl⟩
      go_wp2_with fail
      refine (HD.out _).mono ?_
      rintro e w' ⟨rfl, rfl⟩
      go_wp2_with fail
      go_ret2
      exact ⟨by rw [HK.out]; rfl, rfl⟩
    · have HK := Lib.hid (Int.min_eq_right (show rlen ((y * 12 + m - 1 + n) / 12) ((y * 12 + m - 1 + n) % 12 + 1) ≤ a by omega))
      have HD := Lib.hid (fun (W : World) => rday_yes ((y * 12 + m - 1 + n) / 12) ((y * 12 + m - 1 + n) % 12 + 1) (rlen ((y * 12 + m - 1 + n) / 12) ((y * 12 + m - 1 + n) % 12 + 1)) W ⟨by omega, by omega, by omega, by omega, by omega, by omega⟩)
      clear rl
      go_enter Tryd.func40, Tryd.ntmps40
      go_wp2_with (go_at_call 32; refine (rvalid_yes d _ h0 h1).mono ?_; rintro e w' ⟨rfl, rfl⟩)
      refine HC.out.mono ?_
      rintro e w' ⟨rfl, rfl⟩
      go_wp2_with fail
      refine (rlength_any _ _ _ (by omega)).mono ?_
      rintro e w' ⟨rfl, rfl⟩
      go_wp2_with fail
      refine (HD.out _).mono ?_
      rintro e w' ⟨rfl, rfl⟩
      go_wp2_with fail
      go_ret2
      exact ⟨by rw [HK.out]; rfl, rfl⟩
  · rw [addM_no hM]
    show Calls _ _ _ _ fun e w' => e = .returned (.tuple #[.int .i64 0, .int .i64 1]) ∧ _
    clear hc
    generalize cy d = y at *
    generalize cm d = m at *
    generalize ck d = k at *
    by_cases h2 : y * 12 + m - 1 + n < 24000
    · go_enter Tryd.func40, Tryd.ntmps40
      go_wp2_with (go_at_call 32; refine (rvalid_yes d _ h0 h1).mono ?_; rintro e w' ⟨rfl, rfl⟩)
      refine HC.out.mono ?_
      rintro e w' ⟨rfl, rfl⟩
      go_wp2_with fail
      go_ret2
      exact ⟨rfl, rfl⟩
    · have h3 : 26400 ≤ y * 12 + m - 1 + n := by omega
      clear hM
      have ml := mlen_bd ((y * 12 + m - 1 + n) / 12) ((y * 12 + m - 1 + n) % 12 + 1) (by omega) (by omega)
      have rl := rlen_in ((y * 12 + m - 1 + n) / 12) ((y * 12 + m - 1 + n) % 12 + 1) (by omega) (by omega)
      rw [← rl] at ml
      clear rl
      have HD := Lib.hid (fun (k' : Int) (W : World) => rday_no ((y * 12 + m - 1 + n) / 12) ((y * 12 + m - 1 + n) % 12 + 1) k' W (fun h => by have := h.2.1; omega))
      by_cases hk : a ≤ rlen ((y * 12 + m - 1 + n) / 12) ((y * 12 + m - 1 + n) % 12 + 1)
      · go_enter Tryd.func40, Tryd.ntmps40
        go_wp2_with (go_at_call 32; refine (rvalid_yes d _ h0 h1).mono ?_; rintro e w' ⟨rfl, rfl⟩)
        refine HC.out.mono ?_
        rintro e w' ⟨rfl, rfl⟩
        go_wp2_with fail
        refine (rlength_any _ _ _ (by omega)).mono ?_
        rintro e w' ⟨rfl, rfl⟩
        go_wp2_with fail
        refine (HD.out _ _).mono ?_
        rintro e w' ⟨rfl, rfl⟩
        go_wp2_with fail
        go_ret2
        exact ⟨rfl, rfl⟩
      · go_enter Tryd.func40, Tryd.ntmps40
        go_wp2_with (go_at_call 32; refine (rvalid_yes d _ h0 h1).mono ?_; rintro e w' ⟨rfl, rfl⟩)
        refine HC.out.mono ?_
        rintro e w' ⟨rfl, rfl⟩
        go_wp2_with fail
        refine (rlength_any _ _ _ (by omega)).mono ?_
        rintro e w' ⟨rfl, rfl⟩
        go_wp2_with fail
        refine (HD.out _ _).mono ?_
        rintro e w' ⟨rfl, rfl⟩
        go_wp2_with fail
        go_ret2
        exact ⟨rfl, rfl⟩
end Go.Proofs.YtmdjikmpgckpbaaDoor.Dt
