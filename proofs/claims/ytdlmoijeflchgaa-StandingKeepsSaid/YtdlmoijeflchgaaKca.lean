/-
  Days of the week, ends of months, months added: the program's and the reference's.
  Calendars: names, codes, lists of numbers: the program's and the reference's.
  Calendars: lists of numbers: ascending, within, Contains; Check: the program's and the reference's.
  Calendars: within; Check: the program's and the reference's.
-/
import Derived.Test.YtdlmoijeflchgaaDta
import Derived.Test.YtdlmoijeflchgaaKm
import Derived.Test.YtdlmoijeflchgaaKc0
import Derived.WalkKit
import Derived.Laws.RangeAny
import Derived.Deep.LoopGhost
import Derived.Test.YtdlmoijeflchgaaChecked
import Derived.ProofKit
import Derived.BigFrame
import Derived.BigQuiet
import Derived.Deep.Cut
namespace Go.Proofs.Ytdlmoijeflchgaa.Dt
open Go.RowKit
open Go.Proofs.Ytdlmoijeflchgaa.Cal
open Go.Proofs.Ytdlmoijeflchgaa.Kl
set_option maxRecDepth 100000

theorem wday_any (d : Int) (w : World) (h0 : 0 ≤ d) (h1 : d ≤ 73048) : Calls Try.prog 66 #[.int .i64 d] w fun e w' => e = .returned (.int .i64 ((d + 5) % 7)) ∧ w = w' := by
  go_enter Try.func66, Try.ntmps66
  go_wp2_with (go_at_call 25; refine (valid_yes d _ h0 h1).mono ?_; rintro e w' ⟨rfl, rfl⟩)
  go_ret
  exact ⟨rfl, rfl⟩
theorem rwday_any (d : Int) (w : World) (h0 : 0 ≤ d) (h1 : d ≤ 73048) : Calls Try.prog 65 #[.int .i64 d] w fun e w' => e = .returned (.int .i64 ((d + 5) % 7)) ∧ w = w' := by
  go_enter Try.func65, Try.ntmps65
  go_wp2_with (go_at_call 28; refine (rvalid_yes d _ h0 h1).mono ?_; rintro e w' ⟨rfl, rfl⟩)
  go_ret
  exact ⟨rfl, rfl⟩
theorem mend_any (d : Int) (w : World) (h0 : 0 ≤ d) (h1 : d ≤ 73048) : Calls Try.prog 52 #[.int .i64 d] w fun e w' => e = .returned (.int .i64 (mend d)) ∧ Below w.heap.size w w' := by
  have hc := civ_spec d h0 h1
  obtain ⟨y0, y1, m0, m1, k0, k1⟩ : 2000 ≤ cy d ∧ cy d ≤ 2199 ∧ 1 ≤ cm d ∧ cm d ≤ 12 ∧ 1 ≤ ck d ∧ ck d ≤ mlen (cy d) (cm d) := ⟨hc.y0, hc.y1, hc.m0, hc.m1, hc.k0, hc.k1⟩
  have ml := mlen_bd (cy d) (cm d) m0 m1
  have HC := Lib.hid (civil_any d w h0 h1)
  have HM := Lib.hid (show mend d = d - ck d + mlen (cy d) (cm d) from rfl)
  clear hc
  generalize cy d = y at *
  generalize cm d = m at *
  generalize ck d = k at *
  generalize mend d = r at *
  go_enter Try.func52, Try.ntmps52
  go_wp2_with (go_at_call 25; refine (valid_yes d _ h0 h1).mono ?_; rintro e w' ⟨rfl, rfl⟩)
  refine HC.out.mono ?_
  rintro e w1 ⟨rfl, hb1⟩
  go_wp2_with fail
  refine (length_any _ _ _ (by omega) m0 m1).mono ?_
  rintro e w2 ⟨rfl, hb2⟩
  go_wp2_with fail
  go_ret
  exact ⟨ret_int (by rw [HM.out]), bstep hb1 hb1.size hb2⟩
theorem rmend_any (d : Int) (w : World) (h0 : 0 ≤ d) (h1 : d ≤ 73048) : Calls Try.prog 43 #[.int .i64 d] w fun e w' => e = .returned (.int .i64 (mend d)) ∧ w = w' := by
  have hc := civ_spec d h0 h1
  obtain ⟨y0, y1, m0, m1, k0, k1⟩ : 2000 ≤ cy d ∧ cy d ≤ 2199 ∧ 1 ≤ cm d ∧ cm d ≤ 12 ∧ 1 ≤ ck d ∧ ck d ≤ mlen (cy d) (cm d) := ⟨hc.y0, hc.y1, hc.m0, hc.m1, hc.k0, hc.k1⟩
  have ml := mlen_bd (cy d) (cm d) m0 m1
  have rl := rlen_in (cy d) (cm d) m0 m1
  have HC := Lib.hid (rcivil_any d w h0 h1)
  have HM := Lib.hid (show mend d = d - ck d + mlen (cy d) (cm d) from rfl)
  have HR := Lib.hid rl
  rw [← rl] at ml k1
  clear hc rl
  generalize cy d = y at *
  generalize cm d = m at *
  generalize ck d = k at *
  generalize mend d = r at *
  go_enter Try.func43, Try.ntmps43
  go_wp2_with (go_at_call 28; refine (rvalid_yes d _ h0 h1).mono ?_; rintro e w' ⟨rfl, rfl⟩)
  refine HC.out.mono ?_
  rintro e w' ⟨rfl, rfl⟩
  go_wp2_with fail
  refine (rlength_any _ _ _ (by omega)).mono ?_
  rintro e w' ⟨rfl, rfl⟩
  go_wp2_with fail
  go_ret
  exact ⟨ret_int (by rw [HM.out, HR.out]; omega), rfl⟩
set_option maxHeartbeats 1000000 in
theorem addm_any (d n a : Int) (w : World) (h0 : 0 ≤ d) (h1 : d ≤ 73048) (n0 : -2400 ≤ n) (n1 : n ≤ 2400) (a0 : 1 ≤ a) (a1 : a ≤ 31) :
    Calls Try.prog 39 #[.int .i64 d, .int .i64 n, .int .i64 a] w fun e w' => e = .returned (.tuple #[.int .i64 (oV (addM d n a)), .int .i64 (oE (addM d n a) 1)]) ∧ Below w.heap.size w w' := by
  have hc := civ_spec d h0 h1
  obtain ⟨y0, y1, m0, m1⟩ : 2000 ≤ cy d ∧ cy d ≤ 2199 ∧ 1 ≤ cm d ∧ cm d ≤ 12 := ⟨hc.y0, hc.y1, hc.m0, hc.m1⟩
  have HC := Lib.hid (civil_any d w h0 h1)
  by_cases hM : 24000 ≤ 12 * cy d + cm d - 1 + n ∧ 12 * cy d + cm d - 1 + n < 26400
  · rw [addM_ok hM]
    show Calls _ _ _ _ fun e w' => e = .returned (.tuple #[.int .i64 _, .int .i64 0]) ∧ _
    obtain ⟨h2, h3⟩ := hM
    clear hc
    generalize cy d = y at *
    generalize cm d = m at *
    generalize ck d = k at *
    have ml := mlen_bd ((12 * y + m - 1 + n) / 12) ((12 * y + m - 1 + n) % 12 + 1) (by omega) (by omega)
    by_cases hk : a ≤ mlen ((12 * y + m - 1 + n) / 12) ((12 * y + m - 1 + n) % 12 + 1)
    · have HK := Lib.hid (Int.min_eq_left hk)
      have HD := Lib.hid (fun (W : World) => day_yes ((12 * y + m - 1 + n) / 12) ((12 * y + m - 1 + n) % 12 + 1) a W ⟨by omega, by omega, by omega, by omega, by omega, by omega⟩)
      go_enter Try.func39, Try.ntmps39
      go_wp2_with (go_at_call 25; refine (valid_yes d _ h0 h1).mono ?_; rintro e w' ⟨rfl, rfl⟩)
      refine HC.out.mono ?_
      rintro e w1 ⟨rfl, hb1⟩
      go_wp2_with fail
      refine (length_any _ _ _ (by omega) (by omega) (by omega)).mono ?_
      rintro e w2 ⟨rfl, hb2⟩
      go_wp2_with fail
      refine (HD.out _).mono ?_
      rintro e w3 ⟨rfl, hb3⟩
      go_wp2_with fail
      go_ret2
      exact ⟨by rw [HK.out]; rfl, bstep (bstep hb1 hb1.size hb2) (Nat.le_trans hb1.size hb2.size) hb3⟩
    · have HK := Lib.hid (Int.min_eq_right (show mlen ((12 * y + m - 1 + n) / 12) ((12 * y + m - 1 + n) % 12 + 1) ≤ a by omega))
      have HD := Lib.hid (fun (W : World) => day_yes ((12 * y + m - 1 + n) / 12) ((12 * y + m - 1 + n) % 12 + 1) (mlen ((12 * y + m - 1 + n) / 12) ((12 * y + m - 1 + n) % 12 + 1)) W ⟨by omega, by omega, by omega, by omega, by omega, by omega⟩)
      go_enter Try.func39, Try.ntmps39
      go_wp2_with (go_at_call 25; refine (valid_yes d _ h0 h1).mono ?_; rintro e w' ⟨rfl, rfl⟩)
      refine HC.out.mono ?_
      rintro e w1 ⟨rfl, hb1⟩
      go_wp2_with fail
      refine (length_any _ _ _ (by omega) (by omega) (by omega)).mono ?_
      rintro e w2 ⟨rfl, hb2⟩
      go_wp2_with fail
      refine (HD.out _).mono ?_
      rintro e w3 ⟨rfl, hb3⟩
      go_wp2_with fail
      go_ret2
      exact ⟨by rw [HK.out]; rfl, bstep (bstep hb1 hb1.size hb2) (Nat.le_trans hb1.size hb2.size) hb3⟩
  · rw [addM_no hM]
    show Calls _ _ _ _ fun e w' => e = .returned (.tuple #[.int .i64 0, .int .i64 1]) ∧ _
    clear hc
    generalize cy d = y at *
    generalize cm d = m at *
    generalize ck d = k at *
    by_cases h2 : 12 * y + m - 1 + n < 24000
    · go_enter Try.func39, Try.ntmps39
      go_wp2_with (go_at_call 25; refine (valid_yes d _ h0 h1).mono ?_; rintro e w' ⟨rfl, rfl⟩)
      refine HC.out.mono ?_
      rintro e w1 ⟨rfl, hb1⟩
      go_wp2_with fail
      go_ret2
      exact ⟨rfl, hb1⟩
    · have h3 : 26400 ≤ 12 * y + m - 1 + n := by omega
      go_enter Try.func39, Try.ntmps39
      go_wp2_with (go_at_call 25; refine (valid_yes d _ h0 h1).mono ?_; rintro e w' ⟨rfl, rfl⟩)
      refine HC.out.mono ?_
      rintro e w1 ⟨rfl, hb1⟩
      go_wp2_with fail
      go_ret2
      exact ⟨rfl, hb1⟩
set_option maxHeartbeats 1000000 in
theorem raddm_any (d n a : Int) (w : World) (h0 : 0 ≤ d) (h1 : d ≤ 73048) (n0 : -2400 ≤ n) (n1 : n ≤ 2400) (a0 : 1 ≤ a) (a1 : a ≤ 31) :
    Calls Try.prog 23 #[.int .i64 d, .int .i64 n, .int .i64 a] w fun e w' => e = .returned (.tuple #[.int .i64 (oV (addM d n a)), .int .i64 (oE (addM d n a) 1)]) ∧ w = w' := by
  have hc := civ_spec d h0 h1
  obtain ⟨y0, y1, m0, m1⟩ : 2000 ≤ cy d ∧ cy d ≤ 2199 ∧ 1 ≤ cm d ∧ cm d ≤ 12 := ⟨hc.y0, hc.y1, hc.m0, hc.m1⟩
  have HC := Lib.hid (rcivil_any d w h0 h1)
  by_cases hM : 24000 ≤ 12 * cy d + cm d - 1 + n ∧ 12 * cy d + cm d - 1 + n < 26400
  · rw [addM_ok hM]
    show Calls _ _ _ _ fun e w' => e = .returned (.tuple #[.int .i64 _, .int .i64 0]) ∧ _
    obtain ⟨h2, h3⟩ := hM
    clear hc
    generalize cy d = y at *
    generalize cm d = m at *
    generalize ck d = k at *
    rw [Int.mul_comm 12 y] at h2 h3 ⊢
    have ml := mlen_bd ((y * 12 + m - 1 + n) / 12) ((y * 12 + m - 1 + n) % 12 + 1) (by omega) (by omega)
    have rl := rlen_in ((y * 12 + m - 1 + n) / 12) ((y * 12 + m - 1 + n) % 12 + 1) (by omega) (by omega)
    rw [← rl]
    rw [← rl] at ml
    by_cases hk : a ≤ rlen ((y * 12 + m - 1 + n) / 12) ((y * 12 + m - 1 + n) % 12 + 1)
    · have HK := Lib.hid (Int.min_eq_left hk)
      have HD := Lib.hid (fun (W : World) => rday_yes ((y * 12 + m - 1 + n) / 12) ((y * 12 + m - 1 + n) % 12 + 1) a W ⟨by omega, by omega, by omega, by omega, by omega, by omega⟩)
      clear rl
      go_enter Try.func23, Try.ntmps23
      go_wp2_with (go_at_call 28; refine (rvalid_yes d _ h0 h1).mono ?_; rintro e w' ⟨rfl, rfl⟩)
      refine HC.out.mono ?_
      rintro e w' ⟨rfl, rfl⟩
      go_wp2_with fail
      refine (rlength_any _ _ _ (by omega)).mono ?_
      rintro e w' ⟨rfl, rfl⟩
      go_wp2_with fail
      refine (HD.out _).mono ?_
      rintro e w' ⟨rfl, rfl⟩
      go_wp2_with fail
      go_ret2
      exact ⟨by rw [HK.out]; rfl, rfl⟩
    · have HK := Lib.hid (Int.min_eq_right (show rlen ((y * 12 + m - 1 + n) / 12) ((y * 12 + m - 1 + n) % 12 + 1) ≤ a by omega))
      have HD := Lib.hid (fun (W : World) => rday_yes ((y * 12 + m - 1 + n) / 12) ((y * 12 + m - 1 + n) % 12 + 1) (rlen ((y * 12 + m - 1 + n) / 12) ((y * 12 + m - 1 + n) % 12 + 1)) W ⟨by omega, by omega, by omega, by omega, by omega, by omega⟩)
      clear rl
      go_enter Try.func23, Try.ntmps23
      go_wp2_with (go_at_call 28; refine (rvalid_yes d _ h0 h1).mono ?_; rintro e w' ⟨rfl, rfl⟩)
      refine HC.out.mono ?_
      rintro e w' ⟨rfl, rfl⟩
      go_wp2_with fail
      refine (rlength_any _ _ _ (by omega)).mono ?_
      rintro e w' ⟨rfl, rfl⟩
      go_wp2_with fail
      refine (HD.out _).mono ?_
      rintro e w' ⟨rfl, rfl⟩
      go_wp2_with fail
      go_ret2
      exact ⟨by rw [HK.out]; rfl, rfl⟩
  · rw [addM_no hM]
    show Calls _ _ _ _ fun e w' => e = .returned (.tuple #[.int .i64 0, .int .i64 1]) ∧ _
    clear hc
    generalize cy d = y at *
    generalize cm d = m at *
    generalize ck d = k at *
    by_cases h2 : y * 12 + m - 1 + n < 24000
    · go_enter Try.func23, Try.ntmps23
      go_wp2_with (go_at_call 28; refine (rvalid_yes d _ h0 h1).mono ?_; rintro e w' ⟨rfl, rfl⟩)
      refine HC.out.mono ?_
      rintro e w' ⟨rfl, rfl⟩
      go_wp2_with fail
      go_ret2
      exact ⟨rfl, rfl⟩
    · have h3 : 26400 ≤ y * 12 + m - 1 + n := by omega
      clear hM
      have ml := mlen_bd ((y * 12 + m - 1 + n) / 12) ((y * 12 + m - 1 + n) % 12 + 1) (by omega) (by omega)
      have rl := rlen_in ((y * 12 + m - 1 + n) / 12) ((y * 12 + m - 1 + n) % 12 + 1) (by omega) (by omega)
      rw [← rl] at ml
      clear rl
      have HD := Lib.hid (fun (k' : Int) (W : World) => rday_no ((y * 12 + m - 1 + n) / 12) ((y * 12 + m - 1 + n) % 12 + 1) k' W (fun h => by have := h.2.1; omega))
      by_cases hk : a ≤ rlen ((y * 12 + m - 1 + n) / 12) ((y * 12 + m - 1 + n) % 12 + 1)
      · go_enter Try.func23, Try.ntmps23
        go_wp2_with (go_at_call 28; refine (rvalid_yes d _ h0 h1).mono ?_; rintro e w' ⟨rfl, rfl⟩)
        refine HC.out.mono ?_
        rintro e w' ⟨rfl, rfl⟩
        go_wp2_with fail
        refine (rlength_any _ _ _ (by omega)).mono ?_
        rintro e w' ⟨rfl, rfl⟩
        go_wp2_with fail
        refine (HD.out _ _).mono ?_
        rintro e w' ⟨rfl, rfl⟩
        go_wp2_with fail
        go_ret2
        exact ⟨rfl, rfl⟩
      · go_enter Try.func23, Try.ntmps23
        go_wp2_with (go_at_call 28; refine (rvalid_yes d _ h0 h1).mono ?_; rintro e w' ⟨rfl, rfl⟩)
        refine HC.out.mono ?_
        rintro e w' ⟨rfl, rfl⟩
        go_wp2_with fail
        refine (rlength_any _ _ _ (by omega)).mono ?_
        rintro e w' ⟨rfl, rfl⟩
        go_wp2_with fail
        refine (HD.out _ _).mono ?_
        rintro e w' ⟨rfl, rfl⟩
        go_wp2_with fail
        go_ret2
        exact ⟨rfl, rfl⟩
end Go.Proofs.Ytdlmoijeflchgaa.Dt

namespace Go.Proofs.Ytdlmoijeflchgaa.Kl
open Go.RowKit
open Go.Proofs.Ytdlmoijeflchgaa
set_option linter.unusedSimpArgs false

/-- Where a loop over the bytes of a text stands. -/
def NmR (w : World) (s : ByteArray) (p : Nat → Bool) (g : Nat) (s8 : Value) (W : World) : Prop := ∃ i : Nat, i + g = s.size ∧ s8 = .int .i64 i ∧ (∀ j, j < i → p j = true) ∧ w = W
theorem nm_step {p : Nat → Bool} {i : Nat} (h : ∀ j, j < i → p j = true) (hi : p i = true) : ∀ j, j < i + 1 → p j = true := fun j hj => by
  by_cases e : j = i
  · subst e; exact hi
  · exact h j (by omega)
theorem nameB_no {s : ByteArray} {i : Nat} (hi : i < s.size) (h : nmB i (byt s i) = false) : nameB s = false := by
  unfold nameB
  rw [upto_no hi h, Bool.and_false]
theorem nameB_all {s : ByteArray} (h : ∀ j, j < s.size → nmB j (byt s j) = true) : nameB s = (decide (1 ≤ s.size) && decide (s.size ≤ 16)) := by
  unfold nameB
  rw [upto_yes h, Bool.and_true]
theorem codeB_no {s : ByteArray} {i : Nat} (hi : i < s.size) (h : upB (byt s i) = false) : codeB s = false := by
  unfold codeB
  rw [upto_no hi h, Bool.and_false]
theorem codeB_all {s : ByteArray} (h : ∀ j, j < s.size → upB (byt s j) = true) : codeB s = decide (s.size = 3) := by
  unfold codeB
  rw [upto_yes h, Bool.and_true]
/-- Where the loop over the runes stands. -/
def CdR (w : World) (s : ByteArray) (g : Nat) (s3 : Value) (W : World) : Prop := ∃ i : Nat, i + g = s.size ∧ s3 = .int .i64 i ∧ (∀ j, j < i → upB (byt s j) = true) ∧ W = w.iter s i
end Go.Proofs.Ytdlmoijeflchgaa.Kl

namespace Go.Proofs.Ytdlmoijeflchgaa.Kl
open Go.RowKit
open Go.Proofs.Ytdlmoijeflchgaa
set_option linter.unusedSimpArgs false
set_option maxRecDepth 100000

theorem bl2 {w W w1 : World} (hb : Below W.heap.size W w1) (h : Below w.heap.size w W) : Below w.heap.size w w1 := h.trans (hb.mono h.size)
/-- Where a loop over a list that begins with its second element stands. -/
def RsR (w : World) (l : List Int) (g : Nat) (s3 : Value) (W : World) : Prop := ∃ k : Nat, k + g = l.length ∧ s3 = .int .i64 ((k : Int) + 1) ∧ (∀ j, j < k + 1 → ((j == 0) || decide (l.getD (j - 1) 0 < l.getD j 0)) = true) ∧ Below w.heap.size w W
theorem risesB_no {l : List Int} {k : Nat} (hk : k + 1 < l.length) (h : ¬ l.getD k 0 < l.getD (k + 1) 0) : risesB l = false := by
  unfold risesB
  exact upto_no hk (by simp [List.getD_eq_getElem?_getD] at h ⊢; exact h)
theorem risesB_all {l : List Int} {k : Nat} (hk : l.length ≤ k + 1) (h : ∀ j, j < k + 1 → ((j == 0) || decide (l.getD (j - 1) 0 < l.getD j 0)) = true) : risesB l = true := by
  unfold risesB
  exact upto_yes (fun j hj => h j (by omega))
theorem rs_step {l : List Int} {k : Nat} (h : ∀ j, j < k + 1 → ((j == 0) || decide (l.getD (j - 1) 0 < l.getD j 0)) = true) (hk : l.getD k 0 < l.getD (k + 1) 0) : ∀ j, j < k + 1 + 1 → ((j == 0) || decide (l.getD (j - 1) 0 < l.getD j 0)) = true := fun j hj => by
  by_cases e : j = k + 1
  · subst e
    rw [show k + 1 - 1 = k by omega, decide_eq_true hk, Bool.or_true]
  · exact h j (by omega)
/-- Where a search in a list stands. -/
def HsR (w : World) (l : List Int) (n : Int) (g : Nat) (s5 : Value) (W : World) : Prop := ∃ k : Nat, k + g = l.length ∧ s5 = .int .i64 k ∧ (∀ j, j < k → (l.getD j 0 != n) = true) ∧ w = W
theorem hasB_yes {l : List Int} {n : Int} {k : Nat} (hk : k < l.length) (h : l.getD k 0 = n) : hasB l n = true := by
  unfold hasB
  rw [upto_no hk (by rw [h]; simp)]
  rfl
theorem hasB_no {l : List Int} {n : Int} (h : ∀ j, j < l.length → (l.getD j 0 != n) = true) : hasB l n = false := by
  unfold hasB
  rw [upto_yes h]
  rfl
set_option maxHeartbeats 4000000 in
theorem rhas_any (a : Option Addr) (cap : Nat) (l : List Int) (n : Int) (w : World) (h : Bk.IntsIn w a l) : Calls Try.prog 64 #[.slice a l.length cap, .int .i64 n] w fun e w' => (e = .returned (.bool (hasB l n))) ∧ w = w' := by
  have H := Lib.hid h
  have hln := h.1
  clear h
  go_enter Try.func64, Try.ntmps64
  go_wp2_with fail
  go_loopg [5] l.length (HsR w l n)
  case atStart => exact ⟨0, by omega, rfl, fun j hj => by omega, rfl⟩
  case round =>
    obtain ⟨k, hk, rfl, hall, rfl⟩ := hrel
    have HA := Lib.hid hall
    clear hall
    by_cases hlt : k < l.length
    · obtain ⟨b, off, rfl, hc⟩ := H.out.2 (by omega)
      have c0 := hc k hlt
      clear hc
      by_cases hx : l.getD k 0 = n
      · have HY := Lib.hid (hasB_yes hlt hx)
        have ge : (l.getD k 0 == n) = true := by rw [hx]; exact beq_self_eq_true n
        clear hx
        generalize l.getD k 0 = x at *
        go_wp2_with fail
        go_ret
        exact ⟨by rw [HY.out]; try rfl, rfl⟩
      · have ge : (l.getD k 0 == n) = false := by first | exact beq_eq_false_iff_ne.2 hx | exact beq_eq_false_iff_ne.2 (Ne.symm hx)
        have HP := Lib.hid (show (fun j => l.getD j 0 != n) k = true from bne_iff_ne.2 hx)
        clear hx
        generalize l.getD k 0 = x at *
        go_wp2_with fail
        go_roundg (gk - 1)
        case measure => omega
        case rel => exact ⟨k + 1, by omega, by go_num, nm_step HA.out HP.out, rfl⟩
    · have HU := Lib.hid (hasB_no (l := l) (n := n) (fun j hj => HA.out j (by omega)))
      go_wp2_with fail
      go_ret
      exact ⟨by rw [HU.out]; try rfl, rfl⟩
set_option maxHeartbeats 4000000 in
theorem index_any (a : Option Addr) (cap : Nat) (l : List Int) (n : Int) (w : World) (h : Bk.IntsIn w a l) : Calls Try.prog 44 #[.slice a l.length cap, .int .i64 n] w fun e w' => (∃ r : Int, e = .returned (.int .i64 r) ∧ hasB l n = decide (0 ≤ r)) ∧ w = w' := by
  have H := Lib.hid h
  have hln := h.1
  clear h
  go_enter Try.func44, Try.ntmps44
  go_wp2_with fail
  go_loopg [8] l.length (HsR w l n)
  case atStart => exact ⟨0, by omega, rfl, fun j hj => by omega, rfl⟩
  case round =>
    obtain ⟨k, hk, rfl, hall, rfl⟩ := hrel
    have HA := Lib.hid hall
    clear hall
    by_cases hlt : k < l.length
    · obtain ⟨b, off, rfl, hc⟩ := H.out.2 (by omega)
      have c0 := hc k hlt
      clear hc
      by_cases hx : l.getD k 0 = n
      · have HY := Lib.hid (hasB_yes hlt hx)
        have ge : (n == l.getD k 0) = true := by rw [hx]; exact beq_self_eq_true n
        clear hx
        generalize l.getD k 0 = x at *
        go_wp2_with fail
        go_ret
        exact ⟨⟨k, rfl, by rw [HY.out]; simp⟩, rfl⟩
      · have ge : (n == l.getD k 0) = false := by first | exact beq_eq_false_iff_ne.2 hx | exact beq_eq_false_iff_ne.2 (Ne.symm hx)
        have HP := Lib.hid (show (fun j => l.getD j 0 != n) k = true from bne_iff_ne.2 hx)
        clear hx
        generalize l.getD k 0 = x at *
        go_wp2_with fail
        go_roundg (gk - 1)
        case measure => omega
        case rel => exact ⟨k + 1, by omega, by go_num, nm_step HA.out HP.out, rfl⟩
    · have HU := Lib.hid (hasB_no (l := l) (n := n) (fun j hj => HA.out j (by omega)))
      go_wp2_with fail
      go_ret
      exact ⟨⟨-1, rfl, by rw [HU.out]; rfl⟩, rfl⟩
theorem contains_any (a : Option Addr) (cap : Nat) (l : List Int) (n : Int) (w : World) (h : Bk.IntsIn w a l) : Calls Try.prog 26 #[.slice a l.length cap, .int .i64 n] w fun e w' => e = .returned (.bool (hasB l n)) ∧ w = w' := by
  have HI := Lib.hid (index_any a cap l n w h)
  clear h
  go_enter Try.func26, Try.ntmps26
  go_wp2_with fail
  refine HI.out.mono ?_
  rintro e w' ⟨⟨r, rfl, hr⟩, rfl⟩
  go_wp2_with fail
  go_ret
  exact ⟨by rw [hr]; try rfl, rfl⟩
/-- No number of a list meets p. -/
def nonB (l : List Int) (p : Int → Bool) : Bool := upto l.length fun j => !p (l.getD j 0)
theorem nonB_yes {l : List Int} {p : Int → Bool} (h : ∀ j, j < l.length → (fun j => !p (l.getD j 0)) j = true) : nonB l p = true := upto_yes h
theorem nonB_no {l : List Int} {p : Int → Bool} {k : Nat} (hk : k < l.length) (h : p (l.getD k 0) = true) : nonB l p = false := upto_no hk (by show (!p (l.getD k 0)) = false; rw [h]; rfl)
theorem inB_yes {l : List Int} {a b : Int} (h : ∀ j, j < l.length → decide (a ≤ l.getD j 0 ∧ l.getD j 0 ≤ b) = true) : inB l a b = true := upto_yes h
theorem inB_no {l : List Int} {a b : Int} {k : Nat} (hk : k < l.length) (h : decide (a ≤ l.getD k 0 ∧ l.getD k 0 ≤ b) = false) : inB l a b = false := upto_no hk h
/-- Where IndexFunc stands. -/
def IfR (w : World) (l : List Int) (p : Int → Bool) (g : Nat) (s8 : Value) (W : World) : Prop := ∃ k : Nat, k + g = l.length ∧ s8 = .int .i64 k ∧ (∀ j, j < k → (fun j => !p (l.getD j 0)) j = true) ∧ Below w.heap.size w W
end Go.Proofs.Ytdlmoijeflchgaa.Kl

namespace Go.Proofs.Ytdlmoijeflchgaa.Kl
open Go.RowKit
open Go.Proofs.Ytdlmoijeflchgaa
set_option linter.unusedSimpArgs false
set_option maxRecDepth 100000

/-- The closure of within. -/
def outB (a b n : Int) : Bool := decide (n < a) || decide (b < n)
theorem inB_non (l : List Int) (a b : Int) : inB l a b = nonB l (outB a b) := by
  unfold inB nonB
  congr 1
  funext j
  unfold outB
  by_cases h1 : l.getD j 0 < a
  · rw [decide_eq_true h1, decide_eq_false (by omega)]; rfl
  · by_cases h2 : b < l.getD j 0
    · rw [decide_eq_true h2, decide_eq_false (by omega), Bool.or_true]; rfl
    · rw [decide_eq_false h1, decide_eq_false h2, decide_eq_true (by omega)]; rfl
/-- Where a loop over the numbers of a list stands. -/
def InR (w : World) (l : List Int) (a b : Int) (g : Nat) (s3 : Value) (W : World) : Prop := ∃ k : Nat, k + g = l.length ∧ s3 = .int .i64 k ∧ (∀ j, j < k → (fun j => decide (a ≤ l.getD j 0 ∧ l.getD j 0 ≤ b)) j = true) ∧ w = W
end Go.Proofs.Ytdlmoijeflchgaa.Kl
