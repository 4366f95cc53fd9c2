/-
  Schedules: the principal of an installment: the program's and the reference's; the reference's Interest.
-/
import Derived.Test.YtmdjikmpgckpbaaDoorSk2
import Derived.Test.YtmdjikmpgckpbaaDoorAn5
namespace Go.Proofs.YtmdjikmpgckpbaaDoor.An
open Go.RowKit
open Go.Proofs.YtmdjikmpgckpbaaDoor
set_option linter.unusedVariables false
theorem rinter_yes (p ppm ev m : Int) (w : World) (h : Ok p ppm ev m) : Calls Tryd.prog 46 #[.int .i64 p, .int .i64 ppm, .int .i64 ev, .int .i64 m] w fun e w' => e = .returned (.tuple #[.int .i64 (intr (ppm * ev) m p), .int .i64 0]) ∧ w = w' := by
  have HA := Lib.hid (fun W => rgd_yes p ppm ev m W h)
  have HI := Lib.hid (fun W => rint_any2 p ppm ev m W h)
  generalize intr (ppm * ev) m p = v at *
  clear h
  go_enter Tryd.func46, Tryd.ntmps46
  go_wp2_with fail
  refine (HA.out _).mono ?_
  rintro e w' ⟨rfl, rfl⟩
  go_wp2_with fail
  refine (HI.out _).mono ?_
  rintro e w' ⟨rfl, rfl⟩
  go_wp2_with fail
  go_ret2
  exact ⟨rfl, rfl⟩
end Go.Proofs.YtmdjikmpgckpbaaDoor.An

namespace Go.Proofs.YtmdjikmpgckpbaaDoor.Kl
open Go.RowKit
open Go.Proofs.YtmdjikmpgckpbaaDoor
open Go.Proofs.YtmdjikmpgckpbaaDoor.Ln (Tm Du)
open Go.Proofs.YtmdjikmpgckpbaaDoor.An (intr)
set_option linter.unusedSimpArgs false
set_option linter.unusedVariables false
set_option maxRecDepth 100000

/-- The principal of an installment but the last. -/
def pq (t : Tm) (pay it : Int) (i : Nat) (left : Int) : Int := if t.me = 2 then (if (i : Int) < t.pr % t.ct then t.pr / t.ct + 1 else t.pr / t.ct) else if t.me = 3 then 0 else min (pay - it) left
theorem prt_pq {t : Tm} {pay left : Int} {i : Nat} (h : i + 1 < t.ct.toNat) : prt t pay i left = pq t pay (intr (t.ppm * t.ev) t.mo left) i left := if_pos h
set_option maxHeartbeats 4000000 in
theorem prin_any (t : Tm) (i : Nat) (left it pay : Int) (w : World) (p0 : 1 ≤ t.pr) (p1 : t.pr ≤ 1000000000000) (c0 : 1 ≤ t.ct) (c1 : t.ct ≤ 120) (i1 : i ≤ 120) (a0 : 0 ≤ pay) (a1 : pay ≤ 1000000000000) (b0 : 0 ≤ it) (b1 : it ≤ 1000000000000) :
    Calls Tryd.prog 44 #[(.agg #[.int .i64 (t).me, .int .i64 (t).pr, .int .i64 (t).ppm, .int .i64 (t).stt, .int .i64 (t).ev, .int .i64 (t).ct, .int .i64 (t).ba, .int .i64 (t).mo, .int .i64 (t).pen, .int .i64 (t).fe, .string (t).cal, .string (t).cur]), .int .i64 (i : Int), .int .i64 left, .int .i64 it, .int .i64 pay] w fun e w' => e = .returned (.int .i64 (pq t pay it i left)) ∧ Below w.heap.size w w' := by
  have cw : Below w.heap.size w (w.alloc (.cells #[.int .i64 (t).me, .int .i64 (t).pr, .int .i64 (t).ppm, .int .i64 (t).stt, .int .i64 (t).ev, .int .i64 (t).ct, .int .i64 (t).ba, .int .i64 (t).mo, .int .i64 (t).pen, .int .i64 (t).fe, .string (t).cal, .string (t).cur] 23)) := (Below.refl _ _).alloc (Nat.le_refl _) _
  have kt : Bk.Blk (w.alloc (.cells #[.int .i64 (t).me, .int .i64 (t).pr, .int .i64 (t).ppm, .int .i64 (t).stt, .int .i64 (t).ev, .int .i64 (t).ct, .int .i64 (t).ba, .int .i64 (t).mo, .int .i64 (t).pen, .int .i64 (t).fe, .string (t).cal, .string (t).cur] 23)) w.heap.size #[.int .i64 (t).me, .int .i64 (t).pr, .int .i64 (t).ppm, .int .i64 (t).stt, .int .i64 (t).ev, .int .i64 (t).ct, .int .i64 (t).ba, .int .i64 (t).mo, .int .i64 (t).pen, .int .i64 (t).fe, .string (t).cal, .string (t).cur] 23 := Bk.Blk.nw10
  obtain ⟨q, hq⟩ : ∃ q, q = t.pr / t.ct := ⟨_, rfl⟩
  obtain ⟨r, hr⟩ : ∃ r, r = t.pr % t.ct := ⟨_, rfl⟩
  have q0 : 0 ≤ q ∧ q ≤ 1000000000000 := by
    rw [hq]
    exact ⟨Int.ediv_nonneg (by omega) (by omega), Int.le_trans (Int.ediv_le_self _ (by omega)) p1⟩
  have hqq : t.pr.tdiv t.ct = q := by rw [hq]; exact Int.tdiv_eq_ediv_of_nonneg (by omega)
  have hrr : t.pr.tmod t.ct = r := by rw [hr]; exact Int.tmod_eq_emod_of_nonneg (by omega)
  go_enter Tryd.func44, Tryd.ntmps44
  go_upto_region 1 with fail
  generalize (w.alloc (.cells #[.int .i64 (t).me, .int .i64 (t).pr, .int .i64 (t).ppm, .int .i64 (t).stt, .int .i64 (t).ev, .int .i64 (t).ct, .int .i64 (t).ba, .int .i64 (t).mo, .int .i64 (t).pen, .int .i64 (t).fe, .string (t).cal, .string (t).cur] 23)) = w1 at *
  have l0 := kt.c0
  have l1 := kt.c1
  have l5 := kt.c5
  by_cases h2 : t.me = 2
  · have g2 : (t.me == 2) = true := by simp [h2]
    by_cases hi : (i : Int) < r
    · have HF := Lib.hid (show pq t pay it i left = q + 1 by unfold pq; rw [if_pos h2, ← hr, if_pos hi, ← hq])
      clear h2 hq hr
      go_wp2_with fail
      go_ret
      exact ⟨by rw [HF.out]; try rfl, cw⟩
    · have HF := Lib.hid (show pq t pay it i left = q by unfold pq; rw [if_pos h2, ← hr, if_neg hi, ← hq])
      clear h2 hq hr
      go_wp2_with fail
      go_ret
      exact ⟨by rw [HF.out]; try rfl, cw⟩
  · by_cases h3 : t.me = 3
    · have g2 : (t.me == 2) = false := by simp [h2]
      have g3 : (t.me == 3) = true := by simp [h3]
      have HF := Lib.hid (show pq t pay it i left = 0 by unfold pq; rw [if_neg h2, if_pos h3])
      clear h2 h3 hq hr hqq hrr
      go_wp2_with fail
      go_ret
      exact ⟨by rw [HF.out]; try rfl, cw⟩
    · have g2 : (t.me == 2) = false := by simp [h2]
      have g3 : (t.me == 3) = false := by simp [h3]
      have HF := Lib.hid (show pq t pay it i left = min (pay - it) left by unfold pq; rw [if_neg h2, if_neg h3])
      clear h2 h3 hq hr hqq hrr
      go_wp2_with fail
      go_ret
      exact ⟨by rw [HF.out]; try rfl, cw⟩
set_option maxHeartbeats 4000000 in
theorem rprin_any (t : Tm) (i : Nat) (left it pay : Int) (w : World) (p0 : 1 ≤ t.pr) (p1 : t.pr ≤ 1000000000000) (c0 : 1 ≤ t.ct) (c1 : t.ct ≤ 120) (i1 : i ≤ 120) (a0 : 0 ≤ pay) (a1 : pay ≤ 1000000000000) (b0 : 0 ≤ it) (b1 : it ≤ 1000000000000) :
    Calls Tryd.prog 47 #[(.agg #[.int .i64 (t).me, .int .i64 (t).pr, .int .i64 (t).ppm, .int .i64 (t).stt, .int .i64 (t).ev, .int .i64 (t).ct, .int .i64 (t).ba, .int .i64 (t).mo, .int .i64 (t).pen, .int .i64 (t).fe, .string (t).cal, .string (t).cur]), .int .i64 ((i : Int) + 1), .int .i64 left, .int .i64 it, .int .i64 pay] w fun e w' => e = .returned (.int .i64 (pq t pay it i left)) ∧ Below w.heap.size w w' := by
  have cw : Below w.heap.size w (w.alloc (.cells #[.int .i64 (t).me, .int .i64 (t).pr, .int .i64 (t).ppm, .int .i64 (t).stt, .int .i64 (t).ev, .int .i64 (t).ct, .int .i64 (t).ba, .int .i64 (t).mo, .int .i64 (t).pen, .int .i64 (t).fe, .string (t).cal, .string (t).cur] 23)) := (Below.refl _ _).alloc (Nat.le_refl _) _
  have kt : Bk.Blk (w.alloc (.cells #[.int .i64 (t).me, .int .i64 (t).pr, .int .i64 (t).ppm, .int .i64 (t).stt, .int .i64 (t).ev, .int .i64 (t).ct, .int .i64 (t).ba, .int .i64 (t).mo, .int .i64 (t).pen, .int .i64 (t).fe, .string (t).cal, .string (t).cur] 23)) w.heap.size #[.int .i64 (t).me, .int .i64 (t).pr, .int .i64 (t).ppm, .int .i64 (t).stt, .int .i64 (t).ev, .int .i64 (t).ct, .int .i64 (t).ba, .int .i64 (t).mo, .int .i64 (t).pen, .int .i64 (t).fe, .string (t).cal, .string (t).cur] 23 := Bk.Blk.nw10
  obtain ⟨q, hq⟩ : ∃ q, q = t.pr / t.ct := ⟨_, rfl⟩
  obtain ⟨r, hr⟩ : ∃ r, r = t.pr % t.ct := ⟨_, rfl⟩
  have q0 : 0 ≤ q ∧ q ≤ 1000000000000 := by
    rw [hq]
    exact ⟨Int.ediv_nonneg (by omega) (by omega), Int.le_trans (Int.ediv_le_self _ (by omega)) p1⟩
  have hqq : t.pr.tdiv t.ct = q := by rw [hq]; exact Int.tdiv_eq_ediv_of_nonneg (by omega)
  have hrr : t.pr.tmod t.ct = r := by rw [hr]; exact Int.tmod_eq_emod_of_nonneg (by omega)
  go_enter Tryd.func47, Tryd.ntmps47
  go_upto_region 1 with fail
  generalize (w.alloc (.cells #[.int .i64 (t).me, .int .i64 (t).pr, .int .i64 (t).ppm, .int .i64 (t).stt, .int .i64 (t).ev, .int .i64 (t).ct, .int .i64 (t).ba, .int .i64 (t).mo, .int .i64 (t).pen, .int .i64 (t).fe, .string (t).cal, .string (t).cur] 23)) = w1 at *
  have l0 := kt.c0
  have l1 := kt.c1
  have l5 := kt.c5
  by_cases h2 : t.me = 2
  · have g2 : (t.me == 2) = true := by simp [h2]
    by_cases hi : (i : Int) < r
    · have HF := Lib.hid (show pq t pay it i left = q + 1 by unfold pq; rw [if_pos h2, ← hr, if_pos hi, ← hq])
      clear h2 hq hr
      go_wp2_with fail
      go_ret
      exact ⟨by rw [HF.out]; try rfl, cw⟩
    · have HF := Lib.hid (show pq t pay it i left = q by unfold pq; rw [if_pos h2, ← hr, if_neg hi, ← hq])
      clear h2 hq hr
      go_wp2_with fail
      go_ret
      exact ⟨by rw [HF.out]; try rfl, cw⟩
  · by_cases h3 : t.me = 3
    · have g2 : (t.me == 2) = false := by simp [h2]
      have g3 : (t.me == 3) = true := by simp [h3]
      have HF := Lib.hid (show pq t pay it i left = 0 by unfold pq; rw [if_neg h2, if_pos h3])
      clear h2 h3 hq hr hqq hrr
      go_wp2_with fail
      go_ret
      exact ⟨by rw [HF.out]; try rfl, cw⟩
    · have g2 : (t.me == 2) = false := by simp [h2]
      have g3 : (t.me == 3) = false := by simp [h3]
      have HF := Lib.hid (show pq t pay it i left = min (pay - it) left by unfold pq; rw [if_neg h2, if_neg h3])
      clear h2 h3 hq hr hqq hrr
      go_wp2_with fail
      go_ret
      exact ⟨by rw [HF.out]; try rfl, cw⟩
end Go.Proofs.YtmdjikmpgckpbaaDoor.Kl
