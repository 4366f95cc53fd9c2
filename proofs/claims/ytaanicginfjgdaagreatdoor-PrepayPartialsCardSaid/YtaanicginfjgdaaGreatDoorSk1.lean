/-
 Schedules: Check: the program's and the reference's.
-/
import Derived.Test.YtaanicginfjgdaaGreatDoorKca
import Derived.Test.YtaanicginfjgdaaGreatDoorSma
import Derived.Test.YtaanicginfjgdaaGreatDoorRd2
namespace Go.Proofs.YtaanicginfjgdaaGreatDoor.Kl
open Go.RowKit
open Go.Proofs.YtaanicginfjgdaaGreatDoor
open Go.Proofs.YtaanicginfjgdaaGreatDoor.Ln (Tm Du)
set_option linter.unusedSimpArgs false
set_option linter.unusedVariables false
set_option maxRecDepth 100000

theorem sk_num {t : Tm} {c : Cl} (h : ¬ ((1 ≤ t.me ∧ t.me ≤ 4) ∧ (1 ≤ t.pr ∧ t.pr ≤ 1000000000000) ∧ (0 ≤ t.ppm ∧ t.ppm ≤ 1000000) ∧ (0 ≤ t.pen ∧ t.pen ≤ 1000000) ∧ (0 ≤ t.fe ∧ t.fe ≤ 1000000) ∧ (0 ≤ t.stt ∧ t.stt ≤ 73048) ∧ (1 ≤ t.ev ∧ t.ev ≤ 12) ∧ (1 ≤ t.ct ∧ t.ct ≤ 120) ∧ (1 ≤ t.mo ∧ t.mo ≤ 6) ∧ (t.me = 4 → 0 ≤ t.ba ∧ t.ba < t.pr) ∧ (t.me ≠ 4 → t.ba = 0))) : skE t c = 1 := by
 unfold skE
 refine if_pos ?_
 apply Classical.byContradiction
 intro hn
 rw [not_or] at hn
 apply h
 have h1 : numB t = true := by simpa using hn.1
 have h2 : balB t = true := by simpa using hn.2
 unfold numB rateB dOk at h1
 simp only [Bool.and_eq_true, decide_eq_true_eq] at h1
 unfold balB at h2
 refine ⟨by omega, by omega, by omega, by omega, by omega, by omega, by omega, by omega, by omega, fun h4 => ?_, fun h4 => ?_⟩
 ·rw [if_pos h4, decide_eq_true_eq] at h2
  exact h2
 ·rw [if_neg h4, decide_eq_true_eq] at h2
  exact h2
theorem sk_yes {t : Tm} {c : Cl} (h : (1 ≤ t.me ∧ t.me ≤ 4) ∧ (1 ≤ t.pr ∧ t.pr ≤ 1000000000000) ∧ (0 ≤ t.ppm ∧ t.ppm ≤ 1000000) ∧ (0 ≤ t.pen ∧ t.pen ≤ 1000000) ∧ (0 ≤ t.fe ∧ t.fe ≤ 1000000) ∧ (0 ≤ t.stt ∧ t.stt ≤ 73048) ∧ (1 ≤ t.ev ∧ t.ev ≤ 12) ∧ (1 ≤ t.ct ∧ t.ct ≤ 120) ∧ (1 ≤ t.mo ∧ t.mo ≤ 6) ∧ (t.me = 4 → 0 ≤ t.ba ∧ t.ba < t.pr) ∧ (t.me ≠ 4 → t.ba = 0)) : skE t c = if codeB t.cur = false then 14 else if clE c ≠ 0 then clE c else if t.cal ≠ c.nm then 11 else 0 := by
 unfold skE
 refine if_neg ?_
 have h1 : numB t = true := by
  unfold numB rateB dOk
  simp only [Bool.and_eq_true, decide_eq_true_eq]
  omega
 have h2 : balB t = true := by
  unfold balB
  split
  ·rename_i h4
   exact decide_eq_true (h.2.2.2.2.2.2.2.2.2.1 h4)
  ·rename_i h4
   exact decide_eq_true (h.2.2.2.2.2.2.2.2.2.2 h4)
 rw [h1, h2]
 simp
theorem ls_inj {a b : ByteArray} (h : a.toList = b.toList) : a = b := by
 have e : a.data.toList = b.data.toList := by rw [← ByteArray.toList_eq, ← ByteArray.toList_eq, h]
 cases a; cases b
 congr 1
 exact Array.toList_inj.1 e
def inr (n a b : Int) : Bool := decide (a ≤ n) && decide (n ≤ b)
theorem sw_yes (n a b : Int) (w : World) (h0 : a ≤ n) (h1 : n ≤ b) : Calls Tryz.prog 102 #[.int .i64 n, .int .i64 a, .int .i64 b] w fun e w' => e = .returned (.bool true) ∧ w = w' := by
 go_enter Tryz.func102, Tryz.ntmps102
 go_wp2_with fail
 go_ret
 exact ⟨by first | rfl | (simp; omega), rfl⟩
theorem sw_no (n a b : Int) (w : World) (h : ¬ (a ≤ n ∧ n ≤ b)) : Calls Tryz.prog 102 #[.int .i64 n, .int .i64 a, .int .i64 b] w fun e w' => e = .returned (.bool false) ∧ w = w' := by
 by_cases h0 : a ≤ n
 ·go_enter Tryz.func102, Tryz.ntmps102
  go_wp2_with fail
  go_ret
  exact ⟨by first | rfl | (simp; omega), rfl⟩
 ·go_enter Tryz.func102, Tryz.ntmps102
  go_wp2_with fail
  go_ret
  exact ⟨by first | rfl | (simp; omega), rfl⟩
theorem rr_yes (n : Int) (w : World) (h0 : 0 ≤ n) (h1 : n ≤ 1000000) : Calls Tryz.prog 109 #[.int .i64 n] w fun e w' => e = .returned (.bool true) ∧ w = w' := by
 go_enter Tryz.func109, Tryz.ntmps109
 go_wp2_with fail
 go_ret
 exact ⟨by first | rfl | (simp; omega), rfl⟩
theorem rr_no (n : Int) (w : World) (h : ¬ (0 ≤ n ∧ n ≤ 1000000)) : Calls Tryz.prog 109 #[.int .i64 n] w fun e w' => e = .returned (.bool false) ∧ w = w' := by
 by_cases h0 : 0 ≤ n
 ·go_enter Tryz.func109, Tryz.ntmps109
  go_wp2_with fail
  go_ret
  exact ⟨by first | rfl | (simp; omega), rfl⟩
 ·go_enter Tryz.func109, Tryz.ntmps109
  go_wp2_with fail
  go_ret
  exact ⟨by first | rfl | (simp; omega), rfl⟩
set_option maxHeartbeats 16000000 in
theorem skchk_any (t : Tm) (c : Cl) (wa ha : Option Addr) (wc hc : Nat) (w : World) (h : CalIn w c wa ha) (hcu : t.cur.size ≤ maxLen) : Calls Tryz.prog 68 #[(.agg #[.int .i64 (t).me, .int .i64 (t).pr, .int .i64 (t).ppm, .int .i64 (t).stt, .int .i64 (t).ev, .int .i64 (t).ct, .int .i64 (t).ba, .int .i64 (t).mo, .int .i64 (t).pen, .int .i64 (t).fe, .string (t).cal, .string (t).cur]), (.agg #[.string (c).nm, .slice wa (c).wk.length wc, .slice ha (c).hol.length hc])] w fun e w' => e = .returned (.int .i64 (skE t c)) ∧ Below w.heap.size w w' := by
 have cw : Below w.heap.size w ((w.alloc (.cells #[.int .i64 (t).me, .int .i64 (t).pr, .int .i64 (t).ppm, .int .i64 (t).stt, .int .i64 (t).ev, .int .i64 (t).ct, .int .i64 (t).ba, .int .i64 (t).mo, .int .i64 (t).pen, .int .i64 (t).fe, .string (t).cal, .string (t).cur] 23)).alloc (.cells #[.string c.nm, .slice wa c.wk.length wc, .slice ha c.hol.length hc] 44)) := ((Below.refl _ _).alloc (Nat.le_refl _) _).alloc (by simp) _
 have kt : Bk.Blk ((w.alloc (.cells #[.int .i64 (t).me, .int .i64 (t).pr, .int .i64 (t).ppm, .int .i64 (t).stt, .int .i64 (t).ev, .int .i64 (t).ct, .int .i64 (t).ba, .int .i64 (t).mo, .int .i64 (t).pen, .int .i64 (t).fe, .string (t).cal, .string (t).cur] 23)).alloc (.cells #[.string c.nm, .slice wa c.wk.length wc, .slice ha c.hol.length hc] 44)) w.heap.size _ 23 := Bk.Blk.nw20
 have kc : Bk.Blk ((w.alloc (.cells #[.int .i64 (t).me, .int .i64 (t).pr, .int .i64 (t).ppm, .int .i64 (t).stt, .int .i64 (t).ev, .int .i64 (t).ct, .int .i64 (t).ba, .int .i64 (t).mo, .int .i64 (t).pen, .int .i64 (t).fe, .string (t).cal, .string (t).cur] 23)).alloc (.cells #[.string c.nm, .slice wa c.wk.length wc, .slice ha c.hol.length hc] 44)) (w.heap.size + 1) _ 44 := Bk.Blk.nw21
 have hi := h.later cw
 clear h
 go_enter Tryz.func68, Tryz.ntmps68
 go_upto_region 1 with fail
 generalize ((w.alloc (.cells _ 23)).alloc (.cells _ 44)) = w1 at *
 have cw1 := cw
 clear cw
 have l0 := kt.c0
 have l1 := kt.c1
 have l2 := kt.c2
 have l3 := kt.c3
 have l4 := kt.c4
 have l5 := kt.c5
 have l6 := kt.c6
 have l7 := kt.c7
 have l8 := kt.c8
 have l9 := kt.c9
 have l10 := kt.c10
 have l11 := kt.c11
 have m0 := kc.c0
 have m1 := kc.c1
 have m2 := kc.c2
 go_wp2_with fail
 by_cases h_me : 1 ≤ t.me ∧ t.me ≤ 4
 ·refine (sw_yes _ _ _ _ h_me.1 h_me.2).mono ?_
  rintro e w' ⟨rfl, rfl⟩
  go_wp2_with fail
  by_cases h_pr : 1 ≤ t.pr ∧ t.pr ≤ 1000000000000
  ·refine (sw_yes _ _ _ _ h_pr.1 h_pr.2).mono ?_
   rintro e w' ⟨rfl, rfl⟩
   go_wp2_with fail
   by_cases h_ppm : 0 ≤ t.ppm ∧ t.ppm ≤ 1000000
   ·refine (sw_yes _ _ _ _ h_ppm.1 h_ppm.2).mono ?_
    rintro e w' ⟨rfl, rfl⟩
    go_wp2_with fail
    by_cases h_pen : 0 ≤ t.pen ∧ t.pen ≤ 1000000
    ·refine (sw_yes _ _ _ _ h_pen.1 h_pen.2).mono ?_
     rintro e w' ⟨rfl, rfl⟩
     go_wp2_with fail
     by_cases h_fe : 0 ≤ t.fe ∧ t.fe ≤ 1000000
     ·refine (sw_yes _ _ _ _ h_fe.1 h_fe.2).mono ?_
      rintro e w' ⟨rfl, rfl⟩
      go_wp2_with fail
      by_cases h_stt : 0 ≤ t.stt ∧ t.stt ≤ 73048
      ·refine (Dt.valid_yes _ _ h_stt.1 h_stt.2).mono ?_
       rintro e w' ⟨rfl, rfl⟩
       go_wp2_with fail
       by_cases h_ev : 1 ≤ t.ev ∧ t.ev ≤ 12
       ·refine (sw_yes _ _ _ _ h_ev.1 h_ev.2).mono ?_
        rintro e w' ⟨rfl, rfl⟩
        go_wp2_with fail
        by_cases h_ct : 1 ≤ t.ct ∧ t.ct ≤ 120
        ·refine (sw_yes _ _ _ _ h_ct.1 h_ct.2).mono ?_
         rintro e w' ⟨rfl, rfl⟩
         go_wp2_with fail
         by_cases h_mo : 1 ≤ t.mo ∧ t.mo ≤ 6
         ·refine (Rd.valid_yes _ _ h_mo.1 h_mo.2).mono ?_
          rintro e w' ⟨rfl, rfl⟩
          by_cases h4 : t.me = 4
          ·have g4 : (t.me == 4) = true := by simp [h4]
           have g5 : (t.me != 4) = false := by simp [h4]
           go_wp2_with fail
           by_cases hB : 0 ≤ t.ba ∧ t.ba ≤ t.pr - 1
           ·refine (sw_yes _ _ _ _ hB.1 hB.2).mono ?_
            rintro e w' ⟨rfl, rfl⟩
            have HY := Lib.hid (sk_yes (t := t) (c := c) (by refine ⟨h_me, h_pr, h_ppm, h_pen, h_fe, h_stt, h_ev, h_ct, h_mo, fun _ => by omega, fun _ => by omega⟩))
            clear h4 h_me h_pr h_ppm h_pen h_fe h_stt h_ev h_ct h_mo hB
            go_wp2_with fail
            clear l0 l1 l2 l3 l4 l5 l6 l7 l8 l9 l10 l11 m0 m1 m2
            refine (code_any t.cur _ hcu).mono ?_
            rintro e w2 ⟨rfl, hb⟩
            replace kt := kt.later hb
            replace kc := kc.later hb
            replace hi := hi.later hb
            have cw2 := bl2 hb cw1
            clear hb cw1
            cases hb1 : codeB t.cur
            ·have HF := Lib.hid (HY.out.trans (if_pos hb1))
             clear hb1 HY
             go_wp2_with fail
             go_ret
             exact ⟨by rw [HF.out]; try rfl, cw2⟩
            ·have HY2 := Lib.hid (HY.out.trans (if_neg (by rw [hb1]; simp)))
             clear hb1 HY
             have m0 := kc.c0
             have m1 := kc.c1
             have m2 := kc.c2
             go_wp2_with fail
             clear m0 m1 m2
             refine (clchk_any c wa ha wc hc _ hi).mono ?_
             rintro e w3 ⟨rfl, hb⟩
             replace kt := kt.later hb
             replace kc := kc.later hb
             replace hi := hi.later hb
             have cw3 := bl2 hb cw2
             clear hb cw2
             by_cases he : clE c ≠ 0
             ·have HF := Lib.hid (HY2.out.trans (if_pos he))
              have g1 : (clE c != 0) = true := by simpa using he
              clear HY2 he
              generalize clE c = E at *
              go_wp2_with fail
              go_ret
              exact ⟨by rw [HF.out]; try rfl, cw3⟩
             ·have HY3 := Lib.hid (HY2.out.trans (if_neg he))
              have g1 : (clE c != 0) = false := by simpa using he
              clear HY2 he
              generalize clE c = E at *
              have l10 := kt.c10
              have m0 := kc.c0
              by_cases hs : t.cal = c.nm
              ·have HF := Lib.hid (HY3.out.trans (if_neg (by rw [hs]; simp)))
               have g2 : (t.cal.toList == c.nm.toList) = true := by rw [hs]; exact beq_self_eq_true _
               clear hs HY3
               go_wp2_with fail
               go_ret
               exact ⟨by rw [HF.out]; try rfl, cw3⟩
              ·have HF := Lib.hid (HY3.out.trans (if_pos hs))
               have g2 : (t.cal.toList == c.nm.toList) = false := beq_eq_false_iff_ne.2 (fun e => hs (ls_inj e))
               clear hs HY3
               go_wp2_with fail
               go_ret
               exact ⟨by rw [HF.out]; try rfl, cw3⟩
           ·refine (sw_no _ _ _ _ hB).mono ?_
            rintro e w' ⟨rfl, rfl⟩
            have HF := Lib.hid (sk_num (t := t) (c := c) (fun hh => by omega))
            go_wp2_with fail
            go_ret
            exact ⟨by rw [HF.out]; try rfl, cw1⟩
          ·have g4 : (t.me == 4) = false := by simp [h4]
           have g5 : (t.me != 4) = true := by simp [h4]
           by_cases hB : t.ba = 0
           ·have g6 : (t.ba != 0) = false := by simp [hB]
            have HY := Lib.hid (sk_yes (t := t) (c := c) (by refine ⟨h_me, h_pr, h_ppm, h_pen, h_fe, h_stt, h_ev, h_ct, h_mo, fun _ => by omega, fun _ => by omega⟩))
            clear h4 hB
            clear h_me h_pr h_ppm h_pen h_fe h_stt h_ev h_ct h_mo
            go_wp2_with fail
            clear l0 l1 l2 l3 l4 l5 l6 l7 l8 l9 l10 l11 m0 m1 m2
            refine (code_any t.cur _ hcu).mono ?_
            rintro e w2 ⟨rfl, hb⟩
            replace kt := kt.later hb
            replace kc := kc.later hb
            replace hi := hi.later hb
            have cw2 := bl2 hb cw1
            clear hb cw1
            cases hb1 : codeB t.cur
            ·have HF := Lib.hid (HY.out.trans (if_pos hb1))
             clear hb1 HY
             go_wp2_with fail
             go_ret
             exact ⟨by rw [HF.out]; try rfl, cw2⟩
            ·have HY2 := Lib.hid (HY.out.trans (if_neg (by rw [hb1]; simp)))
             clear hb1 HY
             have m0 := kc.c0
             have m1 := kc.c1
             have m2 := kc.c2
             go_wp2_with fail
             clear m0 m1 m2
             refine (clchk_any c wa ha wc hc _ hi).mono ?_
             rintro e w3 ⟨rfl, hb⟩
             replace kt := kt.later hb
             replace kc := kc.later hb
             replace hi := hi.later hb
             have cw3 := bl2 hb cw2
             clear hb cw2
             by_cases he : clE c ≠ 0
             ·have HF := Lib.hid (HY2.out.trans (if_pos he))
              have g1 : (clE c != 0) = true := by simpa using he
              clear HY2 he
              generalize clE c = E at *
              go_wp2_with fail
              go_ret
              exact ⟨by rw [HF.out]; try rfl, cw3⟩
             ·have HY3 := Lib.hid (HY2.out.trans (if_neg he))
              have g1 : (clE c != 0) = false := by simpa using he
              clear HY2 he
              generalize clE c = E at *
              have l10 := kt.c10
              have m0 := kc.c0
              by_cases hs : t.cal = c.nm
              ·have HF := Lib.hid (HY3.out.trans (if_neg (by rw [hs]; simp)))
               have g2 : (t.cal.toList == c.nm.toList) = true := by rw [hs]; exact beq_self_eq_true _
               clear hs HY3
               go_wp2_with fail
               go_ret
               exact ⟨by rw [HF.out]; try rfl, cw3⟩
              ·have HF := Lib.hid (HY3.out.trans (if_pos hs))
               have g2 : (t.cal.toList == c.nm.toList) = false := beq_eq_false_iff_ne.2 (fun e => hs (ls_inj e))
               clear hs HY3
               go_wp2_with fail
               go_ret
               exact ⟨by rw [HF.out]; try rfl, cw3⟩
           ·have g6 : (t.ba != 0) = true := by simp [hB]
            have HF := Lib.hid (sk_num (t := t) (c := c) (fun hh => by omega))
            go_wp2_with fail
            go_ret
            exact ⟨by rw [HF.out]; try rfl, cw1⟩
         ·refine (Rd.valid_no _ _ (by omega)).mono ?_
          rintro e w' ⟨rfl, rfl⟩
          have HF := Lib.hid (sk_num (t := t) (c := c) (fun hh => by omega))
          go_wp2_with fail
          go_ret
          exact ⟨by rw [HF.out]; try rfl, cw1⟩
        ·refine (sw_no _ _ _ _ h_ct).mono ?_
         rintro e w' ⟨rfl, rfl⟩
         have HF := Lib.hid (sk_num (t := t) (c := c) (fun hh => by omega))
         go_wp2_with fail
         go_ret
         exact ⟨by rw [HF.out]; try rfl, cw1⟩
       ·refine (sw_no _ _ _ _ h_ev).mono ?_
        rintro e w' ⟨rfl, rfl⟩
        have HF := Lib.hid (sk_num (t := t) (c := c) (fun hh => by omega))
        go_wp2_with fail
        go_ret
        exact ⟨by rw [HF.out]; try rfl, cw1⟩
      ·refine (Dt.valid_no _ _ (by omega)).mono ?_
       rintro e w' ⟨rfl, rfl⟩
       have HF := Lib.hid (sk_num (t := t) (c := c) (fun hh => by omega))
       go_wp2_with fail
       go_ret
       exact ⟨by rw [HF.out]; try rfl, cw1⟩
     ·refine (sw_no _ _ _ _ h_fe).mono ?_
      rintro e w' ⟨rfl, rfl⟩
      have HF := Lib.hid (sk_num (t := t) (c := c) (fun hh => by omega))
      go_wp2_with fail
      go_ret
      exact ⟨by rw [HF.out]; try rfl, cw1⟩
    ·refine (sw_no _ _ _ _ h_pen).mono ?_
     rintro e w' ⟨rfl, rfl⟩
     have HF := Lib.hid (sk_num (t := t) (c := c) (fun hh => by omega))
     go_wp2_with fail
     go_ret
     exact ⟨by rw [HF.out]; try rfl, cw1⟩
   ·refine (sw_no _ _ _ _ h_ppm).mono ?_
    rintro e w' ⟨rfl, rfl⟩
    have HF := Lib.hid (sk_num (t := t) (c := c) (fun hh => by omega))
    go_wp2_with fail
    go_ret
    exact ⟨by rw [HF.out]; try rfl, cw1⟩
  ·refine (sw_no _ _ _ _ h_pr).mono ?_
   rintro e w' ⟨rfl, rfl⟩
   have HF := Lib.hid (sk_num (t := t) (c := c) (fun hh => by omega))
   go_wp2_with fail
   go_ret
   exact ⟨by rw [HF.out]; try rfl, cw1⟩
 ·refine (sw_no _ _ _ _ h_me).mono ?_
  rintro e w' ⟨rfl, rfl⟩
  have HF := Lib.hid (sk_num (t := t) (c := c) (fun hh => by omega))
  go_wp2_with fail
  go_ret
  exact ⟨by rw [HF.out]; try rfl, cw1⟩
set_option maxHeartbeats 16000000 in
theorem rskchk_any (t : Tm) (c : Cl) (wa ha : Option Addr) (wc hc : Nat) (w : World) (h : CalIn w c wa ha) (hcu : t.cur.size ≤ maxLen) : Calls Tryz.prog 73 #[(.agg #[.int .i64 (t).me, .int .i64 (t).pr, .int .i64 (t).ppm, .int .i64 (t).stt, .int .i64 (t).ev, .int .i64 (t).ct, .int .i64 (t).ba, .int .i64 (t).mo, .int .i64 (t).pen, .int .i64 (t).fe, .string (t).cal, .string (t).cur]), (.agg #[.string (c).nm, .slice wa (c).wk.length wc, .slice ha (c).hol.length hc])] w fun e w' => e = .returned (.int .i64 (skE t c)) ∧ Below w.heap.size w w' := by
 have cw : Below w.heap.size w ((w.alloc (.cells #[.int .i64 (t).me, .int .i64 (t).pr, .int .i64 (t).ppm, .int .i64 (t).stt, .int .i64 (t).ev, .int .i64 (t).ct, .int .i64 (t).ba, .int .i64 (t).mo, .int .i64 (t).pen, .int .i64 (t).fe, .string (t).cal, .string (t).cur] 23)).alloc (.cells #[.string c.nm, .slice wa c.wk.length wc, .slice ha c.hol.length hc] 44)) := ((Below.refl _ _).alloc (Nat.le_refl _) _).alloc (by simp) _
 have kt : Bk.Blk ((w.alloc (.cells #[.int .i64 (t).me, .int .i64 (t).pr, .int .i64 (t).ppm, .int .i64 (t).stt, .int .i64 (t).ev, .int .i64 (t).ct, .int .i64 (t).ba, .int .i64 (t).mo, .int .i64 (t).pen, .int .i64 (t).fe, .string (t).cal, .string (t).cur] 23)).alloc (.cells #[.string c.nm, .slice wa c.wk.length wc, .slice ha c.hol.length hc] 44)) w.heap.size _ 23 := Bk.Blk.nw20
 have kc : Bk.Blk ((w.alloc (.cells #[.int .i64 (t).me, .int .i64 (t).pr, .int .i64 (t).ppm, .int .i64 (t).stt, .int .i64 (t).ev, .int .i64 (t).ct, .int .i64 (t).ba, .int .i64 (t).mo, .int .i64 (t).pen, .int .i64 (t).fe, .string (t).cal, .string (t).cur] 23)).alloc (.cells #[.string c.nm, .slice wa c.wk.length wc, .slice ha c.hol.length hc] 44)) (w.heap.size + 1) _ 44 := Bk.Blk.nw21
 have hi := h.later cw
 clear h
 go_enter Tryz.func73, Tryz.ntmps73
 go_upto_region 1 with fail
 generalize ((w.alloc (.cells _ 23)).alloc (.cells _ 44)) = w1 at *
 have cw1 := cw
 clear cw
 have l0 := kt.c0
 have l1 := kt.c1
 have l2 := kt.c2
 have l3 := kt.c3
 have l4 := kt.c4
 have l5 := kt.c5
 have l6 := kt.c6
 have l7 := kt.c7
 have l8 := kt.c8
 have l9 := kt.c9
 have l10 := kt.c10
 have l11 := kt.c11
 have m0 := kc.c0
 have m1 := kc.c1
 have m2 := kc.c2
 by_cases h0 : t.me < 1
 ·have HF := Lib.hid (sk_num (t := t) (c := c) (fun hh => by omega))
  go_wp2_with fail
  go_ret
  exact ⟨by rw [HF.out]; try rfl, cw1⟩
 ·by_cases h1 : 4 < t.me
  ·have HF := Lib.hid (sk_num (t := t) (c := c) (fun hh => by omega))
   go_wp2_with fail
   go_ret
   exact ⟨by rw [HF.out]; try rfl, cw1⟩
  ·by_cases h2 : t.pr < 1
   ·have HF := Lib.hid (sk_num (t := t) (c := c) (fun hh => by omega))
    go_wp2_with fail
    go_ret
    exact ⟨by rw [HF.out]; try rfl, cw1⟩
   ·by_cases h3 : 1000000000000 < t.pr
    ·have HF := Lib.hid (sk_num (t := t) (c := c) (fun hh => by omega))
     go_wp2_with fail
     go_ret
     exact ⟨by rw [HF.out]; try rfl, cw1⟩
    ·go_wp2_with fail
     by_cases h_ppm : 0 ≤ t.ppm ∧ t.ppm ≤ 1000000
     ·refine (rr_yes _ _ h_ppm.1 h_ppm.2).mono ?_
      rintro e w' ⟨rfl, rfl⟩
      go_wp2_with fail
      by_cases h_pen : 0 ≤ t.pen ∧ t.pen ≤ 1000000
      ·refine (rr_yes _ _ h_pen.1 h_pen.2).mono ?_
       rintro e w' ⟨rfl, rfl⟩
       go_wp2_with fail
       by_cases h_fe : 0 ≤ t.fe ∧ t.fe ≤ 1000000
       ·refine (rr_yes _ _ h_fe.1 h_fe.2).mono ?_
        rintro e w' ⟨rfl, rfl⟩
        go_wp2_with fail
        by_cases h_stt : 0 ≤ t.stt ∧ t.stt ≤ 73048
        ·refine (Dt.rvalid_yes _ _ h_stt.1 h_stt.2).mono ?_
         rintro e w' ⟨rfl, rfl⟩
         by_cases h8 : t.ev < 1
         ·have HF := Lib.hid (sk_num (t := t) (c := c) (fun hh => by omega))
          go_wp2_with fail
          go_ret
          exact ⟨by rw [HF.out]; try rfl, cw1⟩
         ·by_cases h9 : 12 < t.ev
          ·have HF := Lib.hid (sk_num (t := t) (c := c) (fun hh => by omega))
           go_wp2_with fail
           go_ret
           exact ⟨by rw [HF.out]; try rfl, cw1⟩
          ·by_cases h10 : t.ct < 1
           ·have HF := Lib.hid (sk_num (t := t) (c := c) (fun hh => by omega))
            go_wp2_with fail
            go_ret
            exact ⟨by rw [HF.out]; try rfl, cw1⟩
           ·by_cases h11 : 120 < t.ct
            ·have HF := Lib.hid (sk_num (t := t) (c := c) (fun hh => by omega))
             go_wp2_with fail
             go_ret
             exact ⟨by rw [HF.out]; try rfl, cw1⟩
            ·by_cases h12 : t.ba < 0
             ·have HF := Lib.hid (sk_num (t := t) (c := c) (fun hh => by omega))
              go_wp2_with fail
              go_ret
              exact ⟨by rw [HF.out]; try rfl, cw1⟩
             ·by_cases h13 : t.pr ≤ t.ba
              ·have HF := Lib.hid (sk_num (t := t) (c := c) (fun hh => by omega))
               go_wp2_with fail
               go_ret
               exact ⟨by rw [HF.out]; try rfl, cw1⟩
              ·by_cases h4 : t.me = 4
               ·have g4 : (t.me != 4) = false := by simp [h4]
                go_wp2_with fail
                by_cases h_mo : 1 ≤ t.mo ∧ t.mo ≤ 6
                ·refine (Rd.rvalid_yes _ _ h_mo.1 h_mo.2).mono ?_
                 rintro e w' ⟨rfl, rfl⟩
                 have HY := Lib.hid (sk_yes (t := t) (c := c) (by refine ⟨by omega, by omega, h_ppm, h_pen, h_fe, h_stt, by omega, by omega, h_mo, fun _ => by omega, fun _ => by omega⟩))
                 clear h4
                 go_wp2_with fail
                 clear l0 l1 l2 l3 l4 l5 l6 l7 l8 l9 l10 l11 m0 m1 m2
                 refine (rcode_any t.cur _ hcu).mono ?_
                 rintro e w' ⟨rfl, rfl⟩
                 have cw2 := cw1
                 clear cw1
                 cases hb1 : codeB t.cur
                 ·have HF := Lib.hid (HY.out.trans (if_pos hb1))
                  clear hb1 HY
                  go_wp2_with fail
                  go_ret
                  exact ⟨by rw [HF.out]; try rfl, cw2⟩
                 ·have HY2 := Lib.hid (HY.out.trans (if_neg (by rw [hb1]; simp)))
                  clear hb1 HY
                  have m0 := kc.c0
                  have m1 := kc.c1
                  have m2 := kc.c2
                  go_wp2_with fail
                  clear m0 m1 m2
                  refine (rclchk_any c wa ha wc hc _ hi).mono ?_
                  rintro e w3 ⟨rfl, hb⟩
                  replace kt := kt.later hb
                  replace kc := kc.later hb
                  replace hi := hi.later hb
                  have cw3 := bl2 hb cw2
                  clear hb cw2
                  by_cases he : clE c ≠ 0
                  ·have HF := Lib.hid (HY2.out.trans (if_pos he))
                   have g1 : (clE c != 0) = true := by simpa using he
                   clear HY2 he
                   generalize clE c = E at *
                   go_wp2_with fail
                   go_ret
                   exact ⟨by rw [HF.out]; try rfl, cw3⟩
                  ·have HY3 := Lib.hid (HY2.out.trans (if_neg he))
                   have g1 : (clE c != 0) = false := by simpa using he
                   clear HY2 he
                   generalize clE c = E at *
                   have l10 := kt.c10
                   have m0 := kc.c0
                   by_cases hs : t.cal = c.nm
                   ·have HF := Lib.hid (HY3.out.trans (if_neg (by rw [hs]; simp)))
                    have g2 : (t.cal.toList == c.nm.toList) = true := by rw [hs]; exact beq_self_eq_true _
                    clear hs HY3
                    go_wp2_with fail
                    go_ret
                    exact ⟨by rw [HF.out]; try rfl, cw3⟩
                   ·have HF := Lib.hid (HY3.out.trans (if_pos hs))
                    have g2 : (t.cal.toList == c.nm.toList) = false := beq_eq_false_iff_ne.2 (fun e => hs (ls_inj e))
                    clear hs HY3
                    go_wp2_with fail
                    go_ret
                    exact ⟨by rw [HF.out]; try rfl, cw3⟩
                ·refine (Rd.rvalid_no _ _ (by omega)).mono ?_
                 rintro e w' ⟨rfl, rfl⟩
                 have HF := Lib.hid (sk_num (t := t) (c := c) (fun hh => by omega))
                 go_wp2_with fail
                 go_ret
                 exact ⟨by rw [HF.out]; try rfl, cw1⟩
               ·have g4 : (t.me != 4) = true := by simp [h4]
                by_cases hB : t.ba = 0
                ·have g6 : (t.ba != 0) = false := by simp [hB]
                 go_wp2_with fail
                 by_cases h_mo : 1 ≤ t.mo ∧ t.mo ≤ 6
                 ·refine (Rd.rvalid_yes _ _ h_mo.1 h_mo.2).mono ?_
                  rintro e w' ⟨rfl, rfl⟩
                  have HY := Lib.hid (sk_yes (t := t) (c := c) (by refine ⟨by omega, by omega, h_ppm, h_pen, h_fe, h_stt, by omega, by omega, h_mo, fun _ => by omega, fun _ => by omega⟩))
                  clear h4
                  clear hB
                  go_wp2_with fail
                  clear l0 l1 l2 l3 l4 l5 l6 l7 l8 l9 l10 l11 m0 m1 m2
                  refine (rcode_any t.cur _ hcu).mono ?_
                  rintro e w' ⟨rfl, rfl⟩
                  have cw2 := cw1
                  clear cw1
                  cases hb1 : codeB t.cur
                  ·have HF := Lib.hid (HY.out.trans (if_pos hb1))
                   clear hb1 HY
                   go_wp2_with fail
                   go_ret
                   exact ⟨by rw [HF.out]; try rfl, cw2⟩
                  ·have HY2 := Lib.hid (HY.out.trans (if_neg (by rw [hb1]; simp)))
                   clear hb1 HY
                   have m0 := kc.c0
                   have m1 := kc.c1
                   have m2 := kc.c2
                   go_wp2_with fail
                   clear m0 m1 m2
                   refine (rclchk_any c wa ha wc hc _ hi).mono ?_
                   rintro e w3 ⟨rfl, hb⟩
                   replace kt := kt.later hb
                   replace kc := kc.later hb
                   replace hi := hi.later hb
                   have cw3 := bl2 hb cw2
                   clear hb cw2
                   by_cases he : clE c ≠ 0
                   ·have HF := Lib.hid (HY2.out.trans (if_pos he))
                    have g1 : (clE c != 0) = true := by simpa using he
                    clear HY2 he
                    generalize clE c = E at *
                    go_wp2_with fail
                    go_ret
                    exact ⟨by rw [HF.out]; try rfl, cw3⟩
                   ·have HY3 := Lib.hid (HY2.out.trans (if_neg he))
                    have g1 : (clE c != 0) = false := by simpa using he
                    clear HY2 he
                    generalize clE c = E at *
                    have l10 := kt.c10
                    have m0 := kc.c0
                    by_cases hs : t.cal = c.nm
                    ·have HF := Lib.hid (HY3.out.trans (if_neg (by rw [hs]; simp)))
                     have g2 : (t.cal.toList == c.nm.toList) = true := by rw [hs]; exact beq_self_eq_true _
                     clear hs HY3
                     go_wp2_with fail
                     go_ret
                     exact ⟨by rw [HF.out]; try rfl, cw3⟩
                    ·have HF := Lib.hid (HY3.out.trans (if_pos hs))
                     have g2 : (t.cal.toList == c.nm.toList) = false := beq_eq_false_iff_ne.2 (fun e => hs (ls_inj e))
                     clear hs HY3
                     go_wp2_with fail
                     go_ret
                     exact ⟨by rw [HF.out]; try rfl, cw3⟩
                 ·refine (Rd.rvalid_no _ _ (by omega)).mono ?_
                  rintro e w' ⟨rfl, rfl⟩
                  have HF := Lib.hid (sk_num (t := t) (c := c) (fun hh => by omega))
                  go_wp2_with fail
                  go_ret
                  exact ⟨by rw [HF.out]; try rfl, cw1⟩
                ·have g6 : (t.ba != 0) = true := by simp [hB]
                 have HF := Lib.hid (sk_num (t := t) (c := c) (fun hh => by omega))
                 go_wp2_with fail
                 go_ret
                 exact ⟨by rw [HF.out]; try rfl, cw1⟩
        ·refine (Dt.rvalid_no _ _ (by omega)).mono ?_
         rintro e w' ⟨rfl, rfl⟩
         have HF := Lib.hid (sk_num (t := t) (c := c) (fun hh => by omega))
         go_wp2_with fail
         go_ret
         exact ⟨by rw [HF.out]; try rfl, cw1⟩
       ·refine (rr_no _ _ h_fe).mono ?_
        rintro e w' ⟨rfl, rfl⟩
        have HF := Lib.hid (sk_num (t := t) (c := c) (fun hh => by omega))
        go_wp2_with fail
        go_ret
        exact ⟨by rw [HF.out]; try rfl, cw1⟩
      ·refine (rr_no _ _ h_pen).mono ?_
       rintro e w' ⟨rfl, rfl⟩
       have HF := Lib.hid (sk_num (t := t) (c := c) (fun hh => by omega))
       go_wp2_with fail
       go_ret
       exact ⟨by rw [HF.out]; try rfl, cw1⟩
     ·refine (rr_no _ _ h_ppm).mono ?_
      rintro e w' ⟨rfl, rfl⟩
      have HF := Lib.hid (sk_num (t := t) (c := c) (fun hh => by omega))
      go_wp2_with fail
      go_ret
      exact ⟨by rw [HF.out]; try rfl, cw1⟩
end Go.Proofs.YtaanicginfjgdaaGreatDoor.Kl
