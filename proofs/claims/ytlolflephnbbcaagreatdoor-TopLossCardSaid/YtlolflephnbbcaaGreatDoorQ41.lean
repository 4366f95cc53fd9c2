/-
  Parts of the proof: Sk1, Ska.
-/
import Derived.Test.YtlolflephnbbcaaGreatDoorQ39
import Derived.Test.YtlolflephnbbcaaGreatDoorQ08
import Derived.Test.YtlolflephnbbcaaGreatDoorQ07
import Derived.Test.YtlolflephnbbcaaGreatDoorQ40
import Derived.Test.YtlolflephnbbcaaGreatDoorQ11
import Derived.Test.YtlolflephnbbcaaGreatDoorQ43
namespace Go.Proofs.YtlolflephnbbcaaGreatDoor.Kl
open Go.RowKit
open Go.Proofs.YtlolflephnbbcaaGreatDoor
open Go.Proofs.YtlolflephnbbcaaGreatDoor.Ln (Tm Du)
set_option linter.unusedSimpArgs false
set_option linter.unusedVariables false
set_option maxRecDepth 100000

theorem sk_num {t : Tm} {c : Cl} (h : ¬ ((1 ≤ t.me ∧ t.me ≤ 4) ∧ (1 ≤ t.pr ∧ t.pr ≤ 1000000000000) ∧ (0 ≤ t.ppm ∧ t.ppm ≤ 1000000) ∧ (0 ≤ t.pen ∧ t.pen ≤ 1000000) ∧ (0 ≤ t.fe ∧ t.fe ≤ 1000000) ∧ (0 ≤ t.stt ∧ t.stt ≤ 73048) ∧ (1 ≤ t.ev ∧ t.ev ≤ 12) ∧ (1 ≤ t.ct ∧ t.ct ≤ 120) ∧ (1 ≤ t.mo ∧ t.mo ≤ 6) ∧ (t.me = 4 → 0 ≤ t.ba ∧ t.ba < t.pr) ∧ (t.me ≠ 4 → t.ba = 0))) : skE t c = 1 := by
 unfold skE
 refine if_pos ?_
 apply Classical.byContradiction
 intro hn
 rw [not_or] at hn
 apply h
 have h1 : numB t = true := by simpa using hn.1
 have h2 : balB t = true := by simpa using hn.2
 unfold numB rateB dOk at h1
 simp only [Bool.and_eq_true, decide_eq_true_eq] at h1
 unfold balB at h2
 refine ⟨by omega, by omega, by omega, by omega, by omega, by omega, by omega, by omega, by omega, fun h4 => ?_, fun h4 => ?_⟩
 ·rw [if_pos h4, decide_eq_true_eq] at h2
  exact h2
 ·rw [if_neg h4, decide_eq_true_eq] at h2
  exact h2
theorem sk_yes {t : Tm} {c : Cl} (h : (1 ≤ t.me ∧ t.me ≤ 4) ∧ (1 ≤ t.pr ∧ t.pr ≤ 1000000000000) ∧ (0 ≤ t.ppm ∧ t.ppm ≤ 1000000) ∧ (0 ≤ t.pen ∧ t.pen ≤ 1000000) ∧ (0 ≤ t.fe ∧ t.fe ≤ 1000000) ∧ (0 ≤ t.stt ∧ t.stt ≤ 73048) ∧ (1 ≤ t.ev ∧ t.ev ≤ 12) ∧ (1 ≤ t.ct ∧ t.ct ≤ 120) ∧ (1 ≤ t.mo ∧ t.mo ≤ 6) ∧ (t.me = 4 → 0 ≤ t.ba ∧ t.ba < t.pr) ∧ (t.me ≠ 4 → t.ba = 0)) : skE t c = if codeB t.cur = false then 14 else if clE c ≠ 0 then clE c else if t.cal ≠ c.nm then 11 else 0 := by
 unfold skE
 refine if_neg ?_
 have h1 : numB t = true := by
  unfold numB rateB dOk
  simp only [Bool.and_eq_true, decide_eq_true_eq]
  omega
 have h2 : balB t = true := by
  unfold balB
  split
  ·rename_i h4
   exact decide_eq_true (h.2.2.2.2.2.2.2.2.2.1 h4)
  ·rename_i h4
   exact decide_eq_true (h.2.2.2.2.2.2.2.2.2.2 h4)
 rw [h1, h2]
 simp
theorem ls_inj {a b : ByteArray} (h : a.toList = b.toList) : a = b := by
 have e : a.data.toList = b.data.toList := by rw [← ByteArray.toList_eq, ← ByteArray.toList_eq, h]
 cases a; cases b
 congr 1
 exact Array.toList_inj.1 e
def inr (n a b : Int) : Bool := decide (a ≤ n) && decide (n ≤ b)
theorem sw_yes (n a b : Int) (w : World) (h0 : a ≤ n) (h1 : n ≤ b) : Calls Tryz.prog 111 #[.int .i64 n, .int .i64 a, .int .i64 b] w fun e w' => e = .returned (.bool true) ∧ w = w' := by
 go_enter Tryz.func111, Tryz.ntmps111
 go_wp2_with fail
 go_ret
 exact ⟨by first | rfl | (simp; omega), rfl⟩
theorem sw_no (n a b : Int) (w : World) (h : ¬ (a ≤ n ∧ n ≤ b)) : Calls Tryz.prog 111 #[.int .i64 n, .int .i64 a, .int .i64 b] w fun e w' => e = .returned (.bool false) ∧ w = w' := by
 by_cases h0 : a ≤ n
 ·go_enter Tryz.func111, Tryz.ntmps111
  go_wp2_with fail
  go_ret
  exact ⟨by first | rfl | (simp; omega), rfl⟩
 ·go_enter Tryz.func111, Tryz.ntmps111
  go_wp2_with fail
  go_ret
  exact ⟨by first | rfl | (simp; omega), rfl⟩
theorem rr_yes (n : Int) (w : World) (h0 : 0 ≤ n) (h1 : n ≤ 1000000) : Calls Tryz.prog 24 #[.int .i64 n] w fun e w' => e = .returned (.bool true) ∧ w = w' := by
 go_enter Tryz.func24, Tryz.ntmps24
 go_wp2_with fail
 go_ret
 exact ⟨by first | rfl | (simp; omega), rfl⟩
theorem rr_no (n : Int) (w : World) (h : ¬ (0 ≤ n ∧ n ≤ 1000000)) : Calls Tryz.prog 24 #[.int .i64 n] w fun e w' => e = .returned (.bool false) ∧ w = w' := by
 by_cases h0 : 0 ≤ n
 ·go_enter Tryz.func24, Tryz.ntmps24
  go_wp2_with fail
  go_ret
  exact ⟨by first | rfl | (simp; omega), rfl⟩
 ·go_enter Tryz.func24, Tryz.ntmps24
  go_wp2_with fail
  go_ret
  exact ⟨by first | rfl | (simp; omega), rfl⟩
set_option maxHeartbeats 16000000 in
theorem skchk_any (t : Tm) (c : Cl) (wa ha : Option Addr) (wc hc : Nat) (w : World) (h : CalIn w c wa ha) (hcu : t.cur.size ≤ maxLen) : Calls Tryz.prog 72 #[(.agg #[.int .i64 (t).me, .int .i64 (t).pr, .int .i64 (t).ppm, .int .i64 (t).stt, .int .i64 (t).ev, .int .i64 (t).ct, .int .i64 (t).ba, .int .i64 (t).mo, .int .i64 (t).pen, .int .i64 (t).fe, .string (t).cal, .string (t).cur]), (.agg #[.string (c).nm, .slice wa (c).wk.length wc, .slice ha (c).hol.length hc])] w fun e w' => e = .returned (.int .i64 (skE t c)) ∧ Below w.heap.size w w' := by
 have cw : Below w.heap.size w ((w.alloc (.cells #[.int .i64 (t).me, .int .i64 (t).pr, .int .i64 (t).ppm, .int .i64 (t).stt, .int .i64 (t).ev, .int .i64 (t).ct, .int .i64 (t).ba, .int .i64 (t).mo, .int .i64 (t).pen, .int .i64 (t).fe, .string (t).cal, .string (t).cur] 23)).alloc (.cells #[.string c.nm, .slice wa c.wk.length wc, .slice ha c.hol.length hc] 26)) := ((Below.refl _ _).alloc (Nat.le_refl _) _).alloc (by simp) _
 have kt : Bk.Blk ((w.alloc (.cells #[.int .i64 (t).me, .int .i64 (t).pr, .int .i64 (t).ppm, .int .i64 (t).stt, .int .i64 (t).ev, .int .i64 (t).ct, .int .i64 (t).ba, .int .i64 (t).mo, .int .i64 (t).pen, .int .i64 (t).fe, .string (t).cal, .string (t).cur] 23)).alloc (.cells #[.string c.nm, .slice wa c.wk.length wc, .slice ha c.hol.length hc] 26)) w.heap.size _ 23 := Bk.Blk.nw20
 have kc : Bk.Blk ((w.alloc (.cells #[.int .i64 (t).me, .int .i64 (t).pr, .int .i64 (t).ppm, .int .i64 (t).stt, .int .i64 (t).ev, .int .i64 (t).ct, .int .i64 (t).ba, .int .i64 (t).mo, .int .i64 (t).pen, .int .i64 (t).fe, .string (t).cal, .string (t).cur] 23)).alloc (.cells #[.string c.nm, .slice wa c.wk.length wc, .slice ha c.hol.length hc] 26)) (w.heap.size + 1) _ 26 := Bk.Blk.nw21
 have hi := h.later cw
 clear h
 go_enter Tryz.func72, Tryz.ntmps72
 go_upto_region 1 with fail
 generalize ((w.alloc (.cells _ 23)).alloc (.cells _ 26)) = w1 at *
 have cw1 := cw
 clear cw
 have l0 := kt.c0
 have l1 := kt.c1
 have l2 := kt.c2
 have l3 := kt.c3
 have l4 := kt.c4
 have l5 := kt.c5
 have l6 := kt.c6
 have l7 := kt.c7
 have l8 := kt.c8
 have l9 := kt.c9
 have l10 := kt.c10
 have l11 := kt.c11
 have m0 := kc.c0
 have m1 := kc.c1
 have m2 := kc.c2
 go_wp2_with fail
 by_cases h_me : 1 ≤ t.me ∧ t.me ≤ 4
 ·refine (sw_yes _ _ _ _ h_me.1 h_me.2).mono ?_
  rintro e w' ⟨rfl, rfl⟩
  go_wp2_with fail
  by_cases h_pr : 1 ≤ t.pr ∧ t.pr ≤ 1000000000000
  ·refine (sw_yes _ _ _ _ h_pr.1 h_pr.2).mono ?_
   rintro e w' ⟨rfl, rfl⟩
   go_wp2_with fail
   by_cases h_ppm : 0 ≤ t.ppm ∧ t.ppm ≤ 1000000
   ·refine (sw_yes _ _ _ _ h_ppm.1 h_ppm.2).mono ?_
    rintro e w' ⟨rfl, rfl⟩
    go_wp2_with fail
    by_cases h_pen : 0 ≤ t.pen ∧ t.pen ≤ 1000000
    ·refine (sw_yes _ _ _ _ h_pen.1 h_pen.2).mono ?_
     rintro e w' ⟨rfl, rfl⟩
     go_wp2_with fail
     by_cases h_fe : 0 ≤ t.fe ∧ t.fe ≤ 1000000
     ·refine (sw_yes _ _ _ _ h_fe.1 h_fe.2).mono ?_
      rintro e w' ⟨rfl, rfl⟩
      go_wp2_with fail
      by_cases h_stt : 0 ≤ t.stt ∧ t.stt ≤ 73048
      ·refine (Dt.valid_yes _ _ h_stt.1 h_stt.2).mono ?_
       rintro e w' ⟨rfl, rfl⟩
       go_wp2_with fail
       by_cases h_ev : 1 ≤ t.ev ∧ t.ev ≤ 12
       ·refine (sw_yes _ _ _ _ h_ev.1 h_ev.2).mono ?_
        rintro e w' ⟨rfl, rfl⟩
        go_wp2_with fail
        by_cases h_ct : 1 ≤ t.ct ∧ t.ct ≤ 120
        ·refine (sw_yes _ _ _ _ h_ct.1 h_ct.2).mono ?_
         rintro e w' ⟨rfl, rfl⟩
         go_wp2_with fail
         by_cases h_mo : 1 ≤ t.mo ∧ t.mo ≤ 6
         ·refine (Rd.valid_yes _ _ h_mo.1 h_mo.2).mono ?_
          rintro e w' ⟨rfl, rfl⟩
          by_cases h4 : t.me = 4
          ·have g4 : (t.me == 4) = true := by simp [h4]
           have g5 : (t.me != 4) = false := by simp [h4]
           go_wp2_with fail
           by_cases hB : 0 ≤ t.ba ∧ t.ba ≤ t.pr - 1
           ·refine (sw_yes _ _ _ _ hB.1 hB.2).mono ?_
            rintro e w' ⟨rfl, rfl⟩
            have HY := Lib.hid (sk_yes (t := t) (c := c) (by refine ⟨h_me, h_pr, h_ppm, h_pen, h_fe, h_stt, h_ev, h_ct, h_mo, fun _ => by omega, fun _ => by omega⟩))
            clear h4 h_me h_pr h_ppm h_pen h_fe h_stt h_ev h_ct h_mo hB
            go_wp2_with fail
            clear l0 l1 l2 l3 l4 l5 l6 l7 l8 l9 l10 l11 m0 m1 m2
            refine (code_any t.cur _ hcu).mono ?_
            rintro e w2 ⟨rfl, hb⟩
            replace kt := kt.later hb
            replace kc := kc.later hb
            replace hi := hi.later hb
            have cw2 := bl2 hb cw1
            clear hb cw1
            cases hb1 : codeB t.cur
            ·have HF := Lib.hid (HY.out.trans (if_pos hb1))
             clear hb1 HY
             go_wp2_with fail
             go_ret
             exact ⟨by rw [HF.out]; try rfl, cw2⟩
            ·have HY2 := Lib.hid (HY.out.trans (if_neg (by rw [hb1]; simp)))
             clear hb1 HY
             have m0 := kc.c0
             have m1 := kc.c1
             have m2 := kc.c2
             go_wp2_with fail
             clear m0 m1 m2
             refine (clchk_any c wa ha wc hc _ hi).mono ?_
             rintro e w3 ⟨rfl, hb⟩
             replace kt := kt.later hb
             replace kc := kc.later hb
             replace hi := hi.later hb
             have cw3 := bl2 hb cw2
             clear hb cw2
             by_cases he : clE c ≠ 0
             ·have HF := Lib.hid (HY2.out.trans (if_pos he))
              have g1 : (clE c != 0) = true := by simpa using he
              clear HY2 he
              generalize clE c = E at *
              go_wp2_with fail
              go_ret
              exact ⟨by rw [HF.out]; try rfl, cw3⟩
             ·have HY3 := Lib.hid (HY2.out.trans (if_neg he))
              have g1 : (clE c != 0) = false := by simpa using he
              clear HY2 he
              generalize clE c = E at *
              have l10 := kt.c10
              have m0 := kc.c0
              by_cases hs : t.cal = c.nm
              ·have HF := Lib.hid (HY3.out.trans (if_neg (by rw [hs]; simp)))
               have g2 : (t.cal.toList == c.nm.toList) = true := by rw [hs]; exact beq_self_eq_true _
               clear hs HY3
               go_wp2_with fail
               go_ret
               exact ⟨by rw [HF.out]; try rfl, cw3⟩
              ·have HF := Lib.hid (HY3.out.trans (if_pos hs))
               have g2 : (t.cal.toList == c.nm.toList) = false := beq_eq_false_iff_ne.2 (fun e => hs (ls_inj e))
               clear hs HY3
               go_wp2_with fail
               go_ret
               exact ⟨by rw [HF.out]; try rfl, cw3⟩
           ·refine (sw_no _ _ _ _ hB).mono ?_
            rintro e w' ⟨rfl, rfl⟩
            have HF := Lib.hid (sk_num (t := t) (c := c) (fun hh => by omega))
            go_wp2_with fail
            go_ret
            exact ⟨by rw [HF.out]; try rfl, cw1⟩
          ·have g4 : (t.me == 4) = false := by simp [h4]
           have g5 : (t.me != 4) = true := by simp [h4]
           by_cases hB : t.ba = 0
           ·have g6 : (t.ba != 0) = false := by simp [hB]
            have HY := Lib.hid (sk_yes (t := t) (c := c) (by refine ⟨h_me, h_pr, h_ppm, h_pen, h_fe, h_stt, h_ev, h_ct, h_mo, fun _ => by omega, fun _ => by omega⟩))
            clear h4 hB
            clear h_me h_pr h_ppm h_pen h_fe h_stt h_ev h_ct h_mo
            go_wp2_with fail
            clear l0 l1 l2 l3 l4 l5 l6 l7 l8 l9 l10 l11 m0 m1 m2
            refine (code_any t.cur _ hcu).mono ?_
            rintro e w2 ⟨rfl, hb⟩
            replace kt := kt.later hb
            replace kc := kc.later hb
            replace hi := hi.later hb
            have cw2 := bl2 hb cw1
            clear hb cw1
            cases hb1 : codeB t.cur
            ·have HF := Lib.hid (HY.out.trans (if_pos hb1))
             clear hb1 HY
             go_wp2_with fail
             go_ret
             exact ⟨by rw [HF.out]; try rfl, cw2⟩
            ·have HY2 := Lib.hid (HY.out.trans (if_neg (by rw [hb1]; simp)))
             clear hb1 HY
             have m0 := kc.c0
             have m1 := kc.c1
             have m2 := kc.c2
             go_wp2_with fail
             clear m0 m1 m2
             refine (clchk_any c wa ha wc hc _ hi).mono ?_
             rintro e w3 ⟨rfl, hb⟩
             replace kt := kt.later hb
             replace kc := kc.later hb
             replace hi := hi.later hb
             have cw3 := bl2 hb cw2
             clear hb cw2
             by_cases he : clE c ≠ 0
             ·have HF := Lib.hid (HY2.out.trans (if_pos he))
              have g1 : (clE c != 0) = true := by simpa using he
              clear HY2 he
              generalize clE c = E at *
              go_wp2_with fail
              go_ret
              exact ⟨by rw [HF.out]; try rfl, cw3⟩
             ·have HY3 := Lib.hid (HY2.out.trans (if_neg he))
              have g1 : (clE c != 0) = false := by simpa using he
              clear HY2 he
              generalize clE c = E at *
              have l10 := kt.c10
              have m0 := kc.c0
              by_cases hs : t.cal = c.nm
              ·have HF := Lib.hid (HY3.out.trans (if_neg (by rw [hs]; simp)))
               have g2 : (t.cal.toList == c.nm.toList) = true := by rw [hs]; exact beq_self_eq_true _
               clear hs HY3
               go_wp2_with fail
               go_ret
               exact ⟨by rw [HF.out]; try rfl, cw3⟩
              ·have HF := Lib.hid (HY3.out.trans (if_pos hs))
               have g2 : (t.cal.toList == c.nm.toList) = false := beq_eq_false_iff_ne.2 (fun e => hs (ls_inj e))
               clear hs HY3
               go_wp2_with fail
               go_ret
               exact ⟨by rw [HF.out]; try rfl, cw3⟩
           ·have g6 : (t.ba != 0) = true := by simp [hB]
            have HF := Lib.hid (sk_num (t := t) (c := c) (fun hh => by omega))
            go_wp2_with fail
            go_ret
            exact ⟨by rw [HF.out]; try rfl, cw1⟩
         ·refine (Rd.valid_no _ _ (by omega)).mono ?_
          rintro e w' ⟨rfl, rfl⟩
          have HF := Lib.hid (sk_num (t := t) (c := c) (fun hh => by omega))
          go_wp2_with fail
          go_ret
          exact ⟨by rw [HF.out]; try rfl, cw1⟩
        ·refine (sw_no _ _ _ _ h_ct).mono ?_
         rintro e w' ⟨rfl, rfl⟩
         have HF := Lib.hid (sk_num (t := t) (c := c) (fun hh => by omega))
         go_wp2_with fail
         go_ret
         exact ⟨by rw [HF.out]; try rfl, cw1⟩
       ·refine (sw_no _ _ _ _ h_ev).mono ?_
        rintro e w' ⟨rfl, rfl⟩
        have HF := Lib.hid (sk_num (t := t) (c := c) (fun hh => by omega))
        go_wp2_with fail
        go_ret
        exact ⟨by rw [HF.out]; try rfl, cw1⟩
      ·refine (Dt.valid_no _ _ (by omega)).mono ?_
       rintro e w' ⟨rfl, rfl⟩
       have HF := Lib.hid (sk_num (t := t) (c := c) (fun hh => by omega))
       go_wp2_with fail
       go_ret
       exact ⟨by rw [HF.out]; try rfl, cw1⟩
     ·refine (sw_no _ _ _ _ h_fe).mono ?_
      rintro e w' ⟨rfl, rfl⟩
      have HF := Lib.hid (sk_num (t := t) (c := c) (fun hh => by omega))
      go_wp2_with fail
      go_ret
      exact ⟨by rw [HF.out]; try rfl, cw1⟩
    ·refine (sw_no _ _ _ _ h_pen).mono ?_
     rintro e w' ⟨rfl, rfl⟩
     have HF := Lib.hid (sk_num (t := t) (c := c) (fun hh => by omega))
     go_wp2_with fail
     go_ret
     exact ⟨by rw [HF.out]; try rfl, cw1⟩
   ·refine (sw_no _ _ _ _ h_ppm).mono ?_
    rintro e w' ⟨rfl, rfl⟩
    have HF := Lib.hid (sk_num (t := t) (c := c) (fun hh => by omega))
    go_wp2_with fail
    go_ret
    exact ⟨by rw [HF.out]; try rfl, cw1⟩
  ·refine (sw_no _ _ _ _ h_pr).mono ?_
   rintro e w' ⟨rfl, rfl⟩
   have HF := Lib.hid (sk_num (t := t) (c := c) (fun hh => by omega))
   go_wp2_with fail
   go_ret
   exact ⟨by rw [HF.out]; try rfl, cw1⟩
 ·refine (sw_no _ _ _ _ h_me).mono ?_
  rintro e w' ⟨rfl, rfl⟩
  have HF := Lib.hid (sk_num (t := t) (c := c) (fun hh => by omega))
  go_wp2_with fail
  go_ret
  exact ⟨by rw [HF.out]; try rfl, cw1⟩
set_option maxHeartbeats 16000000 in
theorem rskchk_any (t : Tm) (c : Cl) (wa ha : Option Addr) (wc hc : Nat) (w : World) (h : CalIn w c wa ha) (hcu : t.cur.size ≤ maxLen) : Calls Tryz.prog 9 #[(.agg #[.int .i64 (t).me, .int .i64 (t).pr, .int .i64 (t).ppm, .int .i64 (t).stt, .int .i64 (t).ev, .int .i64 (t).ct, .int .i64 (t).ba, .int .i64 (t).mo, .int .i64 (t).pen, .int .i64 (t).fe, .string (t).cal, .string (t).cur]), (.agg #[.string (c).nm, .slice wa (c).wk.length wc, .slice ha (c).hol.length hc])] w fun e w' => e = .returned (.int .i64 (skE t c)) ∧ Below w.heap.size w w' := by
 have cw : Below w.heap.size w ((w.alloc (.cells #[.int .i64 (t).me, .int .i64 (t).pr, .int .i64 (t).ppm, .int .i64 (t).stt, .int .i64 (t).ev, .int .i64 (t).ct, .int .i64 (t).ba, .int .i64 (t).mo, .int .i64 (t).pen, .int .i64 (t).fe, .string (t).cal, .string (t).cur] 23)).alloc (.cells #[.string c.nm, .slice wa c.wk.length wc, .slice ha c.hol.length hc] 26)) := ((Below.refl _ _).alloc (Nat.le_refl _) _).alloc (by simp) _
 have kt : Bk.Blk ((w.alloc (.cells #[.int .i64 (t).me, .int .i64 (t).pr, .int .i64 (t).ppm, .int .i64 (t).stt, .int .i64 (t).ev, .int .i64 (t).ct, .int .i64 (t).ba, .int .i64 (t).mo, .int .i64 (t).pen, .int .i64 (t).fe, .string (t).cal, .string (t).cur] 23)).alloc (.cells #[.string c.nm, .slice wa c.wk.length wc, .slice ha c.hol.length hc] 26)) w.heap.size _ 23 := Bk.Blk.nw20
 have kc : Bk.Blk ((w.alloc (.cells #[.int .i64 (t).me, .int .i64 (t).pr, .int .i64 (t).ppm, .int .i64 (t).stt, .int .i64 (t).ev, .int .i64 (t).ct, .int .i64 (t).ba, .int .i64 (t).mo, .int .i64 (t).pen, .int .i64 (t).fe, .string (t).cal, .string (t).cur] 23)).alloc (.cells #[.string c.nm, .slice wa c.wk.length wc, .slice ha c.hol.length hc] 26)) (w.heap.size + 1) _ 26 := Bk.Blk.nw21
 have hi := h.later cw
 clear h
 go_enter Tryz.func9, Tryz.ntmps9
 go_upto_region 1 with fail
 generalize ((w.alloc (.cells _ 23)).alloc (.cells _ 26)) = w1 at *
 have cw1 := cw
 clear cw
 have l0 := kt.c0
 have l1 := kt.c1
 have l2 := kt.c2
 have l3 := kt.c3
 have l4 := kt.c4
 have l5 := kt.c5
 have l6 := kt.c6
 have l7 := kt.c7
 have l8 := kt.c8
 have l9 := kt.c9
 have l10 := kt.c10
 have l11 := kt.c11
 have m0 := kc.c0
 have m1 := kc.c1
 have m2 := kc.c2
 by_cases h0 : t.me < 1
 ·have HF := Lib.hid (sk_num (t := t) (c := c) (fun hh => by omega))
  go_wp2_with fail
  go_ret
  exact ⟨by rw [HF.out]; try rfl, cw1⟩
 ·by_cases h1 : 4 < t.me
  ·have HF := Lib.hid (sk_num (t := t) (c := c) (fun hh => by omega))
   go_wp2_with fail
   go_ret
   exact ⟨by rw [HF.out]; try rfl, cw1⟩
  ·by_cases h2 : t.pr < 1
   ·have HF := Lib.hid (sk_num (t := t) (c := c) (fun hh => by omega))
    go_wp2_with fail
    go_ret
    exact ⟨by rw [HF.out]; try rfl, cw1⟩
   ·by_cases h3 : 1000000000000 < t.pr
    ·have HF := Lib.hid (sk_num (t := t) (c := c) (fun hh => by omega))
     go_wp2_with fail
     go_ret
     exact ⟨by rw [HF.out]; try rfl, cw1⟩
    ·go_wp2_with fail
     by_cases h_ppm : 0 ≤ t.ppm ∧ t.ppm ≤ 1000000
     ·refine (rr_yes _ _ h_ppm.1 h_ppm.2).mono ?_
      rintro e w' ⟨rfl, rfl⟩
      go_wp2_with fail
      by_cases h_pen : 0 ≤ t.pen ∧ t.pen ≤ 1000000
      ·refine (rr_yes _ _ h_pen.1 h_pen.2).mono ?_
       rintro e w' ⟨rfl, rfl⟩
       go_wp2_with fail
       by_cases h_fe : 0 ≤ t.fe ∧ t.fe ≤ 1000000
       ·refine (rr_yes _ _ h_fe.1 h_fe.2).mono ?_
        rintro e w' ⟨rfl, rfl⟩
        go_wp2_with fail
        by_cases h_stt : 0 ≤ t.stt ∧ t.stt ≤ 73048
        ·refine (Dt.rvalid_yes _ _ h_stt.1 h_stt.2).mono ?_
         rintro e w' ⟨rfl, rfl⟩
         by_cases h8 : t.ev < 1
         ·have HF := Lib.hid (sk_num (t := t) (c := c) (fun hh => by omega))
          go_wp2_with fail
          go_ret
          exact ⟨by rw [HF.out]; try rfl, cw1⟩
         ·by_cases h9 : 12 < t.ev
          ·have HF := Lib.hid (sk_num (t := t) (c := c) (fun hh => by omega))
           go_wp2_with fail
           go_ret
           exact ⟨by rw [HF.out]; try rfl, cw1⟩
          ·by_cases h10 : t.ct < 1
           ·have HF := Lib.hid (sk_num (t := t) (c := c) (fun hh => by omega))
            go_wp2_with fail
            go_ret
            exact ⟨by rw [HF.out]; try rfl, cw1⟩
           ·by_cases h11 : 120 < t.ct
            ·have HF := Lib.hid (sk_num (t := t) (c := c) (fun hh => by omega))
             go_wp2_with fail
             go_ret
             exact ⟨by rw [HF.out]; try rfl, cw1⟩
            ·by_cases h12 : t.ba < 0
             ·have HF := Lib.hid (sk_num (t := t) (c := c) (fun hh => by omega))
              go_wp2_with fail
              go_ret
              exact ⟨by rw [HF.out]; try rfl, cw1⟩
             ·by_cases h13 : t.pr ≤ t.ba
              ·have HF := Lib.hid (sk_num (t := t) (c := c) (fun hh => by omega))
               go_wp2_with fail
               go_ret
               exact ⟨by rw [HF.out]; try rfl, cw1⟩
              ·by_cases h4 : t.me = 4
               ·have g4 : (t.me != 4) = false := by simp [h4]
                go_wp2_with fail
                by_cases h_mo : 1 ≤ t.mo ∧ t.mo ≤ 6
                ·refine (Rd.rvalid_yes _ _ h_mo.1 h_mo.2).mono ?_
                 rintro e w' ⟨rfl, rfl⟩
                 have HY := Lib.hid (sk_yes (t := t) (c := c) (by refine ⟨by omega, by omega, h_ppm, h_pen, h_fe, h_stt, by omega, by omega, h_mo, fun _ => by omega, fun _ => by omega⟩))
                 clear h4
                 go_wp2_with fail
                 clear l0 l1 l2 l3 l4 l5 l6 l7 l8 l9 l10 l11 m0 m1 m2
                 refine (rcode_any t.cur _ hcu).mono ?_
                 rintro e w' ⟨rfl, rfl⟩
                 have cw2 := cw1
                 clear cw1
                 cases hb1 : codeB t.cur
                 ·have HF := Lib.hid (HY.out.trans (if_pos hb1))
                  clear hb1 HY
                  go_wp2_with fail
                  go_ret
                  exact ⟨by rw [HF.out]; try rfl, cw2⟩
                 ·have HY2 := Lib.hid (HY.out.trans (if_neg (by rw [hb1]; simp)))
                  clear hb1 HY
                  have m0 := kc.c0
                  have m1 := kc.c1
                  have m2 := kc.c2
                  go_wp2_with fail
                  clear m0 m1 m2
                  refine (rclchk_any c wa ha wc hc _ hi).mono ?_
                  rintro e w3 ⟨rfl, hb⟩
                  replace kt := kt.later hb
                  replace kc := kc.later hb
                  replace hi := hi.later hb
                  have cw3 := bl2 hb cw2
                  clear hb cw2
                  by_cases he : clE c ≠ 0
                  ·have HF := Lib.hid (HY2.out.trans (if_pos he))
                   have g1 : (clE c != 0) = true := by simpa using he
                   clear HY2 he
                   generalize clE c = E at *
                   go_wp2_with fail
                   go_ret
                   exact ⟨by rw [HF.out]; try rfl, cw3⟩
                  ·have HY3 := Lib.hid (HY2.out.trans (if_neg he))
                   have g1 : (clE c != 0) = false := by simpa using he
                   clear HY2 he
                   generalize clE c = E at *
                   have l10 := kt.c10
                   have m0 := kc.c0
                   by_cases hs : t.cal = c.nm
                   ·have HF := Lib.hid (HY3.out.trans (if_neg (by rw [hs]; simp)))
                    have g2 : (t.cal.toList == c.nm.toList) = true := by rw [hs]; exact beq_self_eq_true _
                    clear hs HY3
                    go_wp2_with fail
                    go_ret
                    exact ⟨by rw [HF.out]; try rfl, cw3⟩
                   ·have HF := Lib.hid (HY3.out.trans (if_pos hs))
                    have g2 : (t.cal.toList == c.nm.toList) = false := beq_eq_false_iff_ne.2 (fun e => hs (ls_inj e))
                    clear hs HY3
                    go_wp2_with fail
                    go_ret
                    exact ⟨by rw [HF.out]; try rfl, cw3⟩
                ·refine (Rd.rvalid_no _ _ (by omega)).mono ?_
                 rintro e w' ⟨rfl, rfl⟩
                 have HF := Lib.hid (sk_num (t := t) (c := c) (fun hh => by omega))
                 go_wp2_with fail
                 go_ret
                 exact ⟨by rw [HF.out]; try rfl, cw1⟩
               ·have g4 : (t.me != 4) = true := by simp [h4]
                by_cases hB : t.ba = 0
                ·have g6 : (t.ba != 0) = false := by simp [hB]
                 go_wp2_with fail
                 by_cases h_mo : 1 ≤ t.mo ∧ t.mo ≤ 6
                 ·refine (Rd.rvalid_yes _ _ h_mo.1 h_mo.2).mono ?_
                  rintro e w' ⟨rfl, rfl⟩
                  have HY := Lib.hid (sk_yes (t := t) (c := c) (by refine ⟨by omega, by omega, h_ppm, h_pen, h_fe, h_stt, by omega, by omega, h_mo, fun _ => by omega, fun _ => by omega⟩))
                  clear h4
                  clear hB
                  go_wp2_with fail
                  clear l0 l1 l2 l3 l4 l5 l6 l7 l8 l9 l10 l11 m0 m1 m2
                  refine (rcode_any t.cur _ hcu).mono ?_
                  rintro e w' ⟨rfl, rfl⟩
                  have cw2 := cw1
                  clear cw1
                  cases hb1 : codeB t.cur
                  ·have HF := Lib.hid (HY.out.trans (if_pos hb1))
                   clear hb1 HY
                   go_wp2_with fail
                   go_ret
                   exact ⟨by rw [HF.out]; try rfl, cw2⟩
                  ·have HY2 := Lib.hid (HY.out.trans (if_neg (by rw [hb1]; simp)))
                   clear hb1 HY
                   have m0 := kc.c0
                   have m1 := kc.c1
                   have m2 := kc.c2
                   go_wp2_with fail
                   clear m0 m1 m2
                   refine (rclchk_any c wa ha wc hc _ hi).mono ?_
                   rintro e w3 ⟨rfl, hb⟩
                   replace kt := kt.later hb
                   replace kc := kc.later hb
                   replace hi := hi.later hb
                   have cw3 := bl2 hb cw2
                   clear hb cw2
                   by_cases he : clE c ≠ 0
                   ·have HF := Lib.hid (HY2.out.trans (if_pos he))
                    have g1 : (clE c != 0) = true := by simpa using he
                    clear HY2 he
                    generalize clE c = E at *
                    go_wp2_with fail
                    go_ret
                    exact ⟨by rw [HF.out]; try rfl, cw3⟩
                   ·have HY3 := Lib.hid (HY2.out.trans (if_neg he))
                    have g1 : (clE c != 0) = false := by simpa using he
                    clear HY2 he
                    generalize clE c = E at *
                    have l10 := kt.c10
                    have m0 := kc.c0
                    by_cases hs : t.cal = c.nm
                    ·have HF := Lib.hid (HY3.out.trans (if_neg (by rw [hs]; simp)))
                     have g2 : (t.cal.toList == c.nm.toList) = true := by rw [hs]; exact beq_self_eq_true _
                     clear hs HY3
                     go_wp2_with fail
                     go_ret
                     exact ⟨by rw [HF.out]; try rfl, cw3⟩
                    ·have HF := Lib.hid (HY3.out.trans (if_pos hs))
                     have g2 : (t.cal.toList == c.nm.toList) = false := beq_eq_false_iff_ne.2 (fun e => hs (ls_inj e))
                     clear hs HY3
                     go_wp2_with fail
                     go_ret
                     exact ⟨by rw [HF.out]; try rfl, cw3⟩
                 ·refine (Rd.rvalid_no _ _ (by omega)).mono ?_
                  rintro e w' ⟨rfl, rfl⟩
                  have HF := Lib.hid (sk_num (t := t) (c := c) (fun hh => by omega))
                  go_wp2_with fail
                  go_ret
                  exact ⟨by rw [HF.out]; try rfl, cw1⟩
                ·have g6 : (t.ba != 0) = true := by simp [hB]
                 have HF := Lib.hid (sk_num (t := t) (c := c) (fun hh => by omega))
                 go_wp2_with fail
                 go_ret
                 exact ⟨by rw [HF.out]; try rfl, cw1⟩
        ·refine (Dt.rvalid_no _ _ (by omega)).mono ?_
         rintro e w' ⟨rfl, rfl⟩
         have HF := Lib.hid (sk_num (t := t) (c := c) (fun hh => by omega))
         go_wp2_with fail
         go_ret
         exact ⟨by rw [HF.out]; try rfl, cw1⟩
       ·refine (rr_no _ _ h_fe).mono ?_
        rintro e w' ⟨rfl, rfl⟩
        have HF := Lib.hid (sk_num (t := t) (c := c) (fun hh => by omega))
        go_wp2_with fail
        go_ret
        exact ⟨by rw [HF.out]; try rfl, cw1⟩
      ·refine (rr_no _ _ h_pen).mono ?_
       rintro e w' ⟨rfl, rfl⟩
       have HF := Lib.hid (sk_num (t := t) (c := c) (fun hh => by omega))
       go_wp2_with fail
       go_ret
       exact ⟨by rw [HF.out]; try rfl, cw1⟩
     ·refine (rr_no _ _ h_ppm).mono ?_
      rintro e w' ⟨rfl, rfl⟩
      have HF := Lib.hid (sk_num (t := t) (c := c) (fun hh => by omega))
      go_wp2_with fail
      go_ret
      exact ⟨by rw [HF.out]; try rfl, cw1⟩
end Go.Proofs.YtlolflephnbbcaaGreatDoor.Kl
namespace Go.Proofs.YtlolflephnbbcaaGreatDoor.Kl
open Go.RowKit
open Go.Proofs.YtlolflephnbbcaaGreatDoor
open Go.Proofs.YtlolflephnbbcaaGreatDoor.Cal
open Go.Proofs.YtlolflephnbbcaaGreatDoor.Sr
open Go.Proofs.YtlolflephnbbcaaGreatDoor.Ln (Tm Du)
set_option linter.unusedSimpArgs false
set_option linter.unusedVariables false
set_option maxRecDepth 100000

def DayOut (t : Tm) (c : Cl) (w : World) (e : Ending) (w' : World) : Prop := ∃ a cap, e = .returned (.tuple #[.slice a (daysV t c).length cap, .int .i64 (daysE t c)]) ∧ Bk.IntsIn w' a (daysV t c) ∧ (∀ ad, a = some ad → w.heap.size ≤ ad.block) ∧ Below w.heap.size w w'
theorem dayOut_no {t : Tm} {c : Cl} {w w' : World} {E : Int} (h : daysE t c = E) (h0 : E ≠ 0) (hb : Below w.heap.size w w') : DayOut t c w (.returned (.tuple #[.slice none 0 0, .int .i64 E])) w' := by
 have hv : daysV t c = [] := if_neg (by rw [h]; exact h0)
 refine ⟨none, 0, ?_, ?_, (fun ad h => by cases h), hb⟩
 ·rw [hv, h]; rfl
 ·rw [hv]; exact ⟨by simp, fun h => by simp at h⟩
theorem dayOut_ok {t : Tm} {c : Cl} {w w' : World} {v : Value} (hct : t.ct ≤ 120) (h : daysE t c = 0) (hv : IV w' w.heap.size v (dList t c t.ct.toNat)) (hb : Below w.heap.size w w') : DayOut t c w (.returned (.tuple #[v, .int .i64 0])) w' := by
 have he : daysV t c = dList t c t.ct.toNat := if_pos h
 obtain ⟨a, cap, rfl, hr, hf⟩ := hv.row
 refine ⟨a, cap, ?_, ?_, hf, hb⟩
 ·rw [he, h]
 ·rw [he]
  refine ints_of_row ?_ hr
  rw [dList_len]; omega
theorem DayOut.up {t : Tm} {c : Cl} {w w3 w' : World} {e : Ending} (h : DayOut t c w3 e w') (hb : Below w.heap.size w w3) : DayOut t c w e w' := by
 obtain ⟨a, cap, h1, h2, h3, h4⟩ := h
 exact ⟨a, cap, h1, h2, fun ad had => Nat.le_trans hb.size (h3 ad had), bl2 h4 hb⟩
theorem dE_none {t : Tm} {c : Cl} {i : Int} (h : addM t.stt (i * t.ev) (ck t.stt) = none) : dE t c i = 1 := by unfold dE; rw [h]
theorem dE_some {t : Tm} {c : Cl} {i d : Int} (h : addM t.stt (i * t.ev) (ck t.stt) = some d) : dE t c i = oE (adj c d) 11 := by unfold dE; rw [h]
theorem dV_some {t : Tm} {c : Cl} {i d : Int} (h : addM t.stt (i * t.ev) (ck t.stt) = some d) : dV t c i = oV (adj c d) := by unfold dV; rw [h]
theorem daysE_sk {t : Tm} {c : Cl} (h : skE t c ≠ 0) : daysE t c = skE t c := if_neg h
theorem daysE_ds {t : Tm} {c : Cl} {k : Nat} {E : Int} (h : skE t c = 0) (hk : k < t.ct.toNat) (hd : dsE t c k = 0) (hE : dE t c (k + 1) = E) (h0 : E ≠ 0) : daysE t c = E := by
 have h1 : dsE t c (k + 1) = E := by
  show (if dsE t c k = 0 then dE t c (k + 1) else dsE t c k) = E
  rw [if_pos hd, hE]
 unfold daysE
 rw [if_pos h, dsE_le (show k + 1 ≤ t.ct.toNat by omega) (by rw [h1]; exact h0), h1]
theorem ds_step {t : Tm} {c : Cl} {k : Nat} (hd : dsE t c k = 0) (hE : dE t c (k + 1) = 0) : dsE t c (k + 1) = 0 := by
 show (if dsE t c k = 0 then dE t c (k + 1) else dsE t c k) = 0
 rw [if_pos hd, hE]
theorem daysE_all {t : Tm} {c : Cl} (h : skE t c = 0) (hd : dsE t c t.ct.toNat = 0) : daysE t c = 0 := by unfold daysE; rw [if_pos h, hd]
def DyR (w : World) (t : Tm) (c : Cl) (g : Nat) (s10 s11 s30 : Value) (W : World) : Prop := ∃ k : Nat, k + g = t.ct.toNat ∧ s30 = .int .i64 k ∧ s11 = .int .i64 0 ∧ dsE t c k = 0 ∧ IV W w.heap.size s10 (dList t c k) ∧ Below w.heap.size w W
def DyS (w : World) (t : Tm) (c : Cl) (g : Nat) (s10 s11 : Value) (W : World) : Prop := ∃ k : Nat, k + g = t.ct.toNat ∧ s11 = .int .i64 ((k : Int) + 1) ∧ dsE t c k = 0 ∧ IV W w.heap.size s10 (dList t c k) ∧ Below w.heap.size w W
set_option maxHeartbeats 16000000 in
theorem days_any (t : Tm) (c : Cl) (wa ha : Option Addr) (wc hc : Nat) (w : World) (h : CalIn w c wa ha) (hcu : t.cur.size ≤ maxLen) : Calls Tryz.prog 45 #[(.agg #[.int .i64 (t).me, .int .i64 (t).pr, .int .i64 (t).ppm, .int .i64 (t).stt, .int .i64 (t).ev, .int .i64 (t).ct, .int .i64 (t).ba, .int .i64 (t).mo, .int .i64 (t).pen, .int .i64 (t).fe, .string (t).cal, .string (t).cur]), (.agg #[.string (c).nm, .slice wa (c).wk.length wc, .slice ha (c).hol.length hc])] w (DayOut t c w) := by
 have cw : Below w.heap.size w ((w.alloc (.cells #[.int .i64 (t).me, .int .i64 (t).pr, .int .i64 (t).ppm, .int .i64 (t).stt, .int .i64 (t).ev, .int .i64 (t).ct, .int .i64 (t).ba, .int .i64 (t).mo, .int .i64 (t).pen, .int .i64 (t).fe, .string (t).cal, .string (t).cur] 23)).alloc (.cells #[.string c.nm, .slice wa c.wk.length wc, .slice ha c.hol.length hc] 26)) := ((Below.refl _ _).alloc (Nat.le_refl _) _).alloc (by simp) _
 have kt : Bk.Blk ((w.alloc (.cells #[.int .i64 (t).me, .int .i64 (t).pr, .int .i64 (t).ppm, .int .i64 (t).stt, .int .i64 (t).ev, .int .i64 (t).ct, .int .i64 (t).ba, .int .i64 (t).mo, .int .i64 (t).pen, .int .i64 (t).fe, .string (t).cal, .string (t).cur] 23)).alloc (.cells #[.string c.nm, .slice wa c.wk.length wc, .slice ha c.hol.length hc] 26)) w.heap.size _ 23 := Bk.Blk.nw20
 have kc : Bk.Blk ((w.alloc (.cells #[.int .i64 (t).me, .int .i64 (t).pr, .int .i64 (t).ppm, .int .i64 (t).stt, .int .i64 (t).ev, .int .i64 (t).ct, .int .i64 (t).ba, .int .i64 (t).mo, .int .i64 (t).pen, .int .i64 (t).fe, .string (t).cal, .string (t).cur] 23)).alloc (.cells #[.string c.nm, .slice wa c.wk.length wc, .slice ha c.hol.length hc] 26)) (w.heap.size + 1) _ 26 := Bk.Blk.nw21
 have hi := h.later cw
 clear h
 go_enter Tryz.func45, Tryz.ntmps45
 go_upto_region 1 with fail
 generalize ((w.alloc (.cells _ 23)).alloc (.cells _ 26)) = w1 at *
 have cw1 := cw
 clear cw
 have l0 := kt.c0
 have l1 := kt.c1
 have l2 := kt.c2
 have l3 := kt.c3
 have l4 := kt.c4
 have l5 := kt.c5
 have l6 := kt.c6
 have l7 := kt.c7
 have l8 := kt.c8
 have l9 := kt.c9
 have l10 := kt.c10
 have l11 := kt.c11
 have m0 := kc.c0
 have m1 := kc.c1
 have m2 := kc.c2
 go_step3
 go_wp2_with fail
 clear l0 l1 l2 l3 l4 l5 l6 l7 l8 l9 l10 l11 m0 m1 m2
 refine (skchk_any t c wa ha wc hc _ hi hcu).mono ?_
 rintro e w2 ⟨rfl, hb⟩
 replace kt := kt.later hb
 replace kc := kc.later hb
 replace hi := hi.later hb
 have cw2 := bl2 hb cw1
 clear hb cw1
 by_cases he : skE t c ≠ 0
 ·have HF := Lib.hid (daysE_sk he)
  have HN := Lib.hid he
  have g1 : (skE t c != 0) = true := by simpa using he
  clear he
  generalize skE t c = E at *
  go_wp2_with fail
  go_ret2
  exact dayOut_no HF.out HN.out cw2
 ·have he0 : skE t c = 0 := Classical.byContradiction he
  obtain ⟨htk, hcl, hcd, hnm⟩ := sk_ok he0
  have hstt := htk.stt
  have hev := htk.ev
  have hct := htk.ct
  have HK := Lib.hid htk
  have HE := Lib.hid he0
  have g1 : (skE t c != 0) = false := by rw [he0]; rfl
  have hck := civ_spec t.stt hstt.1 hstt.2
  have a0 := hck.k0
  have a1 := Int.le_trans hck.k1 (mlen_bd _ _ hck.m0 hck.m1).2
  clear hck
  clear he htk hcl hcd hnm
  generalize skE t c = E at g1 ⊢
  have l3 := kt.c3
  have l4 := kt.c4
  have l5 := kt.c5
  go_wp2_with fail
  clear l3 l4 l5
  refine (Dt.civil_any t.stt _ hstt.1 hstt.2).mono ?_
  rintro e w3 ⟨rfl, hb⟩
  replace kt := kt.later hb
  replace kc := kc.later hb
  replace hi := hi.later hb
  have cw3 := bl2 hb cw2
  clear hb cw2
  obtain ⟨y, hy⟩ : ∃ y, y = cy t.stt := ⟨_, rfl⟩
  obtain ⟨m, hm⟩ : ∃ m, m = cm t.stt := ⟨_, rfl⟩
  obtain ⟨an, hk0⟩ : ∃ an, an = ck t.stt := ⟨_, rfl⟩
  have HAN := Lib.hid hk0
  rw [← hy, ← hm, ← hk0]
  rw [← hk0] at a0 a1
  clear hy hm hk0
  have l3 := kt.c3
  have l4 := kt.c4
  have l5 := kt.c5
  go_wp2_with fail
  clear l3 l4 l5
  have l3 := kt.c3
  have l4 := kt.c4
  have l5 := kt.c5
  go_step3
  go_wp2_with fail
  clear l3 l4 l5
  go_loopg [10, 11, 30] t.ct.toNat (DyR w3 t c)
  case atStart => exact ⟨0, by omega, rfl, rfl, rfl, GV.nil _ _, Below.refl _ _⟩
  case round =>
   obtain ⟨k, hk, rfl, rfl, hds, hiv, cwr⟩ := hrel
   replace kt := kt.later cwr
   replace kc := kc.later cwr
   replace hi := hi.later cwr
   by_cases hlt : k < t.ct.toNat
   ·have l3 := kt.c3
    have l4 := kt.c4
    have l5 := kt.c5
    have hwr : wrap64 (((k : Int) + 1) * t.ev) = ((k : Int) + 1) * t.ev := by
     exact Ln.wrap_in (by have := Int.mul_nonneg (show (0:Int) ≤ (k : Int) + 1 by omega) (show 0 ≤ t.ev by omega); omega) (by have := Int.mul_le_mul (show (k : Int) + 1 ≤ 120 by omega) (show t.ev ≤ 12 by omega) (by omega) (by omega); omega)
    have hbn := (⟨by have := Int.mul_nonneg (show (0:Int) ≤ (k : Int) + 1 by omega) (show 0 ≤ t.ev by omega); omega, by have := Int.mul_le_mul (show (k : Int) + 1 ≤ 120 by omega) (show t.ev ≤ 12 by omega) (by omega) (by omega); omega⟩ : -2400 ≤ ((k : Int) + 1) * t.ev ∧ ((k : Int) + 1) * t.ev ≤ 2400)
    have HDS := Lib.hid hds
    clear hds
    have hj : k < t.ct.toNat := by omega
    have HJ := Lib.hid hj
    obtain ⟨o, ho⟩ : ∃ o, o = addM t.stt (((k : Int) + 1) * t.ev) an := ⟨_, rfl⟩
    have HO := Lib.hid (show addM t.stt (((k : Int) + 1) * t.ev) (ck t.stt) = o by rw [ho, HAN.out])
    obtain ⟨nm, hnm⟩ : ∃ nm, nm = ((k : Int) + 1) * t.ev := ⟨_, rfl⟩
    have HWR := Lib.hid (show wrap64 (((k : Int) + 1) * t.ev) = nm by rw [hwr, hnm])
    rw [← hnm] at hbn ho
    clear hnm hj hwr
    go_wp2_with fail
    clear l3 l4 l5
    rw [HWR.out]
    refine (Dt.addm_any t.stt nm an _ hstt.1 hstt.2 hbn.1 hbn.2 a0 a1).mono ?_
    rintro e w4 ⟨rfl, hb⟩
    replace kt := kt.later hb
    replace kc := kc.later hb
    replace hi := hi.later hb
    replace hiv := hiv.later hb
    have cw4 := bl2 hb cwr
    clear hb cwr
    have HOB := Lib.hid (fun x (hx : o = some x) => addM_in a0 (ho.symm.trans hx))
    rw [← ho]
    clear ho
    cases o with
    | none =>
     have HF := Lib.hid (daysE_ds HE.out HJ.out HDS.out (dE_none HO.out) (by decide))
     simp only [oV_none, oE_none]
     go_wp2_with fail
     go_ret2
     exact (dayOut_no HF.out (by decide) cw4).up cw3
    | some x =>
     have hx := HOB.out x rfl
     clear HOB
     simp only [oV_some, oE_some]
     have m0 := kc.c0
     have m1 := kc.c1
     have m2 := kc.c2
     go_wp2_with fail
     clear m0 m1 m2
     refine (adj_any c wa ha wc hc x _ hi hx.1 hx.2).mono ?_
     rintro e w5 ⟨rfl, hb⟩
     replace kt := kt.later hb
     replace kc := kc.later hb
     replace hi := hi.later hb
     replace hiv := hiv.later hb
     have cw5 := bl2 hb cw4
     clear hb cw4
     cases hz : adj c x with
     | none =>
      have HF := Lib.hid (daysE_ds HE.out HJ.out HDS.out ((dE_some HO.out).trans (by rw [hz]; rfl)) (show (11 : Int) ≠ 0 by decide))
      simp only [oV_none, oE_none]
      clear hz
      go_wp2_with fail
      go_ret2
      exact (dayOut_no HF.out (by decide) cw5).up cw3
     | some z =>
      have HS := Lib.hid (ds_step HDS.out ((dE_some HO.out).trans (by rw [hz]; rfl)))
      have HL := Lib.hid (show dList t c (k + 1) = dList t c k ++ [z] by rw [dList_succ, dV_some HO.out, hz]; rfl)
      have hll := dList_len t c k
      simp only [oV_some, oE_some]
      clear hz
      generalize dList t c k = dl at *
      have hzz := cw5.size
      go_wp2_with (at_builtin; refine app_int z rfl _ _ rfl rfl hiv rfl (by omega) hzz ?_)
      intro v' w6 hiv' hgr hat
      have cw6 := grown_below cw5 hiv hgr
      clear hgr hat hiv cw5 hzz
      have HIV := Lib.hid hiv'
      clear hiv'
      go_wp2_with fail
      go_roundg (gk - 1)
      case measure => omega
      case rel => exact ⟨k + 1, by omega, by go_num, rfl, HS.out, by rw [HL.out]; exact HIV.out, cw6⟩
   ·have hkn : k = t.ct.toNat := by omega
    subst hkn
    have HF := Lib.hid (daysE_all HE.out hds)
    have HIV := Lib.hid hiv
    clear hds hiv
    have l3 := kt.c3
    have l4 := kt.c4
    have l5 := kt.c5
    go_wp2_with fail
    go_ret2
    exact (dayOut_ok hct.2 HF.out HIV.out cwr).up cw3
end Go.Proofs.YtlolflephnbbcaaGreatDoor.Kl

namespace Go.Proofs.YtlolflephnbbcaaGreatDoor.An
open Go.RowKit
open Go.Proofs.YtlolflephnbbcaaGreatDoor
set_option linter.unusedVariables false
end Go.Proofs.YtlolflephnbbcaaGreatDoor.An

namespace Go.Proofs.YtlolflephnbbcaaGreatDoor.Kl
open Go.RowKit
open Go.Proofs.YtlolflephnbbcaaGreatDoor
open Go.Proofs.YtlolflephnbbcaaGreatDoor.Ln (Tm Du)
open Go.Proofs.YtlolflephnbbcaaGreatDoor.An (intr)
set_option linter.unusedSimpArgs false
set_option linter.unusedVariables false
set_option maxRecDepth 100000

def pq (t : Tm) (pay it : Int) (i : Nat) (left : Int) : Int := if t.me = 2 then (if (i : Int) < t.pr % t.ct then t.pr / t.ct + 1 else t.pr / t.ct) else if t.me = 3 then 0 else min (pay - it) left
theorem prt_pq {t : Tm} {pay left : Int} {i : Nat} (h : i + 1 < t.ct.toNat) : prt t pay i left = pq t pay (intr (t.ppm * t.ev) t.mo left) i left := if_pos h
set_option maxHeartbeats 4000000 in
theorem prin_any (t : Tm) (i : Nat) (left it pay : Int) (w : World) (p0 : 1 ≤ t.pr) (p1 : t.pr ≤ 1000000000000) (c0 : 1 ≤ t.ct) (c1 : t.ct ≤ 120) (i1 : i ≤ 120) (a0 : 0 ≤ pay) (a1 : pay ≤ 1000000000000) (b0 : 0 ≤ it) (b1 : it ≤ 1000000000000) :
  Calls Tryz.prog 48 #[(.agg #[.int .i64 (t).me, .int .i64 (t).pr, .int .i64 (t).ppm, .int .i64 (t).stt, .int .i64 (t).ev, .int .i64 (t).ct, .int .i64 (t).ba, .int .i64 (t).mo, .int .i64 (t).pen, .int .i64 (t).fe, .string (t).cal, .string (t).cur]), .int .i64 (i : Int), .int .i64 left, .int .i64 it, .int .i64 pay] w fun e w' => e = .returned (.int .i64 (pq t pay it i left)) ∧ Below w.heap.size w w' := by
 have cw : Below w.heap.size w (w.alloc (.cells #[.int .i64 (t).me, .int .i64 (t).pr, .int .i64 (t).ppm, .int .i64 (t).stt, .int .i64 (t).ev, .int .i64 (t).ct, .int .i64 (t).ba, .int .i64 (t).mo, .int .i64 (t).pen, .int .i64 (t).fe, .string (t).cal, .string (t).cur] 23)) := (Below.refl _ _).alloc (Nat.le_refl _) _
 have kt : Bk.Blk (w.alloc (.cells #[.int .i64 (t).me, .int .i64 (t).pr, .int .i64 (t).ppm, .int .i64 (t).stt, .int .i64 (t).ev, .int .i64 (t).ct, .int .i64 (t).ba, .int .i64 (t).mo, .int .i64 (t).pen, .int .i64 (t).fe, .string (t).cal, .string (t).cur] 23)) w.heap.size _ 23 := Bk.Blk.nw10
 obtain ⟨q, hq⟩ : ∃ q, q = t.pr / t.ct := ⟨_, rfl⟩
 obtain ⟨r, hr⟩ : ∃ r, r = t.pr % t.ct := ⟨_, rfl⟩
 have q0 : 0 ≤ q ∧ q ≤ 1000000000000 := by
  rw [hq]
  exact ⟨Int.ediv_nonneg (by omega) (by omega), Int.le_trans (Int.ediv_le_self _ (by omega)) p1⟩
 have hqq : t.pr.tdiv t.ct = q := by rw [hq]; exact Int.tdiv_eq_ediv_of_nonneg (by omega)
 have hrr : t.pr.tmod t.ct = r := by rw [hr]; exact Int.tmod_eq_emod_of_nonneg (by omega)
 go_enter Tryz.func48, Tryz.ntmps48
 go_upto_region 1 with fail
 generalize (w.alloc (.cells _ 23)) = w1 at *
 have l0 := kt.c0
 have l1 := kt.c1
 have l5 := kt.c5
 by_cases h2 : t.me = 2
 ·have g2 : (t.me == 2) = true := by simp [h2]
  by_cases hi : (i : Int) < r
  ·have HF := Lib.hid (show pq t pay it i left = q + 1 by unfold pq; rw [if_pos h2, ← hr, if_pos hi, ← hq])
   clear h2 hq hr
   go_wp2_with fail
   go_ret
   exact ⟨by rw [HF.out]; try rfl, cw⟩
  ·have HF := Lib.hid (show pq t pay it i left = q by unfold pq; rw [if_pos h2, ← hr, if_neg hi, ← hq])
   clear h2 hq hr
   go_wp2_with fail
   go_ret
   exact ⟨by rw [HF.out]; try rfl, cw⟩
 ·by_cases h3 : t.me = 3
  ·have g2 : (t.me == 2) = false := by simp [h2]
   have g3 : (t.me == 3) = true := by simp [h3]
   have HF := Lib.hid (show pq t pay it i left = 0 by unfold pq; rw [if_neg h2, if_pos h3])
   clear h2 h3 hq hr hqq hrr
   go_wp2_with fail
   go_ret
   exact ⟨by rw [HF.out]; try rfl, cw⟩
  ·have g2 : (t.me == 2) = false := by simp [h2]
   have g3 : (t.me == 3) = false := by simp [h3]
   have HF := Lib.hid (show pq t pay it i left = min (pay - it) left by unfold pq; rw [if_neg h2, if_neg h3])
   clear h2 h3 hq hr hqq hrr
   go_wp2_with fail
   go_ret
   exact ⟨by rw [HF.out]; try rfl, cw⟩
end Go.Proofs.YtlolflephnbbcaaGreatDoor.Kl
