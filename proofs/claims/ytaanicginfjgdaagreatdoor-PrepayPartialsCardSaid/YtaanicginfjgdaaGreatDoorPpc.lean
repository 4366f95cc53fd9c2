/-
 Prepay: the principal of an installment, the payment, the installments of a plan.
 Prepay: what Partial asks of its arguments.
 Prepay: the installments for the rest.
-/
import Derived.Test.YtaanicginfjgdaaGreatDoorPna
import Derived.Test.YtaanicginfjgdaaGreatDoorTkb
import Derived.Test.YtaanicginfjgdaaGreatDoorPpa
import Derived.Test.YtaanicginfjgdaaGreatDoorSk1
namespace Go.Proofs.YtaanicginfjgdaaGreatDoor.Pp
open Go Go.RowKit
open Go.Proofs.YtaanicginfjgdaaGreatDoor
open Go.Proofs.YtaanicginfjgdaaGreatDoor.Ln (Tm Ch Du Lo Pa sum prs its P I due chk Ok ok_iff wrap_in wrap_add powed zLo LoIn DuesIn RowIn OwnR denc denc_len cenc cenc_len penc penc_len tenc flat flat_len Dok dues_of_row bl2 SB SB.mono SQ SQ.mono take_at one_at two_at call_at call_wp call_one call_pv value_wp yields_load_row Blk_setRow_same Blk_setRow_ne Below_setRow dues_setRow row_row one25 load_guarded results2_cell dues_lt rowc_lt rangeAt_later tk ts z0 z1 z3 z4 z5)
open Go.Proofs.YtaanicginfjgdaaGreatDoor.Ln (row_put flat_mem denc_one key2_of)
open Go.Proofs.YtaanicginfjgdaaGreatDoor.Sr (GV DV app_due grown_blk grown_below)
open Go.Proofs.YtaanicginfjgdaaGreatDoor.An (intr intr_bd POut)
open Go.Proofs.YtaanicginfjgdaaGreatDoor.Rd (gd pcV pcE Stp)
open Go.Proofs.YtaanicginfjgdaaGreatDoor.Kl (Cl CalIn skE)
set_option linter.unusedSimpArgs false
set_option linter.unusedVariables false
set_option maxRecDepth 100000

set_option maxHeartbeats 8000000 in
theorem part_any (t : Tm) (rest : Int) (n : Nat) (keep pay : Int) (i : Nat) (left it : Int) (w : World) (hi : i + 1 < n) (hn : n ≤ 1000) (hrs : 0 ≤ rest ∧ rest ≤ 1000000000000) (hp : 0 ≤ pay ∧ pay ≤ 3000000000000) (hit : 0 ≤ it ∧ it ≤ 1000000000000) (hl : 0 ≤ left ∧ left ≤ 1000000000000) : Calls Tryz.prog 71 #[.agg #[.int .i64 (t).me, .int .i64 (t).pr, .int .i64 (t).ppm, .int .i64 (t).stt, .int .i64 (t).ev, .int .i64 (t).ct, .int .i64 (t).ba, .int .i64 (t).mo, .int .i64 (t).pen, .int .i64 (t).fe, .string (t).cal, .string (t).cur, .int .i64 rest, .int .i64 n, .int .i64 pay, .int .i64 keep], .int .i64 ((i : Int) + 1), .int .i64 left, .int .i64 it] w fun e w' => e = .returned (.int .i64 (prK t rest n keep pay i left it)) ∧ Below w.heap.size w w' := by
 have cw : Below w.heap.size w (w.alloc (.cells #[.int .i64 (t).me, .int .i64 (t).pr, .int .i64 (t).ppm, .int .i64 (t).stt, .int .i64 (t).ev, .int .i64 (t).ct, .int .i64 (t).ba, .int .i64 (t).mo, .int .i64 (t).pen, .int .i64 (t).fe, .string (t).cal, .string (t).cur, .int .i64 rest, .int .i64 n, .int .i64 pay, .int .i64 keep] 80)) := (Below.refl _ _).alloc (Nat.le_refl _) _
 have k0 : Bk.Blk (w.alloc (.cells #[.int .i64 (t).me, .int .i64 (t).pr, .int .i64 (t).ppm, .int .i64 (t).stt, .int .i64 (t).ev, .int .i64 (t).ct, .int .i64 (t).ba, .int .i64 (t).mo, .int .i64 (t).pen, .int .i64 (t).fe, .string (t).cal, .string (t).cur, .int .i64 rest, .int .i64 n, .int .i64 pay, .int .i64 keep] 80)) w.heap.size _ 80 := Bk.Blk.nw10
 go_enter Tryz.func71, Tryz.ntmps71
 go_upto_region 1 with fail
 generalize (w.alloc (.cells _ 80)) = w1 at *
 have l0 := k0.c0
 have l12 := k0.c12
 have l13 := k0.c13
 have l14 := k0.c14
 have l15 := k0.c15
 by_cases hk : keep = 2
 ·have HF := Lib.hid (show prK t rest n keep pay i left it = min (max (pay - it) 0) left from by unfold prK; rw [if_pos hi, if_pos hk])
  have gk : (keep == 2) = true := by rw [hk]; rfl
  have s1 : IntKind.i64.wrap (pay - it) = pay - it := by rw [IntKind.wrap_i64]; omega
  clear hk
  go_wp2_with fail
  go_ret
  exact ⟨by rw [HF.out]; first | rfl | (simp; done) | (congr 1; omega), cw⟩
 ·have gk : (keep == 2) = false := by simpa using hk
  by_cases h2 : t.me = 2
  ·have gm : (t.me == 2) = true := by rw [h2]; rfl
   obtain ⟨q, hq⟩ : ∃ q, q = rest / (n : Int) := ⟨_, rfl⟩
   obtain ⟨r, hr⟩ : ∃ r, r = rest % (n : Int) := ⟨_, rfl⟩
   have q0 : 0 ≤ q ∧ q ≤ 1000000000000 := by
    rw [hq]
    exact ⟨Int.ediv_nonneg (by omega) (by omega), Int.le_trans (Int.ediv_le_self _ (by omega)) (by omega)⟩
   have hqq : rest.tdiv (n : Int) = q := by rw [hq]; exact Int.tdiv_eq_ediv_of_nonneg (by omega)
   have hrr : rest.tmod (n : Int) = r := by rw [hr]; exact Int.tmod_eq_emod_of_nonneg (by omega)
   have hn1 : (1 : Int) ≤ (n : Int) := by omega
   by_cases hc : (i : Int) < r
   ·have HF := Lib.hid (show prK t rest n keep pay i left it = q + 1 from by unfold prK; rw [if_pos hi, if_neg hk, if_pos h2, ← hr, if_pos hc, ← hq])
    clear h2 hk hq hr
    go_wp2_with fail
    go_ret
    exact ⟨by rw [HF.out]; try rfl, cw⟩
   ·have HF := Lib.hid (show prK t rest n keep pay i left it = q from by unfold prK; rw [if_pos hi, if_neg hk, if_pos h2, ← hr, if_neg hc, ← hq])
    clear h2 hk hq hr
    go_wp2_with fail
    go_ret
    exact ⟨by rw [HF.out]; try rfl, cw⟩
  ·by_cases h3 : t.me = 3
   ·have HF := Lib.hid (show prK t rest n keep pay i left it = 0 from by unfold prK; rw [if_pos hi, if_neg hk, if_neg h2, if_pos h3])
    have gm : (t.me == 2) = false := by simpa using h2
    have gb : (t.me == 3) = true := by rw [h3]; rfl
    clear h2 h3 hk
    go_wp2_with fail
    go_ret
    exact ⟨by rw [HF.out]; first | rfl | (simp; done) | (congr 1; omega), cw⟩
   ·have HF := Lib.hid (show prK t rest n keep pay i left it = min (pay - it) left from by unfold prK; rw [if_pos hi, if_neg hk, if_neg h2, if_neg h3])
    have gm : (t.me == 2) = false := by simpa using h2
    have gb : (t.me == 3) = false := by simpa using h3
    have s1 : IntKind.i64.wrap (pay - it) = pay - it := by rw [IntKind.wrap_i64]; omega
    clear h2 h3 hk
    go_wp2_with fail
    go_ret
    exact ⟨by rw [HF.out]; first | rfl | (simp; done) | (congr 1; omega), cw⟩
set_option maxHeartbeats 8000000 in
theorem level_any (l : Lo) (day rest : Int) (n : Nat) (keep pay : Int) (d : Du) (hdx : d = nx l day) (w : World) (hS : Stp w) (hb : (0 ≤ d.pr ∧ d.pr ≤ 1000000000000) ∧ (0 ≤ d.it ∧ d.it ≤ 1000000000000)) : Calls Tryz.prog 43 #[.agg #[.int .i64 (l.tm).me, .int .i64 (l.tm).pr, .int .i64 (l.tm).ppm, .int .i64 (l.tm).stt, .int .i64 (l.tm).ev, .int .i64 (l.tm).ct, .int .i64 (l.tm).ba, .int .i64 (l.tm).mo, .int .i64 (l.tm).pen, .int .i64 (l.tm).fe, .string (l.tm).cal, .string (l.tm).cur, .int .i64 rest, .int .i64 n, .int .i64 pay, .int .i64 keep], .agg #[.int .i64 d.no, .int .i64 d.day, .int .i64 d.pr, .int .i64 d.it]] w fun e w' => e = .returned (.tuple #[.int .i64 (lvV l day keep rest n), .int .i64 (lvE l keep rest n)]) ∧ Below w.heap.size w w' := by
 have cw : Below w.heap.size w ((w.alloc (.cells #[.int .i64 (l.tm).me, .int .i64 (l.tm).pr, .int .i64 (l.tm).ppm, .int .i64 (l.tm).stt, .int .i64 (l.tm).ev, .int .i64 (l.tm).ct, .int .i64 (l.tm).ba, .int .i64 (l.tm).mo, .int .i64 (l.tm).pen, .int .i64 (l.tm).fe, .string (l.tm).cal, .string (l.tm).cur, .int .i64 rest, .int .i64 n, .int .i64 pay, .int .i64 keep] 80)).alloc (.cells #[.int .i64 d.no, .int .i64 d.day, .int .i64 d.pr, .int .i64 d.it] 53)) := ((Below.refl _ _).alloc (Nat.le_refl _) _).alloc (by simp) _
 have k0 : Bk.Blk ((w.alloc (.cells #[.int .i64 (l.tm).me, .int .i64 (l.tm).pr, .int .i64 (l.tm).ppm, .int .i64 (l.tm).stt, .int .i64 (l.tm).ev, .int .i64 (l.tm).ct, .int .i64 (l.tm).ba, .int .i64 (l.tm).mo, .int .i64 (l.tm).pen, .int .i64 (l.tm).fe, .string (l.tm).cal, .string (l.tm).cur, .int .i64 rest, .int .i64 n, .int .i64 pay, .int .i64 keep] 80)).alloc (.cells #[.int .i64 d.no, .int .i64 d.day, .int .i64 d.pr, .int .i64 d.it] 53)) w.heap.size _ 80 := Bk.Blk.nw20
 have k1 : Bk.Blk ((w.alloc (.cells #[.int .i64 (l.tm).me, .int .i64 (l.tm).pr, .int .i64 (l.tm).ppm, .int .i64 (l.tm).stt, .int .i64 (l.tm).ev, .int .i64 (l.tm).ct, .int .i64 (l.tm).ba, .int .i64 (l.tm).mo, .int .i64 (l.tm).pen, .int .i64 (l.tm).fe, .string (l.tm).cal, .string (l.tm).cur, .int .i64 rest, .int .i64 n, .int .i64 pay, .int .i64 keep] 80)).alloc (.cells #[.int .i64 d.no, .int .i64 d.day, .int .i64 d.pr, .int .i64 d.it] 53)) (w.heap.size + 1) _ 53 := Bk.Blk.nw21
 have hS1 := hS.of cw
 have HD := Lib.hid hdx
 clear hS hdx
 go_enter Tryz.func43, Tryz.ntmps43
 go_upto_region 1 with fail
 generalize ((w.alloc (.cells _ 80)).alloc (.cells _ 53)) = w1 at *
 have l0 := k0.c0
 have l2 := k0.c2
 have l4 := k0.c4
 have l6 := k0.c6
 have l7 := k0.c7
 have l12 := k0.c12
 have l13 := k0.c13
 have l15 := k0.c15
 have m2 := k1.c2
 have m3 := k1.c3
 by_cases hk : keep = 2
 ·have HE := Lib.hid (show lvE l keep rest n = 0 from by unfold lvE; rw [if_pos hk])
  have HV := Lib.hid (show lvV l day keep rest n = d.pr + d.it from by unfold lvV; rw [if_pos hk, ← HD.out])
  have gk : (keep == 2) = true := by rw [hk]; rfl
  have s1 : IntKind.i64.wrap (d.pr + d.it) = d.pr + d.it := by rw [IntKind.wrap_i64]; omega
  clear hk
  go_wp2_with fail
  go_ret2
  exact ⟨by rw [HE.out, HV.out]; try rfl, cw⟩
 ·have gk : (keep == 2) = false := by simpa using hk
  by_cases h4 : l.tm.me = 4
  ·have HE := Lib.hid (show lvE l keep rest n = anE rest l.tm.ppm l.tm.ev l.tm.mo n (min l.tm.ba rest) from by unfold lvE; rw [if_neg hk, if_pos (.inr h4), show balK l.tm rest = min l.tm.ba rest from if_pos h4])
   have HV := Lib.hid (show lvV l day keep rest n = anV rest l.tm.ppm l.tm.ev l.tm.mo n (min l.tm.ba rest) from by unfold lvV; rw [if_neg hk, if_pos (.inr h4), show balK l.tm rest = min l.tm.ba rest from if_pos h4])
   have HPY := Lib.hid (An.pay_any rest l.tm.ppm l.tm.ev l.tm.mo n (min l.tm.ba rest) _ hS1)
   clear hk
   obtain ⟨B, hB⟩ : ∃ B, B = (min l.tm.ba rest) := ⟨_, rfl⟩
   rw [← hB] at HE HV HPY
   have HB := Lib.hid hB
   clear hB
   have g4 : (l.tm.me == 4) = true := by rw [h4]; rfl
   clear h4
   go_wp2_with fail
   clear l0 l2 l4 l6 l7 l12 l13 l15 m2 m3
   rw [← HB.out]
   refine HPY.out.mono ?_
   rintro e w2 ⟨hp, hb⟩
   obtain rfl := pout_is hp
   have cw2 := bl2 hb cw
   clear hb hp HPY
   generalize anV rest l.tm.ppm l.tm.ev l.tm.mo n B = v at HV ⊢
   generalize anE rest l.tm.ppm l.tm.ev l.tm.mo n B = c at HE ⊢
   go_wp2_with fail
   go_ret2
   exact ⟨by rw [HE.out, HV.out]; try rfl, cw2⟩
  ·by_cases h1 : l.tm.me = 1
   ·have HE := Lib.hid (show lvE l keep rest n = anE rest l.tm.ppm l.tm.ev l.tm.mo n 0 from by unfold lvE; rw [if_neg hk, if_pos (.inl h1), show balK l.tm rest = 0 from if_neg h4])
    have HV := Lib.hid (show lvV l day keep rest n = anV rest l.tm.ppm l.tm.ev l.tm.mo n 0 from by unfold lvV; rw [if_neg hk, if_pos (.inl h1), show balK l.tm rest = 0 from if_neg h4])
    have HPY := Lib.hid (An.pay_any rest l.tm.ppm l.tm.ev l.tm.mo n 0 _ hS1)
    clear hk
    have g4 : (l.tm.me == 4) = false := by simpa using h4
    have g1 : (l.tm.me != 1) = false := by rw [h1]; rfl
    clear h4 h1
    go_wp2_with fail
    clear l0 l2 l4 l6 l7 l12 l13 l15 m2 m3
    refine HPY.out.mono ?_
    rintro e w2 ⟨hp, hb⟩
    obtain rfl := pout_is hp
    have cw2 := bl2 hb cw
    clear hb hp HPY
    generalize anV rest l.tm.ppm l.tm.ev l.tm.mo n 0 = v at HV ⊢
    generalize anE rest l.tm.ppm l.tm.ev l.tm.mo n 0 = c at HE ⊢
    go_wp2_with fail
    go_ret2
    exact ⟨by rw [HE.out, HV.out]; try rfl, cw2⟩
   ·have HE := Lib.hid (show lvE l keep rest n = 0 from by unfold lvE; rw [if_neg hk, if_neg (fun e => e.elim h1 h4)])
    have HV := Lib.hid (show lvV l day keep rest n = 0 from by unfold lvV; rw [if_neg hk, if_neg (fun e => e.elim h1 h4)])
    have g4 : (l.tm.me == 4) = false := by simpa using h4
    have g1 : (l.tm.me != 1) = true := by simpa using h1
    clear h4 h1 hk
    go_wp2_with fail
    go_ret2
    exact ⟨by rw [HE.out, HV.out]; try rfl, cw⟩
end Go.Proofs.YtaanicginfjgdaaGreatDoor.Pp

namespace Go.Proofs.YtaanicginfjgdaaGreatDoor.Pp
open Go Go.RowKit
open Go.Proofs.YtaanicginfjgdaaGreatDoor
open Go.Proofs.YtaanicginfjgdaaGreatDoor.Ln (Tm Ch Du Lo Pa sum prs its P I due chk Ok ok_iff wrap_in wrap_add powed zLo LoIn DuesIn RowIn OwnR denc denc_len cenc cenc_len penc penc_len tenc flat flat_len Dok dues_of_row bl2 SB SB.mono SQ SQ.mono take_at one_at two_at call_at call_wp call_one call_pv value_wp yields_load_row Blk_setRow_same Blk_setRow_ne Below_setRow dues_setRow row_row one25 load_guarded results2_cell dues_lt rowc_lt rangeAt_later tk ts z0 z1 z3 z4 z5)
open Go.Proofs.YtaanicginfjgdaaGreatDoor.Rd (gd pcV pcE Stp)
open Go.Proofs.YtaanicginfjgdaaGreatDoor.Kl (Cl CalIn skE)
set_option linter.unusedSimpArgs false
set_option linter.unusedVariables false
set_option maxRecDepth 100000

def AlO (l : Lo) (a day keep : Int) (c : Cl) (w : World) (e : Ending) (w' : World) : Prop := e = .returned (.tuple #[.int .i64 (if alE l a day keep c = 0 then paid l a else 0), .int .i64 (alE l a day keep c)]) ∧ Below w.heap.size w w'
theorem alo_no {l : Lo} {a day keep E : Int} {c : Cl} {w w' : World} (h : alE l a day keep c = E) (h0 : E ≠ 0) (hb : Below w.heap.size w w') : AlO l a day keep c w (.returned (.tuple #[.int .i64 0, .int .i64 E])) w' := by
 unfold AlO
 rw [h, if_neg h0]
 exact ⟨rfl, hb⟩
theorem alo_ok {l : Lo} {a day keep n : Int} {c : Cl} {w w' : World} (h : alE l a day keep c = 0) (hn : paid l a = n) (hb : Below w.heap.size w w') : AlO l a day keep c w (.returned (.tuple #[.int .i64 n, .int .i64 0])) w' := by
 unfold AlO
 rw [h, if_pos rfl, hn]
 exact ⟨rfl, hb⟩
section
variable {l : Lo} {a day keep : Int} {c : Cl}
theorem alE_1 (h : l.st ≠ 1 ∨ powed l day ≠ []) : alE l a day keep c = 17 := if_pos h
theorem alE_2 (h : ¬ (l.st ≠ 1 ∨ powed l day ≠ [])) (h2 : a < 1 ∨ ¬ gd a ∨ ¬ (keep = 1 ∨ keep = 2)) : alE l a day keep c = 1 := (if_neg h).trans (if_pos h2)
theorem alE_3 (h : ¬ (l.st ≠ 1 ∨ powed l day ≠ [])) (h2 : ¬ (a < 1 ∨ ¬ gd a ∨ ¬ (keep = 1 ∨ keep = 2))) (h3 : keep = 2 ∧ l.tm.me ≠ 1) : alE l a day keep c = 3 := ((if_neg h).trans (if_neg h2)).trans (if_pos h3)
theorem alE_4 (h : ¬ (l.st ≠ 1 ∨ powed l day ≠ [])) (h2 : ¬ (a < 1 ∨ ¬ gd a ∨ ¬ (keep = 1 ∨ keep = 2))) (h3 : ¬ (keep = 2 ∧ l.tm.me ≠ 1)) (h4 : skE l.tm c ≠ 0) : alE l a day keep c = skE l.tm c := (((if_neg h).trans (if_neg h2)).trans (if_neg h3)).trans (if_pos h4)
theorem alE_5 (h : ¬ (l.st ≠ 1 ∨ powed l day ≠ [])) (h2 : ¬ (a < 1 ∨ ¬ gd a ∨ ¬ (keep = 1 ∨ keep = 2))) (h3 : ¬ (keep = 2 ∧ l.tm.me ≠ 1)) (h4 : ¬ skE l.tm c ≠ 0) (h5 : paid l a < 1 ∨ P l.ds - l.pp ≤ paid l a) : alE l a day keep c = 18 := ((((if_neg h).trans (if_neg h2)).trans (if_neg h3)).trans (if_neg h4)).trans (if_pos h5)
theorem alE_0 (h : ¬ (l.st ≠ 1 ∨ powed l day ≠ [])) (h2 : ¬ (a < 1 ∨ ¬ gd a ∨ ¬ (keep = 1 ∨ keep = 2))) (h3 : ¬ (keep = 2 ∧ l.tm.me ≠ 1)) (h4 : ¬ skE l.tm c ≠ 0) (h5 : ¬ (paid l a < 1 ∨ P l.ds - l.pp ≤ paid l a)) : alE l a day keep c = 0 := ((((if_neg h).trans (if_neg h2)).trans (if_neg h3)).trans (if_neg h4)).trans (if_neg h5)
end
set_option maxHeartbeats 16000000 in
theorem allowed_any (l : Lo) (da ca : Option Addr) (dk ck : Nat) (a day keep : Int) (c : Cl) (wa ha : Option Addr) (wc hc : Nat) (w : World) (h : DuesIn w da l.ds) (ho : Ok l) (hcal : CalIn w c wa ha) (hcu : l.tm.cur.size ≤ maxLen) (hS : Stp w) : Calls Tryz.prog 42 #[(.agg #[.int .i64 (l).id, .int .i64 (l).ac, .int .i64 (l).st, .int .i64 (l).pp, .int .i64 (l).pi, .int .i64 (l).fee, .int .i64 (l).pen, .int .i64 (l).chg, .int .i64 (l).prov, .int .i64 (l).loss, .int .i64 (l).rcv, .int .i64 ((l).tm).me, .int .i64 ((l).tm).pr, .int .i64 ((l).tm).ppm, .int .i64 ((l).tm).stt, .int .i64 ((l).tm).ev, .int .i64 ((l).tm).ct, .int .i64 ((l).tm).ba, .int .i64 ((l).tm).mo, .int .i64 ((l).tm).pen, .int .i64 ((l).tm).fe, .string ((l).tm).cal, .string ((l).tm).cur, .slice da (l).ds.length dk, .slice ca (l).cs.length ck]), .int .i64 a, .int .i64 day, .int .i64 keep, (.agg #[.string (c).nm, .slice wa (c).wk.length wc, .slice ha (c).hol.length hc])] w (AlO l a day keep c w) := by
 have cw1 : Below w.heap.size w ((w.alloc (.cells #[.int .i64 (l).id, .int .i64 (l).ac, .int .i64 (l).st, .int .i64 (l).pp, .int .i64 (l).pi, .int .i64 (l).fee, .int .i64 (l).pen, .int .i64 (l).chg, .int .i64 (l).prov, .int .i64 (l).loss, .int .i64 (l).rcv, .int .i64 ((l).tm).me, .int .i64 ((l).tm).pr, .int .i64 ((l).tm).ppm, .int .i64 ((l).tm).stt, .int .i64 ((l).tm).ev, .int .i64 ((l).tm).ct, .int .i64 ((l).tm).ba, .int .i64 ((l).tm).mo, .int .i64 ((l).tm).pen, .int .i64 ((l).tm).fe, .string ((l).tm).cal, .string ((l).tm).cur, .slice da (l).ds.length dk, .slice ca (l).cs.length ck] 27)).alloc (.cells #[.string c.nm, .slice wa c.wk.length wc, .slice ha c.hol.length hc] 44)) := ((Below.refl _ _).alloc (Nat.le_refl _) _).alloc (by simp) _
 have k0 : Bk.Blk ((w.alloc (.cells #[.int .i64 (l).id, .int .i64 (l).ac, .int .i64 (l).st, .int .i64 (l).pp, .int .i64 (l).pi, .int .i64 (l).fee, .int .i64 (l).pen, .int .i64 (l).chg, .int .i64 (l).prov, .int .i64 (l).loss, .int .i64 (l).rcv, .int .i64 ((l).tm).me, .int .i64 ((l).tm).pr, .int .i64 ((l).tm).ppm, .int .i64 ((l).tm).stt, .int .i64 ((l).tm).ev, .int .i64 ((l).tm).ct, .int .i64 ((l).tm).ba, .int .i64 ((l).tm).mo, .int .i64 ((l).tm).pen, .int .i64 ((l).tm).fe, .string ((l).tm).cal, .string ((l).tm).cur, .slice da (l).ds.length dk, .slice ca (l).cs.length ck] 27)).alloc (.cells #[.string c.nm, .slice wa c.wk.length wc, .slice ha c.hol.length hc] 44)) w.heap.size _ 27 := Bk.Blk.nw20
 have kc : Bk.Blk ((w.alloc (.cells #[.int .i64 (l).id, .int .i64 (l).ac, .int .i64 (l).st, .int .i64 (l).pp, .int .i64 (l).pi, .int .i64 (l).fee, .int .i64 (l).pen, .int .i64 (l).chg, .int .i64 (l).prov, .int .i64 (l).loss, .int .i64 (l).rcv, .int .i64 ((l).tm).me, .int .i64 ((l).tm).pr, .int .i64 ((l).tm).ppm, .int .i64 ((l).tm).stt, .int .i64 ((l).tm).ev, .int .i64 ((l).tm).ct, .int .i64 ((l).tm).ba, .int .i64 ((l).tm).mo, .int .i64 ((l).tm).pen, .int .i64 ((l).tm).fe, .string ((l).tm).cal, .string ((l).tm).cur, .slice da (l).ds.length dk, .slice ca (l).cs.length ck] 27)).alloc (.cells #[.string c.nm, .slice wa c.wk.length wc, .slice ha c.hol.length hc] 44)) (w.heap.size + 1) _ 44 := Bk.Blk.nw21
 have HD := Lib.hid (fun W (hW : Below w.heap.size w W) => h.later hW)
 have HST := Lib.hid (fun W (hW : Below w.heap.size w W) => hS.of hW)
 have HC := Lib.hid (fun W (hW : Below w.heap.size w W) => hcal.later hW)
 clear h hS hcal
 go_enter Tryz.func42, Tryz.ntmps42
 go_upto_region 1 with fail
 generalize ((w.alloc (.cells _ 27)).alloc (.cells _ 44)) = w1 at *
 have l2 := k0.c2
 by_cases h1 : l.st = 1
 ·have g1 : (l.st != 1) = false := by rw [h1]; rfl
  have H1 := Lib.hid h1
  clear h1
  go_wp2_with (first | (refine wpList_load_row rfl 27 _ rfl _ rfl _ _ _ _ (k0) Tryz.underlying27 rfl (by kernel_rfl) ?_) | (refine load_guarded 27 _ rfl rfl _ rfl _ _ _ _ (k0) Tryz.underlying27 rfl (by kernel_rfl) ?_))
  clear l2
  refine (Ln.owed_any l da ca dk ck day _ (HD.out _ cw1) (by have := ho.n2; omega)).mono ?_
  rintro e w2 ⟨go_, rfl, _, _, hb⟩
  replace k0 := k0.later hb
  replace kc := kc.later hb
  have cw2 := bl2 hb cw1
  clear hb cw1
  obtain ⟨m, hm⟩ : ∃ m, m = (powed l day).length := ⟨_, rfl⟩
  rw [← hm]
  have HM := Lib.hid hm
  clear hm
  by_cases hm0 : m = 0
  ·have HO := Lib.hid (show ¬ (l.st ≠ 1 ∨ powed l day ≠ []) from fun e => e.elim (fun x => x H1.out) (fun x => x (List.length_eq_zero_iff.1 (by rw [← HM.out]; exact hm0))))
   subst hm0
   by_cases ha1 : a < 1
   ·have ga : decide (a < 1) = true := decide_eq_true ha1
    have HF := Lib.hid (show alE l a day keep c = 1 from alE_2 HO.out (.inl ha1))
    go_wp2_with fail
    go_ret2
    exact alo_no HF.out (by decide) cw2
   ·have ga : decide (a < 1) = false := decide_eq_false ha1
    go_wp2_with fail
    refine (mval_any a _).mono ?_
    rintro e w3 ⟨rfl, hb⟩
    replace k0 := k0.later hb
    replace kc := kc.later hb
    have cw3 := bl2 hb cw2
    clear hb cw2
    by_cases hg : gd a
    ·rw [decide_eq_true hg]
     have HG := Lib.hid hg
     by_cases hk : keep = 1 ∨ keep = 2
     ·have HA := Lib.hid (show ¬ (a < 1 ∨ ¬ gd a ∨ ¬ (keep = 1 ∨ keep = 2)) from fun e => e.elim (fun x => by omega) (fun e => e.elim (fun x => x HG.out) (fun x => x hk)))
      by_cases hk1 : keep = 1
      ·have q1 : (keep != 1) = false := by rw [hk1]; rfl
       have q2 : (keep == 2) = false := by rw [hk1]; rfl
       have HK3 := Lib.hid (show ¬ (keep = 2 ∧ l.tm.me ≠ 1) from fun e => by rw [hk1] at e; exact absurd e.1 (by decide))
       clear hk1 hk
       have HTM := Lib.hid (Ln.tm_range k0)
       go_wp2_with (first | (refine wpList_load_mid rfl 23 _ rfl w.heap.size 11 (by first | rfl | simp) [.int .i64 (l.tm).me, .int .i64 (l.tm).pr, .int .i64 (l.tm).ppm, .int .i64 (l.tm).stt, .int .i64 (l.tm).ev, .int .i64 (l.tm).ct, .int .i64 (l.tm).ba, .int .i64 (l.tm).mo, .int .i64 (l.tm).pen, .int .i64 (l.tm).fe, .string (l.tm).cal, .string (l.tm).cur] _ HTM.out Tryz.underlying23 rfl (by kernel_rfl) ?_) | (refine wpList_load_row rfl 44 _ rfl _ rfl _ _ _ _ kc Tryz.underlying44 rfl (by kernel_rfl) ?_))
       clear HTM
       refine (Kl.skchk_any l.tm c wa ha wc hc _ (HC.out _ cw3) hcu).mono ?_
       rintro e w4 ⟨rfl, hb⟩
       replace k0 := k0.later hb
       replace kc := kc.later hb
       have cw4 := bl2 hb cw3
       clear hb cw3
       by_cases hs : skE l.tm c ≠ 0
       ·have HF := Lib.hid (show alE l a day keep c = skE l.tm c from alE_4 HO.out HA.out HK3.out hs)
        have HN := Lib.hid hs
        have g1' : (skE l.tm c != 0) = true := by simpa using hs
        clear hs
        generalize skE l.tm c = E at HF HN g1' ⊢
        go_wp2_with fail
        go_ret2
        exact alo_no HF.out HN.out cw4
       ·have HSK := Lib.hid hs
        have g1' : (skE l.tm c != 0) = false := by simpa using hs
        clear hs
        generalize skE l.tm c = E at g1' ⊢
        go_wp2_with (refine wpList_load_row rfl 27 _ rfl _ rfl _ _ _ _ (k0) Tryz.underlying27 rfl (by kernel_rfl) ?_)
        clear g1'
        refine (fee_any l da ca dk ck a _ (HST.out _ cw4) (by have := HG.out; unfold gd at this; unfold Wm.I64; omega) (fe_i64 ho)).mono ?_
        rintro e w5 ⟨rfl, hb⟩
        replace k0 := k0.later hb
        replace kc := kc.later hb
        have cw5 := bl2 hb cw4
        clear hb cw4
        have hfe := fe_ok ho (a := a) (by omega) (by have := HG.out; unfold gd at this; omega)
        rw [hfe.1]
        obtain ⟨F, hF⟩ : ∃ F, F = feV l a := ⟨_, rfl⟩
        rw [← hF]
        have hf1 := hfe.2
        rw [← hF] at hf1
        have HP := Lib.hid (show paid l a = a - F by rw [hF]; rfl)
        clear hfe hF
        have hgd := HG.out
        have s1 : IntKind.i64.wrap (a - F) = a - F := by unfold gd at hgd; rw [IntKind.wrap_i64]; omega
        have hww : wrap64 (a - F) = a - F := by unfold gd at hgd; unfold wrap64; omega
        clear hgd
        by_cases hn1 : a - F < 1
        ·have gn : decide (a - F < 1) = true := decide_eq_true hn1
         have HF := Lib.hid (show alE l a day keep c = 18 from alE_5 HO.out HA.out HK3.out HSK.out (.inl (by rw [HP.out]; exact hn1)))
         go_wp2_with fail
         go_ret2
         exact alo_no HF.out (by decide) cw5
        ·have gn : decide (a - F < 1) = false := decide_eq_false hn1
         go_wp2_with (first | (refine wpList_load_row rfl 27 _ rfl _ rfl _ _ _ _ (k0) Tryz.underlying27 rfl (by kernel_rfl) ?_) | (refine load_guarded 27 _ rfl rfl _ rfl _ _ _ _ (k0) Tryz.underlying27 rfl (by kernel_rfl) ?_))
         refine (Ln.out_any l da ca dk ck _ (HD.out _ cw5)).mono ?_
         rintro e w6 ⟨rfl, hb⟩
         replace k0 := k0.later hb
         have cw6 := bl2 hb cw5
         clear hb cw5
         have hv := (view ho day).P2
         have hp1 := ho.pp
         have hp2 := ho.pp'
         rw [show wrap64 (P l.ds - l.pp) = P l.ds - l.pp by unfold wrap64; omega]
         obtain ⟨O, hO⟩ : ∃ O, O = P l.ds - l.pp := ⟨_, rfl⟩
         rw [← hO]
         have HOO := Lib.hid hO
         clear hO hv hp1 hp2
         by_cases hn2 : O ≤ a - F
         ·have gq : decide (O ≤ a - F) = true := decide_eq_true hn2
          have HF := Lib.hid (show alE l a day keep c = 18 from alE_5 HO.out HA.out HK3.out HSK.out (.inr (by rw [HP.out, ← HOO.out]; exact hn2)))
          go_wp2_with fail
          go_ret2
          exact alo_no HF.out (by decide) cw6
         ·have gq : decide (O ≤ a - F) = false := decide_eq_false hn2
          have HF := Lib.hid (show alE l a day keep c = 0 from alE_0 HO.out HA.out HK3.out HSK.out (by rw [HP.out, ← HOO.out]; exact fun e => e.elim (fun x => by omega) (fun x => by omega)))
          go_wp2_with fail
          go_ret2
          exact alo_ok HF.out HP.out cw6
      ·have hk2 : keep = 2 := hk.resolve_left hk1
       have q1 : (keep != 1) = true := by rw [hk2]; rfl
       have q0 : (keep != 2) = false := by rw [hk2]; rfl
       have q2 : (keep == 2) = true := by rw [hk2]; rfl
       by_cases hm1 : l.tm.me = 1
       ·have qm : (l.tm.me != 1) = false := by rw [hm1]; rfl
        have HK3 := Lib.hid (show ¬ (keep = 2 ∧ l.tm.me ≠ 1) from fun e => e.2 hm1)
        clear hm1 hk2 hk
        have l11 := k0.c11
        have HTM := Lib.hid (Ln.tm_range k0)
        go_wp2_with (first | (refine wpList_load_mid rfl 23 _ rfl w.heap.size 11 (by first | rfl | simp) [.int .i64 (l.tm).me, .int .i64 (l.tm).pr, .int .i64 (l.tm).ppm, .int .i64 (l.tm).stt, .int .i64 (l.tm).ev, .int .i64 (l.tm).ct, .int .i64 (l.tm).ba, .int .i64 (l.tm).mo, .int .i64 (l.tm).pen, .int .i64 (l.tm).fe, .string (l.tm).cal, .string (l.tm).cur] _ HTM.out Tryz.underlying23 rfl (by kernel_rfl) ?_) | (refine wpList_load_row rfl 44 _ rfl _ rfl _ _ _ _ kc Tryz.underlying44 rfl (by kernel_rfl) ?_))
        clear HTM
        refine (Kl.skchk_any l.tm c wa ha wc hc _ (HC.out _ cw3) hcu).mono ?_
        rintro e w4 ⟨rfl, hb⟩
        replace k0 := k0.later hb
        replace kc := kc.later hb
        have cw4 := bl2 hb cw3
        clear hb cw3
        by_cases hs : skE l.tm c ≠ 0
        ·have HF := Lib.hid (show alE l a day keep c = skE l.tm c from alE_4 HO.out HA.out HK3.out hs)
         have HN := Lib.hid hs
         have g1' : (skE l.tm c != 0) = true := by simpa using hs
         clear hs
         generalize skE l.tm c = E at HF HN g1' ⊢
         go_wp2_with fail
         go_ret2
         exact alo_no HF.out HN.out cw4
        ·have HSK := Lib.hid hs
         have g1' : (skE l.tm c != 0) = false := by simpa using hs
         clear hs
         generalize skE l.tm c = E at g1' ⊢
         go_wp2_with (refine wpList_load_row rfl 27 _ rfl _ rfl _ _ _ _ (k0) Tryz.underlying27 rfl (by kernel_rfl) ?_)
         clear g1'
         refine (fee_any l da ca dk ck a _ (HST.out _ cw4) (by have := HG.out; unfold gd at this; unfold Wm.I64; omega) (fe_i64 ho)).mono ?_
         rintro e w5 ⟨rfl, hb⟩
         replace k0 := k0.later hb
         replace kc := kc.later hb
         have cw5 := bl2 hb cw4
         clear hb cw4
         have hfe := fe_ok ho (a := a) (by omega) (by have := HG.out; unfold gd at this; omega)
         rw [hfe.1]
         obtain ⟨F, hF⟩ : ∃ F, F = feV l a := ⟨_, rfl⟩
         rw [← hF]
         have hf1 := hfe.2
         rw [← hF] at hf1
         have HP := Lib.hid (show paid l a = a - F by rw [hF]; rfl)
         clear hfe hF
         have hgd := HG.out
         have s1 : IntKind.i64.wrap (a - F) = a - F := by unfold gd at hgd; rw [IntKind.wrap_i64]; omega
         have hww : wrap64 (a - F) = a - F := by unfold gd at hgd; unfold wrap64; omega
         clear hgd
         by_cases hn1 : a - F < 1
         ·have gn : decide (a - F < 1) = true := decide_eq_true hn1
          have HF := Lib.hid (show alE l a day keep c = 18 from alE_5 HO.out HA.out HK3.out HSK.out (.inl (by rw [HP.out]; exact hn1)))
          go_wp2_with fail
          go_ret2
          exact alo_no HF.out (by decide) cw5
         ·have gn : decide (a - F < 1) = false := decide_eq_false hn1
          go_wp2_with (first | (refine wpList_load_row rfl 27 _ rfl _ rfl _ _ _ _ (k0) Tryz.underlying27 rfl (by kernel_rfl) ?_) | (refine load_guarded 27 _ rfl rfl _ rfl _ _ _ _ (k0) Tryz.underlying27 rfl (by kernel_rfl) ?_))
          refine (Ln.out_any l da ca dk ck _ (HD.out _ cw5)).mono ?_
          rintro e w6 ⟨rfl, hb⟩
          replace k0 := k0.later hb
          have cw6 := bl2 hb cw5
          clear hb cw5
          have hv := (view ho day).P2
          have hp1 := ho.pp
          have hp2 := ho.pp'
          rw [show wrap64 (P l.ds - l.pp) = P l.ds - l.pp by unfold wrap64; omega]
          obtain ⟨O, hO⟩ : ∃ O, O = P l.ds - l.pp := ⟨_, rfl⟩
          rw [← hO]
          have HOO := Lib.hid hO
          clear hO hv hp1 hp2
          by_cases hn2 : O ≤ a - F
          ·have gq : decide (O ≤ a - F) = true := decide_eq_true hn2
           have HF := Lib.hid (show alE l a day keep c = 18 from alE_5 HO.out HA.out HK3.out HSK.out (.inr (by rw [HP.out, ← HOO.out]; exact hn2)))
           go_wp2_with fail
           go_ret2
           exact alo_no HF.out (by decide) cw6
          ·have gq : decide (O ≤ a - F) = false := decide_eq_false hn2
           have HF := Lib.hid (show alE l a day keep c = 0 from alE_0 HO.out HA.out HK3.out HSK.out (by rw [HP.out, ← HOO.out]; exact fun e => e.elim (fun x => by omega) (fun x => by omega)))
           go_wp2_with fail
           go_ret2
           exact alo_ok HF.out HP.out cw6
       ·have qm : (l.tm.me != 1) = true := by simpa using hm1
        have l11 := k0.c11
        have HF := Lib.hid (show alE l a day keep c = 3 from alE_3 HO.out HA.out ⟨hk2, hm1⟩)
        go_wp2_with fail
        go_ret2
        exact alo_no HF.out (by decide) cw3
     ·have hk1 : keep ≠ 1 := fun e => hk (.inl e)
      have hk2 : keep ≠ 2 := fun e => hk (.inr e)
      have q1 : (keep != 1) = true := by simpa using hk1
      have q0 : (keep != 2) = true := by simpa using hk2
      have HF0 := hk
      clear hk1 hk2
      have HF := Lib.hid (show alE l a day keep c = 1 from alE_2 HO.out (.inr (.inr hk)))
      go_wp2_with fail
      go_ret2
      exact alo_no HF.out (by decide) cw3
    ·rw [decide_eq_false hg]
     have HF := Lib.hid (show alE l a day keep c = 1 from alE_2 HO.out (.inr (.inl hg)))
     go_wp2_with fail
     go_ret2
     exact alo_no HF.out (by decide) cw3
  ·have gm : (0 : Int) < (m : Int) := by omega
   have HF := Lib.hid (show alE l a day keep c = 17 from alE_1 (.inr (fun e => hm0 (by rw [HM.out, e]; rfl))))
   go_wp2_with fail
   go_ret2
   exact alo_no HF.out (by decide) cw2
 ·have g1 : (l.st != 1) = true := by simpa using h1
  have HF := Lib.hid (show alE l a day keep c = 17 from alE_1 (.inl h1))
  go_wp2_with fail
  go_ret2
  exact alo_no HF.out (by decide) cw1
end Go.Proofs.YtaanicginfjgdaaGreatDoor.Pp

namespace Go.Proofs.YtaanicginfjgdaaGreatDoor.Pp
open Go Go.RowKit
open Go.Proofs.YtaanicginfjgdaaGreatDoor
open Go.Proofs.YtaanicginfjgdaaGreatDoor.Ln (Tm Ch Du Lo Pa sum prs its P I due chk Ok ok_iff wrap_in wrap_add powed zLo LoIn DuesIn RowIn OwnR denc denc_len cenc cenc_len penc penc_len tenc flat flat_len Dok dues_of_row bl2 SB SB.mono SQ SQ.mono take_at one_at two_at call_at call_wp call_one call_pv value_wp yields_load_row Blk_setRow_same Blk_setRow_ne Below_setRow dues_setRow row_row one25 load_guarded results2_cell dues_lt rowc_lt rangeAt_later tk ts z0 z1 z3 z4 z5)
open Go.Proofs.YtaanicginfjgdaaGreatDoor.Ln (denc_one)
open Go.Proofs.YtaanicginfjgdaaGreatDoor.Sr (GV DV app_due grown_blk grown_below)
open Go.Proofs.YtaanicginfjgdaaGreatDoor.An (intr intr_bd)
open Go.Proofs.YtaanicginfjgdaaGreatDoor.Rd (gd pcV pcE Stp)
open Go.Proofs.YtaanicginfjgdaaGreatDoor.Kl (Cl CalIn skE)
set_option linter.unusedSimpArgs false
set_option linter.unusedVariables false
set_option maxRecDepth 100000

theorem bl3 {w W W' : World} {B : Nat} (hB : B ≤ w.heap.size) (hb : Below W.heap.size W W') (h : Below B w W) : Below B w W' := Below.trans h (hb.mono (by have := Below.size h; omega))
theorem bld_step {t : Tm} {rest : Int} {n : Nat} {keep pay left it pr : Int} {i : Nat} {ds acc tot : List Du} {d : Du} (hi : i < ds.length) (hd : d = ds[i]!) (hit : it = itK t left) (hpr : pr = prK t rest n keep pay i left it) (h : acc ++ bldK t rest n keep pay (ds.drop i) i left ((acc.length : Int) + 1) = tot) :
  (¬ (keep = 2 ∧ left - pr = 0) → (acc ++ [(⟨(acc.length : Int) + 1, d.day, pr, it⟩ : Du)]) ++ bldK t rest n keep pay (ds.drop (i + 1)) (i + 1) (left - pr) (((acc ++ [(⟨(acc.length : Int) + 1, d.day, pr, it⟩ : Du)]).length : Int) + 1) = tot) ∧ ((keep = 2 ∧ left - pr = 0) → acc ++ [(⟨(acc.length : Int) + 1, d.day, pr, it⟩ : Du)] = tot) := by
 rw [List.drop_eq_getElem_cons hi, show ds[i] = d by rw [hd, getElem!_pos ds i hi]] at h
 unfold bldK at h
 rw [← hit, ← hpr] at h
 refine ⟨fun hn => ?_, fun hy => ?_⟩
 ·rw [if_neg hn] at h
  rw [← h, List.append_assoc, List.length_append]
  rfl
 ·rw [if_pos hy] at h
  exact h
def BR (w : World) (B : Nat) (t : Tm) (rest : Int) (n : Nat) (keep pay : Int) (ds tot : List Du) (g : Nat) (s1 s8 s18 : Value) (W : World) : Prop := ∃ (i : Nat) (left : Int) (acc : List Du) (av : Option Addr) (cv : Nat), i + g = ds.length ∧ s1 = .slice av acc.length cv ∧ s8 = .int .i64 left ∧ s18 = .int .i64 i ∧ DV W B s1 acc ∧ s1.ownBlock ≠ some w.heap.size ∧ Bk.Blk W w.heap.size #[.int .i64 (t).me, .int .i64 (t).pr, .int .i64 (t).ppm, .int .i64 (t).stt, .int .i64 (t).ev, .int .i64 (t).ct, .int .i64 (t).ba, .int .i64 (t).mo, .int .i64 (t).pen, .int .i64 (t).fe, .string (t).cal, .string (t).cur, .int .i64 rest, .int .i64 n, .int .i64 pay, .int .i64 keep] 80 ∧ Inv t rest n keep pay i left ∧ acc ++ bldK t rest n keep pay (ds.drop i) i left ((acc.length : Int) + 1) = tot ∧ acc.length ≤ 1000 + i ∧ Below B w W
set_option maxHeartbeats 16000000 in
theorem build_any (t : Tm) (rest : Int) (n : Nat) (keep pay : Int) (av0 : Option Addr) (cv0 : Nat) (acc0 : List Du) (a2 : Option Addr) (k2 : Nat) (ds : List Du) (B : Nat) (w : World) (hv0 : DV w B (.slice av0 acc0.length cv0) acc0) (hB : B ≤ w.heap.size) (hds0 : ∀ W, Below B w W → DuesIn W a2 ds) (hS0 : ∀ W, Below B w W → Stp W) (hI0 : Inv t rest n keep pay 0 rest) (hn : ds.length = n) (hn2 : n ≤ 1000) (hp : 0 ≤ pay ∧ pay ≤ 3000000000000) (htm : (0 ≤ t.ppm ∧ t.ppm ≤ 1000000) ∧ (1 ≤ t.ev ∧ t.ev ≤ 12) ∧ (1 ≤ t.mo ∧ t.mo ≤ 6)) (hac : acc0.length ≤ 1000) :
  Calls Tryz.prog 44 #[.agg #[.int .i64 (t).me, .int .i64 (t).pr, .int .i64 (t).ppm, .int .i64 (t).stt, .int .i64 (t).ev, .int .i64 (t).ct, .int .i64 (t).ba, .int .i64 (t).mo, .int .i64 (t).pen, .int .i64 (t).fe, .string (t).cal, .string (t).cur, .int .i64 rest, .int .i64 n, .int .i64 pay, .int .i64 keep], .slice av0 acc0.length cv0, .slice a2 ds.length k2] w fun e w' => ∃ v', e = .returned (.tuple #[v', .int .i64 0]) ∧ DV w' B v' (acc0 ++ bldK t rest n keep pay ds 0 rest ((acc0.length : Int) + 1)) ∧ Below B w w' := by
 have cw : Below B w (w.alloc (.cells #[.int .i64 (t).me, .int .i64 (t).pr, .int .i64 (t).ppm, .int .i64 (t).stt, .int .i64 (t).ev, .int .i64 (t).ct, .int .i64 (t).ba, .int .i64 (t).mo, .int .i64 (t).pen, .int .i64 (t).fe, .string (t).cal, .string (t).cur, .int .i64 rest, .int .i64 n, .int .i64 pay, .int .i64 keep] 80)) := (Below.refl _ _).alloc hB _
 have kp0 : Bk.Blk (w.alloc (.cells #[.int .i64 (t).me, .int .i64 (t).pr, .int .i64 (t).ppm, .int .i64 (t).stt, .int .i64 (t).ev, .int .i64 (t).ct, .int .i64 (t).ba, .int .i64 (t).mo, .int .i64 (t).pen, .int .i64 (t).fe, .string (t).cal, .string (t).cur, .int .i64 rest, .int .i64 n, .int .i64 pay, .int .i64 keep] 80)) w.heap.size _ 80 := Bk.Blk.nw10
 have hv1 := hv0.later (show Below w.heap.size w (w.alloc (.cells #[.int .i64 (t).me, .int .i64 (t).pr, .int .i64 (t).ppm, .int .i64 (t).stt, .int .i64 (t).ev, .int .i64 (t).ct, .int .i64 (t).ba, .int .i64 (t).mo, .int .i64 (t).pen, .int .i64 (t).fe, .string (t).cal, .string (t).cur, .int .i64 rest, .int .i64 n, .int .i64 pay, .int .i64 keep] 80)) from (Below.refl _ _).alloc (Nat.le_refl _) _)
 have hown0 : (Value.slice av0 acc0.length cv0).ownBlock ≠ some w.heap.size := fun e => by have := (hv0.lt _ e).1; omega
 have HDS := Lib.hid hds0
 have HSS := Lib.hid hS0
 have HN := Lib.hid hn
 obtain ⟨tot, htotE⟩ : ∃ x, x = acc0 ++ bldK t rest n keep pay ds 0 rest ((acc0.length : Int) + 1) := ⟨_, rfl⟩
 have HTT := Lib.hid htotE
 have htot0 : acc0 ++ bldK t rest n keep pay (ds.drop 0) 0 rest ((acc0.length : Int) + 1) = tot := htotE.symm
 clear hds0 hS0 hv0 htotE hn
 have l12 := kp0.c12
 go_enter Tryz.func44, Tryz.ntmps44
 go_upto_region 1 with fail
 generalize (w.alloc (.cells _ 80)) = w1 at *
 go_upto_region 3 with fail
 go_loopg [1, 8, 18] ds.length (BR w B t rest n keep pay ds tot)
 case atStart => exact ⟨0, rest, acc0, av0, cv0, by omega, rfl, rfl, rfl, hv1, hown0, kp0, hI0, htot0, by omega, cw⟩
 case round =>
  clear hv1 hown0 kp0 hI0 htot0 cw l12
  obtain ⟨i, left, acc, av, cv, hg, rfl, rfl, rfl, hv, hown, kp, hI, htot, hal, cwr⟩ := hrel
  have hds := HDS.out
  have hS := HSS.out
  by_cases hlt : i < ds.length
  ·have hDs := hds _ cwr
   obtain ⟨b, off, rfl, hc⟩ := hDs.row.mid denc_len (by omega)
   have hm := hc i hlt
   clear hc hDs
   obtain ⟨d, hd⟩ : ∃ d, d = ds[i]! := ⟨_, rfl⟩
   rw [← hd] at hm
   have hd0 := hd
   have HD := Lib.hid hd
   clear hd
   have hin := hI.step (by have := HN.out; omega)
   have hit := hI.it
   have hl0 := hI.l0
   have hl1 := hI.l1
   have hr1 := hI.r1
   obtain ⟨it, hitE⟩ : ∃ x, x = itK t left := ⟨_, rfl⟩
   rw [← hitE] at hin hit
   obtain ⟨pr, hprE⟩ : ∃ x, x = prK t rest n keep pay i left it := ⟨_, rfl⟩
   rw [← hprE] at hin
   have HIT := Lib.hid hitE
   have HPR := Lib.hid hprE
   have hpb := hin.1
   have HST2 := Lib.hid hin.2
   have HTOT := Lib.hid (bld_step (t := t) (rest := rest) (n := n) (keep := keep) (pay := pay) hlt hd0 hitE hprE htot)
   clear hitE hprE hin hI htot hd0
   have hbx : Below wr.heap.size wr ((wr.alloc (.cells #[.int .i64 0, .int .i64 0, .int .i64 0, .int .i64 0] 53)).setRow wr.heap.size (denc d).toArray) := Below_setRow ((Below.refl _ _).alloc (Nat.le_refl _) _) (Nat.le_refl _) _
   have kd : Bk.Blk ((wr.alloc (.cells #[.int .i64 0, .int .i64 0, .int .i64 0, .int .i64 0] 53)).setRow wr.heap.size (denc d).toArray) wr.heap.size _ 53 := Blk_setRow_same Bk.Blk.nw10
   go_upto_region 5 with (first | (refine wpList_load_mid rfl 53 _ rfl b (off + i * 4) (by first | rfl | simp) (denc d) _ hm Tryz.underlying53 rfl (by kernel_rfl) ?_) | (refine wpList_store_row rfl 53 _ _ rfl _ _ rfl rfl _ _ Bk.Blk.nw10 (by kernel_rfl) rfl (by simp [Value.oneCell', denc]) ?_))
   replace kp := kp.later hbx
   replace hv := hv.later hbx
   have c4 := bl3 hB hbx cwr
   clear hm hbx cwr
   generalize ((wr.alloc (.cells _ 53)).setRow wr.heap.size (denc d).toArray) = u4 at *
   generalize wr.heap.size = gd_ at *
   have l2 := kp.c2
   have l4 := kp.c4
   have l7 := kp.c7
   go_wp2_with fail
   clear l2 l4 l7
   refine (An.inter_yes left t.ppm t.ev t.mo _ (hS _ c4) ⟨⟨hl0, by omega⟩, htm⟩).mono ?_
   rintro e u5 ⟨rfl, hb⟩
   have c5 := bl3 hB hb c4
   replace kp := kp.later hb
   replace kd := kd.later hb
   replace hv := hv.later hb
   rw [show intr (t.ppm * t.ev) t.mo left = it from HIT.out.symm]
   clear hb c4
   by_cases hl : i + 1 < n
   ·have hli : (i : Int) + 1 < (ds.length : Int) := by have := HN.out; omega
    go_wp2_with (refine wpList_load_row rfl 80 _ rfl _ rfl _ _ _ _ kp Tryz.underlying80 rfl (by kernel_rfl) ?_)
    clear hli
    refine (part_any t rest n keep pay i left it _ hl hn2 ⟨by omega, hr1⟩ hp hit ⟨hl0, by omega⟩).mono ?_
    rintro e u6 ⟨rfl, hb⟩
    rw [← HPR.out]
    have cx := bl3 hB hb c5
    replace kp := kp.later hb
    replace kd := kd.later hb
    replace hv := hv.later hb
    clear hb c5
    have hzB : B ≤ u6.heap.size := Nat.le_trans hB (Below.size cx)
    have hal2 : acc.length ≤ 2001 := by have := HN.out; omega
    have m1 := kd.c1
    have hzx := Below.size cx
    go_wp2_with (at_builtin; refine app_due ⟨(acc.length : Int) + 1, d.day, pr, it⟩ rfl _ _ rfl rfl hv rfl (by omega) hzB ?_)
    intro v' uy hv2 hgr hat
    have cy : Below B w uy := (cx.alloc hzB _).grown hgr (by simp; omega) (fun j hj => (hv.lt j hj).2)
    have kp2 := grown_blk kp hgr hown
    have hown2 : v'.ownBlock ≠ some w.heap.size := by
     rcases hat with h | h
     ·rw [h]; exact hown
     ·rw [h]; intro e; have := Option.some.inj e; omega
    obtain ⟨av2, cv2, rfl⟩ := hv2.len
    clear hgr hat hv hown cx kp m1 kd hzx hzB
    have hs2 : IntKind.i64.wrap (left - pr) = left - pr := by rw [IntKind.wrap_i64]; omega
    have hla : (acc ++ [(⟨(acc.length : Int) + 1, d.day, pr, it⟩ : Du)]).length = acc.length + 1 := List.length_append ..
    obtain ⟨acc2, hacc2⟩ : ∃ a, a = acc ++ [(⟨(acc.length : Int) + 1, d.day, pr, it⟩ : Du)] := ⟨_, rfl⟩
    rw [← hacc2] at hv2 hown2 hla ⊢
    have HAC := Lib.hid hacc2
    have HLA := Lib.hid hla
    clear hacc2 hla
    by_cases hk : keep = 2
    ·by_cases hz : left - pr = 0
     ·have gb1 : (keep == 2) = true := by rw [hk]; rfl
      have HT := Lib.hid (HTOT.out.2 ⟨hk, hz⟩)
      clear hk
      have gz : (left - pr == 0) = true := by rw [hz]; rfl
      clear hz
      have l15 := kp2.c15
      go_wp2_with fail
      go_ret2
      exact ⟨_, rfl, by rw [← HTT.out, ← HT.out, ← HAC.out]; exact hv2, cy⟩
     ·have HNB := Lib.hid (show ¬ (keep = 2 ∧ left - pr = 0) from fun e => hz e.2)
      have gb1 : (keep == 2) = true := by rw [hk]; rfl
      have gz : (left - pr == 0) = false := by simpa using hz
      clear hk hz
      have l15 := kp2.c15
      go_wp2_with fail
      have hib : i ≤ 1000 := by have := HN.out; omega
      go_roundg (gk - 1)
      case measure => omega
      case rel => exact ⟨i + 1, left - pr, acc2, av2, cv2, by omega, rfl, by go_num, by first | (exact congrArg (Value.int .i64) (by unfold wrap64; omega)) | go_num, hv2, hown2, kp2, HST2.out, by rw [HAC.out]; exact HTOT.out.1 HNB.out, by rw [HLA.out]; omega, cy⟩
    ·have HNB := Lib.hid (show ¬ (keep = 2 ∧ left - pr = 0) from fun e => hk e.1)
     have gb1 : (keep == 2) = false := by simpa using hk
     clear hk
     have l15 := kp2.c15
     go_wp2_with fail
     have hib : i ≤ 1000 := by have := HN.out; omega
     go_roundg (gk - 1)
     case measure => omega
     case rel => exact ⟨i + 1, left - pr, acc2, av2, cv2, by omega, rfl, by go_num, by first | (exact congrArg (Value.int .i64) (by unfold wrap64; omega)) | go_num, hv2, hown2, kp2, HST2.out, by rw [HAC.out]; exact HTOT.out.1 HNB.out, by rw [HLA.out]; omega, cy⟩
   ·have hli : decide (wrap64 ((i : Int) + 1) < (ds.length : Int)) = false := decide_eq_false (by have := HN.out; unfold wrap64; omega)
    go_upto_region 11 with fail
    clear hli
    have hlp : pr = left := by rw [HPR.out]; exact Inv.last hl
    subst hlp
    have cx := c5
    clear c5
    have hzB : B ≤ u5.heap.size := Nat.le_trans hB (Below.size cx)
    have hal2 : acc.length ≤ 2001 := by have := HN.out; omega
    have m1 := kd.c1
    have hzx := Below.size cx
    go_wp2_with (at_builtin; refine app_due ⟨(acc.length : Int) + 1, d.day, pr, it⟩ rfl _ _ rfl rfl hv rfl (by omega) hzB ?_)
    intro v' uy hv2 hgr hat
    have cy : Below B w uy := (cx.alloc hzB _).grown hgr (by simp; omega) (fun j hj => (hv.lt j hj).2)
    have kp2 := grown_blk kp hgr hown
    have hown2 : v'.ownBlock ≠ some w.heap.size := by
     rcases hat with h | h
     ·rw [h]; exact hown
     ·rw [h]; intro e; have := Option.some.inj e; omega
    obtain ⟨av2, cv2, rfl⟩ := hv2.len
    clear hgr hat hv hown cx kp m1 kd hzx hzB
    have hs2 : IntKind.i64.wrap (pr - pr) = pr - pr := by rw [IntKind.wrap_i64]; omega
    have hla : (acc ++ [(⟨(acc.length : Int) + 1, d.day, pr, it⟩ : Du)]).length = acc.length + 1 := List.length_append ..
    obtain ⟨acc2, hacc2⟩ : ∃ a, a = acc ++ [(⟨(acc.length : Int) + 1, d.day, pr, it⟩ : Du)] := ⟨_, rfl⟩
    rw [← hacc2] at hv2 hown2 hla ⊢
    have HAC := Lib.hid hacc2
    have HLA := Lib.hid hla
    clear hacc2 hla
    by_cases hk : keep = 2
    ·by_cases hz : pr - pr = 0
     ·have gb1 : (keep == 2) = true := by rw [hk]; rfl
      have HT := Lib.hid (HTOT.out.2 ⟨hk, hz⟩)
      clear hk
      have gz : (pr - pr == 0) = true := by rw [hz]; rfl
      clear hz
      have l15 := kp2.c15
      go_wp2_with fail
      go_ret2
      exact ⟨_, rfl, by rw [← HTT.out, ← HT.out, ← HAC.out]; exact hv2, cy⟩
     ·have hz0 : pr - pr = 0 := by omega
      exact absurd hz0 hz
    ·have HNB := Lib.hid (show ¬ (keep = 2 ∧ pr - pr = 0) from fun e => hk e.1)
     have gb1 : (keep == 2) = false := by simpa using hk
     clear hk
     have l15 := kp2.c15
     go_wp2_with fail
     have hib : i ≤ 1000 := by have := HN.out; omega
     go_roundg (gk - 1)
     case measure => omega
     case rel => exact ⟨i + 1, pr - pr, acc2, av2, cv2, by omega, rfl, by go_num, by first | (exact congrArg (Value.int .i64) (by unfold wrap64; omega)) | go_num, hv2, hown2, kp2, HST2.out, by rw [HAC.out]; exact HTOT.out.1 HNB.out, by rw [HLA.out]; omega, cy⟩
  ·have hTT : acc = tot := by rw [← htot, List.drop_eq_nil_of_le (by omega)]; exact (List.append_nil _).symm
   have hie : ¬ (i : Int) < (ds.length : Int) := by omega
   have HAT := Lib.hid hTT
   clear hTT htot
   go_wp2_with fail
   go_ret2
   exact ⟨_, rfl, by rw [← HTT.out, ← HAT.out]; exact hv, cwr⟩
end Go.Proofs.YtaanicginfjgdaaGreatDoor.Pp
