/-
 The reference's schedule for the rest, its payment, and what it examines.
 The reference's whole, payment, examine.
-/
import Derived.Test.YtaanicginfjgdaaGreatDoorPp9
import Derived.Test.YtaanicginfjgdaaGreatDoorPr1
import Derived.Test.YtaanicginfjgdaaGreatDoorSk1
namespace Go.Proofs.YtaanicginfjgdaaGreatDoor.Pp
open Go Go.RowKit
open Go.Proofs.YtaanicginfjgdaaGreatDoor
open Go.Proofs.YtaanicginfjgdaaGreatDoor.Ln (Tm Ch Du Lo Pa sum prs its P I due chk Ok ok_iff wrap_in wrap_add powed zLo LoIn DuesIn RowIn OwnR denc denc_len cenc cenc_len penc penc_len tenc flat flat_len Dok dues_of_row bl2 SB SB.mono SQ SQ.mono take_at one_at two_at call_at call_wp call_one call_pv value_wp yields_load_row Blk_setRow_same Blk_setRow_ne Below_setRow dues_setRow row_row one25 load_guarded results2_cell dues_lt rowc_lt rangeAt_later tk ts z0 z1 z3 z4 z5)
open Go.Proofs.YtaanicginfjgdaaGreatDoor.Sr (GV DV gv_made parts_wp dues_wp blk_low gv_low)
open Go.Proofs.YtaanicginfjgdaaGreatDoor.Ln (row_put)
open Go.Proofs.YtaanicginfjgdaaGreatDoor.An (intr intr_bd intr_mono Rate pOk POut)
open Go.Proofs.YtaanicginfjgdaaGreatDoor.Rd (gd pcV pcE Stp)
open Go.Proofs.YtaanicginfjgdaaGreatDoor.Kl (Cl CalIn skE)
set_option linter.unusedSimpArgs false
set_option linter.unusedVariables false
set_option maxRecDepth 100000

def rpK (t : Tm) (rest : Int) (n : Nat) (pay : Int) (i : Nat) (left it : Int) : Int :=
 if i + 1 < n then (if t.me = 2 then (if (i : Int) < rest % n then rest / n + 1 else rest / n) else if t.me = 3 then 0 else min left (max 0 (pay - it))) else left
theorem rp_eq {t : Tm} {rest : Int} {n : Nat} {keep pay left : Int} {i : Nat} (h : Inv t rest n keep pay i left) (hm : keep = 2 → t.me = 1) : rpK t rest n pay i left (itK t left) = prK t rest n keep pay i left (itK t left) := by
 unfold rpK prK
 split
 ·by_cases hk : keep = 2
  ·rw [if_pos hk, if_neg (by rw [hm hk]; decide), if_neg (by rw [hm hk]; decide)]
   omega
  ·rw [if_neg hk]
   split
   ·rfl
   ·rename_i h2
    split
    ·rfl
    ·rename_i h3
     have h4 := h.pay hk h2 h3
     have h5 := intr_mono (m := t.mo) h.rt h.l0 h.l1
     have h6 : itK t left = intr (t.ppm * t.ev) t.mo left := rfl
     omega
 ·rfl
def bltK (t : Tm) (rest : Int) (n : Nat) (keep pay : Int) : List Du → Nat → Int → Int → List Du
 | [], _, _, _ => []
 | d :: ds, i, left, no => if 0 < left then ⟨no, d.day, prK t rest n keep pay i left (itK t left), itK t left⟩ :: bltK t rest n keep pay ds (i + 1) (left - prK t rest n keep pay i left (itK t left)) (no + 1) else []
def zerK : List Du → Int → List Du
 | [], _ => []
 | d :: ds, no => ⟨no, d.day, 0, 0⟩ :: zerK ds (no + 1)
theorem blt_len {t : Tm} {rest : Int} {n : Nat} {keep pay : Int} : ∀ (ds : List Du) (i : Nat) (left no : Int), (bltK t rest n keep pay ds i left no).length ≤ ds.length
 | [], _, _, _ => Nat.le_refl _
 | d :: ds, i, left, no => by
  unfold bltK
  split
  ·exact Nat.succ_le_succ (blt_len ds _ _ _)
  ·exact Nat.zero_le _
theorem bld_blt {t : Tm} {rest : Int} {n : Nat} {pay : Int} : ∀ (ds : List Du) (i : Nat) (left no : Int), i + ds.length = n → 0 < left → Inv t rest n 2 pay i left → bldK t rest n 2 pay ds i left no = bltK t rest n 2 pay ds i left no
 | [], _, _, _, _, _, _ => rfl
 | d :: ds, i, left, no, hn, hl, hI => by
  have hs := hI.step (by rw [List.length_cons] at hn; omega)
  unfold bldK bltK
  rw [if_pos hl]
  refine congrArg _ ?_
  generalize prK t rest n 2 pay i left (itK t left) = pr at *
  by_cases h0 : left - pr = 0
  ·rw [if_pos ⟨rfl, h0⟩, h0]
   cases ds with
   | nil => rfl
   | cons e es => unfold bltK; rw [if_neg (by decide)]
  ·rw [if_neg (fun e => h0 e.2)]
   exact bld_blt ds (i + 1) _ _ (by rw [List.length_cons] at hn; omega) (by have := hs.2.l0; omega) hs.2
theorem it_zero {t : Tm} (h : Rate (t.ppm * t.ev)) : itK t 0 = 0 := by
 have := intr_bd (m := t.mo) h (show (0 : Int) ≤ 0 by decide) (show (0 : Int) ≤ 1000000000000 by decide)
 show intr (t.ppm * t.ev) t.mo 0 = 0
 unfold intr
 rw [Int.zero_mul]
 simp [Rd.rd]
theorem bld_zer {t : Tm} {rest : Int} {n : Nat} {keep pay : Int} (hk : keep ≠ 2) : ∀ (ds : List Du) (i : Nat) (no : Int), i + ds.length = n → Inv t rest n keep pay i 0 → bldK t rest n keep pay ds i 0 no = zerK ds no
 | [], _, _, _, _ => rfl
 | d :: ds, i, no, hn, hI => by
  have hs := hI.step (by rw [List.length_cons] at hn; omega)
  unfold bldK zerK
  rw [if_neg (fun e => hk e.1)]
  have h0 := it_zero hI.rt
  have hp : prK t rest n keep pay i 0 (itK t 0) = 0 := by omega
  rw [hp, h0]
  rw [hp] at hs
  exact congrArg _ (bld_zer hk ds (i + 1) (no + 1) (by rw [List.length_cons] at hn; omega) hs.2)
theorem bld_whl {t : Tm} {rest : Int} {n : Nat} {keep pay : Int} (hk : keep ≠ 2) : ∀ (ds : List Du) (i : Nat) (left no : Int), i + ds.length = n → Inv t rest n keep pay i left → bldK t rest n keep pay ds i left no = bltK t rest n keep pay ds i left no ++ zerK (ds.drop (bltK t rest n keep pay ds i left no).length) (no + ((bltK t rest n keep pay ds i left no).length : Int))
 | [], _, _, _, _, _ => rfl
 | d :: ds, i, left, no, hn, hI => by
  by_cases hl : 0 < left
  ·have hs := hI.step (by rw [List.length_cons] at hn; omega)
   have ih := bld_whl hk ds (i + 1) (left - prK t rest n keep pay i left (itK t left)) (no + 1) (by rw [List.length_cons] at hn; omega) hs.2
   have e : bltK t rest n keep pay (d :: ds) i left no = ⟨no, d.day, prK t rest n keep pay i left (itK t left), itK t left⟩ :: bltK t rest n keep pay ds (i + 1) (left - prK t rest n keep pay i left (itK t left)) (no + 1) := if_pos hl
   rw [e]
   unfold bldK
   rw [if_neg (fun e => hk e.1), ih, List.cons_append, List.length_cons, List.drop_succ_cons]
   refine congrArg _ (congrArg _ (congrArg _ ?_))
   omega
  ·have h0 : left = 0 := by have := hI.l0; omega
   subst h0
   have e : bltK t rest n keep pay (d :: ds) i 0 no = [] := if_neg (by decide)
   rw [e, bld_zer hk (d :: ds) i no hn hI]
   simp
theorem least_any (a b : Int) (w : World) : Calls Tryz.prog 75 #[.int .i64 a, .int .i64 b] w fun e w' => e = .returned (.int .i64 (min a b)) ∧ Below w.heap.size w w' := by
 by_cases h : a < b
 ·go_enter Tryz.func75, Tryz.ntmps75
  go_wp2_with fail
  go_ret
  exact ⟨by rw [show min a b = a by omega]; rfl, Below.refl _ _⟩
 ·go_enter Tryz.func75, Tryz.ntmps75
  go_wp2_with fail
  go_ret
  exact ⟨by rw [show min a b = b by omega]; rfl, Below.refl _ _⟩
set_option maxHeartbeats 8000000 in
theorem rprin35_any (t : Tm) (rest : Int) (n : Nat) (pay : Int) (i : Nat) (left it : Int) (w : World) (hin : i < n) (hn : n ≤ 1000) (hrs : 0 ≤ rest ∧ rest ≤ 1000000000000) (hp : 0 ≤ pay ∧ pay ≤ 3000000000000) (hit : 0 ≤ it ∧ it ≤ 1000000000000) (hl : 0 ≤ left ∧ left ≤ 1000000000000) : Calls Tryz.prog 77 #[.agg #[.int .i64 (t).me, .int .i64 (t).pr, .int .i64 (t).ppm, .int .i64 (t).stt, .int .i64 (t).ev, .int .i64 (t).ct, .int .i64 (t).ba, .int .i64 (t).mo, .int .i64 (t).pen, .int .i64 (t).fe, .string (t).cal, .string (t).cur], .int .i64 rest, .int .i64 left, .int .i64 it, .int .i64 pay, .int .i64 i, .int .i64 n] w fun e w' => e = .returned (.int .i64 (rpK t rest n pay i left it)) ∧ Below w.heap.size w w' := by
 have cw : Below w.heap.size w (w.alloc (.cells #[.int .i64 (t).me, .int .i64 (t).pr, .int .i64 (t).ppm, .int .i64 (t).stt, .int .i64 (t).ev, .int .i64 (t).ct, .int .i64 (t).ba, .int .i64 (t).mo, .int .i64 (t).pen, .int .i64 (t).fe, .string (t).cal, .string (t).cur] 23)) := (Below.refl _ _).alloc (Nat.le_refl _) _
 have k0 : Bk.Blk (w.alloc (.cells #[.int .i64 (t).me, .int .i64 (t).pr, .int .i64 (t).ppm, .int .i64 (t).stt, .int .i64 (t).ev, .int .i64 (t).ct, .int .i64 (t).ba, .int .i64 (t).mo, .int .i64 (t).pen, .int .i64 (t).fe, .string (t).cal, .string (t).cur] 23)) w.heap.size _ 23 := Bk.Blk.nw10
 have l0 := k0.c0
 have sn : IntKind.i64.wrap ((n : Int) - 1) = (n : Int) - 1 := by rw [IntKind.wrap_i64]; omega
 go_enter Tryz.func77, Tryz.ntmps77
 go_upto_region 1 with fail
 generalize (w.alloc (.cells _ 23)) = w1 at *
 by_cases hi : i + 1 < n
 ·have gi : ((i : Int) == (n : Int) - 1) = false := by simp; omega
  by_cases h2 : t.me = 2
  ·have gm : (t.me == 2) = true := by rw [h2]; rfl
   obtain ⟨q, hq⟩ : ∃ q, q = rest / (n : Int) := ⟨_, rfl⟩
   obtain ⟨r, hr⟩ : ∃ r, r = rest % (n : Int) := ⟨_, rfl⟩
   have q0 : 0 ≤ q ∧ q ≤ 1000000000000 := by
    rw [hq]
    exact ⟨Int.ediv_nonneg (by omega) (by omega), Int.le_trans (Int.ediv_le_self _ (by omega)) (by omega)⟩
   have hqq : rest.tdiv (n : Int) = q := by rw [hq]; exact Int.tdiv_eq_ediv_of_nonneg (by omega)
   have hrr : rest.tmod (n : Int) = r := by rw [hr]; exact Int.tmod_eq_emod_of_nonneg (by omega)
   have hn1 : (1 : Int) ≤ (n : Int) := by omega
   by_cases hc : (i : Int) < r
   ·have HF := Lib.hid (show rpK t rest n pay i left it = q + 1 from by unfold rpK; rw [if_pos hi, if_pos h2, ← hr, if_pos hc, ← hq])
    clear h2 hq hr
    clear hi
    go_wp2_with fail
    go_ret
    exact ⟨by rw [HF.out]; try rfl, cw⟩
   ·have HF := Lib.hid (show rpK t rest n pay i left it = q from by unfold rpK; rw [if_pos hi, if_pos h2, ← hr, if_neg hc, ← hq])
    clear h2 hq hr
    clear hi
    go_wp2_with fail
    go_ret
    exact ⟨by rw [HF.out]; try rfl, cw⟩
  ·by_cases h3 : t.me = 3
   ·have HF := Lib.hid (show rpK t rest n pay i left it = 0 from by unfold rpK; rw [if_pos hi, if_neg h2, if_pos h3])
    have gm : (t.me == 2) = false := by simpa using h2
    have gb : (t.me == 3) = true := by rw [h3]; rfl
    clear h2 h3
    clear hi
    go_wp2_with fail
    go_ret
    exact ⟨by rw [HF.out]; try rfl, cw⟩
   ·have HF := Lib.hid (show rpK t rest n pay i left it = min left (max 0 (pay - it)) from by unfold rpK; rw [if_pos hi, if_neg h2, if_neg h3])
    have gm : (t.me == 2) = false := by simpa using h2
    have gb : (t.me == 3) = false := by simpa using h3
    clear h2 h3 hi
    have s1 : IntKind.i64.wrap (pay - it) = pay - it := by rw [IntKind.wrap_i64]; omega
    go_wp2_with fail
    refine (rpos_any (pay - it) _).mono ?_
    rintro e w2 ⟨rfl, hb⟩
    have cw2 := bl2 hb cw
    clear hb
    go_wp2_with fail
    refine (least_any left (max 0 (pay - it)) _).mono ?_
    rintro e w3 ⟨rfl, hb⟩
    have cw3 := bl2 hb cw2
    clear hb cw2
    go_wp2_with fail
    go_ret
    exact ⟨by rw [HF.out]; try rfl, cw3⟩
 ·have gi : ((i : Int) == (n : Int) - 1) = true := by simp; omega
  have HF := Lib.hid (show rpK t rest n pay i left it = left from by unfold rpK; rw [if_neg hi])
  clear hi
  go_wp2_with fail
  go_ret
  exact ⟨by rw [HF.out]; try rfl, cw⟩
theorem rint35_yes (p ppm ev m : Int) (w : World) (h : An.Ok p ppm ev m) : Calls Tryz.prog 76 #[.int .i64 p, .int .i64 ppm, .int .i64 ev, .int .i64 m] w fun e w' => e = .returned (.tuple #[.int .i64 (intr (ppm * ev) m p), .int .i64 0]) ∧ w = w' := by
 have HA := Lib.hid (fun W => An.rgd_yes p ppm ev m W h)
 have HI := Lib.hid (fun W => An.rint_any2 p ppm ev m W h)
 generalize intr (ppm * ev) m p = v at *
 clear h
 go_enter Tryz.func76, Tryz.ntmps76
 go_wp2_with fail
 refine (HA.out _).mono ?_
 rintro e w' ⟨rfl, rfl⟩
 go_wp2_with fail
 refine (HI.out _).mono ?_
 rintro e w' ⟨rfl, rfl⟩
 go_wp2_with fail
 go_ret2
 exact ⟨rfl, rfl⟩
theorem blt_step {t : Tm} {rest : Int} {n : Nat} {keep pay left it pr : Int} {j i : Nat} {ds acc tot : List Du} {no : Int} (hj : j < ds.length) (hl : 0 < left) (hit : it = itK t left) (hpr : pr = prK t rest n keep pay i left it) (h : acc ++ bltK t rest n keep pay (ds.drop j) i left no = tot) :
  (acc ++ [(⟨no, (ds[j]!).day, pr, it⟩ : Du)]) ++ bltK t rest n keep pay (ds.drop (j + 1)) (i + 1) (left - pr) (no + 1) = tot := by
 rw [List.drop_eq_getElem_cons hj, show ds[j] = ds[j]! by rw [getElem!_pos ds j hj]] at h
 unfold bltK at h
 rw [if_pos hl, ← hit, ← hpr] at h
 rw [← h, List.append_assoc]
 rfl
theorem bltEnd {t : Tm} {rest : Int} {n : Nat} {keep pay left no : Int} {i : Nat} {ds : List Du} (h : ds = [] ∨ left ≤ 0) : bltK t rest n keep pay ds i left no = [] := by
 rcases h with rfl | h
 ·rfl
 ·cases ds with
  | nil => rfl
  | cons d ds => exact if_neg (by omega)
def BuR (w : World) (l : Lo) (da ca : Option Addr) (dk ck : Nat) (k n : Nat) (rest keep pay : Int) (tot : List Du) (gm : Nat) (s9 s11 s12 : Value) (W : World) : Prop := ∃ (i : Nat) (left : Int) (acc : List Du) (g c : Nat), i + gm = n ∧ s9 = .slice (some ⟨g, 0, none⟩) acc.length c ∧ s11 = .int .i64 left ∧ s12 = .int .i64 i ∧ DV W (w.heap.size + 1) (.slice (some ⟨g, 0, none⟩) acc.length c) acc ∧ Bk.Blk W w.heap.size #[.int .i64 (l).id, .int .i64 (l).ac, .int .i64 (l).st, .int .i64 (l).pp, .int .i64 (l).pi, .int .i64 (l).fee, .int .i64 (l).pen, .int .i64 (l).chg, .int .i64 (l).prov, .int .i64 (l).loss, .int .i64 (l).rcv, .int .i64 ((l).tm).me, .int .i64 ((l).tm).pr, .int .i64 ((l).tm).ppm, .int .i64 ((l).tm).stt, .int .i64 ((l).tm).ev, .int .i64 ((l).tm).ct, .int .i64 ((l).tm).ba, .int .i64 ((l).tm).mo, .int .i64 ((l).tm).pen, .int .i64 ((l).tm).fe, .string ((l).tm).cal, .string ((l).tm).cur, .slice da (l).ds.length dk, .slice ca (l).cs.length ck] 27 ∧ Inv l.tm rest n keep pay i left ∧ acc ++ bltK l.tm rest n keep pay (l.ds.drop (k + i)) i left ((k : Int) + 2 + (i : Int)) = tot ∧ acc.length ≤ i ∧ Below w.heap.size w W
set_option maxHeartbeats 16000000 in
theorem rbuilt_any (l : Lo) (da ca : Option Addr) (dk ck : Nat) (k n : Nat) (rest keep pay : Int) (w : World) (h : DuesIn w da l.ds) (hkn : k + n = l.ds.length) (hn2 : l.ds.length ≤ 1000) (hI0 : Inv l.tm rest n keep pay 0 rest) (hm : keep = 2 → l.tm.me = 1) (hp : 0 ≤ pay ∧ pay ≤ 3000000000000) (htm : (0 ≤ l.tm.ppm ∧ l.tm.ppm ≤ 1000000) ∧ (1 ≤ l.tm.ev ∧ l.tm.ev ≤ 12) ∧ (1 ≤ l.tm.mo ∧ l.tm.mo ≤ 6)) :
  Calls Tryz.prog 48 #[(.agg #[.int .i64 (l).id, .int .i64 (l).ac, .int .i64 (l).st, .int .i64 (l).pp, .int .i64 (l).pi, .int .i64 (l).fee, .int .i64 (l).pen, .int .i64 (l).chg, .int .i64 (l).prov, .int .i64 (l).loss, .int .i64 (l).rcv, .int .i64 ((l).tm).me, .int .i64 ((l).tm).pr, .int .i64 ((l).tm).ppm, .int .i64 ((l).tm).stt, .int .i64 ((l).tm).ev, .int .i64 ((l).tm).ct, .int .i64 ((l).tm).ba, .int .i64 ((l).tm).mo, .int .i64 ((l).tm).pen, .int .i64 ((l).tm).fe, .string ((l).tm).cal, .string ((l).tm).cur, .slice da (l).ds.length dk, .slice ca (l).cs.length ck]), .int .i64 k, .int .i64 rest, .int .i64 pay] w fun e w' => ∃ g c, e = .returned (.slice (some ⟨g, 0, none⟩) (bltK l.tm rest n keep pay (l.ds.drop k) 0 rest ((k : Int) + 2)).length c) ∧ DV w' w.heap.size (.slice (some ⟨g, 0, none⟩) (bltK l.tm rest n keep pay (l.ds.drop k) 0 rest ((k : Int) + 2)).length c) (bltK l.tm rest n keep pay (l.ds.drop k) 0 rest ((k : Int) + 2)) ∧ Below w.heap.size w w' := by
 have cw1 : Below w.heap.size w ((w.alloc (.cells #[.int .i64 (l).id, .int .i64 (l).ac, .int .i64 (l).st, .int .i64 (l).pp, .int .i64 (l).pi, .int .i64 (l).fee, .int .i64 (l).pen, .int .i64 (l).chg, .int .i64 (l).prov, .int .i64 (l).loss, .int .i64 (l).rcv, .int .i64 ((l).tm).me, .int .i64 ((l).tm).pr, .int .i64 ((l).tm).ppm, .int .i64 ((l).tm).stt, .int .i64 ((l).tm).ev, .int .i64 ((l).tm).ct, .int .i64 ((l).tm).ba, .int .i64 ((l).tm).mo, .int .i64 ((l).tm).pen, .int .i64 ((l).tm).fe, .string ((l).tm).cal, .string ((l).tm).cur, .slice da (l).ds.length dk, .slice ca (l).cs.length ck] 27)).alloc (.cells #[] 53)) := ((Below.refl _ _).alloc (Nat.le_refl _) _).alloc (by simp) _
 have k00 : Bk.Blk ((w.alloc (.cells #[.int .i64 (l).id, .int .i64 (l).ac, .int .i64 (l).st, .int .i64 (l).pp, .int .i64 (l).pi, .int .i64 (l).fee, .int .i64 (l).pen, .int .i64 (l).chg, .int .i64 (l).prov, .int .i64 (l).loss, .int .i64 (l).rcv, .int .i64 ((l).tm).me, .int .i64 ((l).tm).pr, .int .i64 ((l).tm).ppm, .int .i64 ((l).tm).stt, .int .i64 ((l).tm).ev, .int .i64 ((l).tm).ct, .int .i64 ((l).tm).ba, .int .i64 ((l).tm).mo, .int .i64 ((l).tm).pen, .int .i64 ((l).tm).fe, .string ((l).tm).cal, .string ((l).tm).cur, .slice da (l).ds.length dk, .slice ca (l).cs.length ck] 27)).alloc (.cells #[] 53)) w.heap.size _ 27 := Bk.Blk.nw20
 have hv00 : DV ((w.alloc (.cells #[.int .i64 (l).id, .int .i64 (l).ac, .int .i64 (l).st, .int .i64 (l).pp, .int .i64 (l).pi, .int .i64 (l).fee, .int .i64 (l).pen, .int .i64 (l).chg, .int .i64 (l).prov, .int .i64 (l).loss, .int .i64 (l).rcv, .int .i64 ((l).tm).me, .int .i64 ((l).tm).pr, .int .i64 ((l).tm).ppm, .int .i64 ((l).tm).stt, .int .i64 ((l).tm).ev, .int .i64 ((l).tm).ct, .int .i64 ((l).tm).ba, .int .i64 ((l).tm).mo, .int .i64 ((l).tm).pen, .int .i64 ((l).tm).fe, .string ((l).tm).cal, .string ((l).tm).cur, .slice da (l).ds.length dk, .slice ca (l).cs.length ck] 27)).alloc (.cells #[] 53)) (w.heap.size + 1) (.slice (some ⟨w.heap.size + 1, 0, none⟩) 0 0) [] := by
  have := gv_made (enc := denc) (k := 4) (T := 53) (w.alloc (.cells #[.int .i64 (l).id, .int .i64 (l).ac, .int .i64 (l).st, .int .i64 (l).pp, .int .i64 (l).pi, .int .i64 (l).fee, .int .i64 (l).pen, .int .i64 (l).chg, .int .i64 (l).prov, .int .i64 (l).loss, .int .i64 (l).rcv, .int .i64 ((l).tm).me, .int .i64 ((l).tm).pr, .int .i64 ((l).tm).ppm, .int .i64 ((l).tm).stt, .int .i64 ((l).tm).ev, .int .i64 ((l).tm).ct, .int .i64 ((l).tm).ba, .int .i64 ((l).tm).mo, .int .i64 ((l).tm).pen, .int .i64 ((l).tm).fe, .string ((l).tm).cal, .string ((l).tm).cur, .slice da (l).ds.length dk, .slice ca (l).cs.length ck] 27)) (B := w.heap.size + 1) (by simp)
  simpa using this
 have HD := Lib.hid (fun W (hW : Below w.heap.size w W) => h.later hW)
 have HM := Lib.hid hm
 have HN := Lib.hid hkn
 have HTM := Lib.hid htm
 obtain ⟨tot, htotE⟩ : ∃ x, x = bltK l.tm rest n keep pay (l.ds.drop k) 0 rest ((k : Int) + 2) := ⟨_, rfl⟩
 have HTT := Lib.hid htotE
 have htot0 : ([] : List Du) ++ bltK l.tm rest n keep pay (l.ds.drop (k + 0)) 0 rest ((k : Int) + 2 + ((0 : Nat) : Int)) = tot := by rw [htotE, List.nil_append, Nat.add_zero]; simp
 have hnn : n ≤ 1000 := by omega
 have l23 := k00.c23
 have s0 : IntKind.i64.wrap ((l.ds.length : Int) - (k : Int)) = (n : Int) := by rw [IntKind.wrap_i64]; omega
 clear h hm htotE hkn htm
 go_enter Tryz.func48, Tryz.ntmps48
 go_upto_region 2 with fail
 generalize ((w.alloc (.cells _ 27)).alloc (.cells #[] 53)) = w1 at *
 go_upto_region 5 with fail
 clear l23 s0
 go_loopg [9, 11, 12] n (BuR w l da ca dk ck k n rest keep pay tot)
 case atStart => exact ⟨0, rest, [], w.heap.size + 1, 0, by omega, rfl, rfl, rfl, hv00, k00, hI0, htot0, by simp, cw1⟩
 case round =>
  clear hv00 k00 hI0 htot0 cw1
  obtain ⟨i, left, acc, g, c, hg, rfl, rfl, rfl, hv, k0, hI, htot, hal, cwr⟩ := hrel
  have hn2 := hnn
  by_cases hlt : i < n
  ·by_cases hl2 : 0 < left
   ·have hi2 : i ≤ 1000 := by omega
    have hin := hI.step hlt
    have hit := hI.it
    have hl0 := hI.l0
    have hl1 := hI.l1
    have hr1 := hI.r1
    have hrp := rp_eq hI HM.out
    obtain ⟨it, hitE⟩ : ∃ x, x = itK l.tm left := ⟨_, rfl⟩
    rw [← hitE] at hin hit hrp
    obtain ⟨pr, hprE⟩ : ∃ x, x = prK l.tm rest n keep pay i left it := ⟨_, rfl⟩
    rw [← hprE] at hin hrp
    have HST2 := Lib.hid hin.2
    have hpb := hin.1
    have HRP := Lib.hid hrp
    have HIT := Lib.hid hitE
    have HTOT := Lib.hid (blt_step (t := l.tm) (rest := rest) (n := n) (keep := keep) (pay := pay) (show k + i < l.ds.length by have := HN.out; omega) hl2 hitE hprE htot)
    clear hitE hprE hin hI htot hrp
    have g0 : (i : Int) < (n : Int) := by omega
    have c13 := k0.c13
    have c15 := k0.c15
    have c18 := k0.c18
    go_wp2_with fail
    clear g0 c13 c15 c18
    refine (rint35_yes left l.tm.ppm l.tm.ev l.tm.mo _ ⟨⟨hl0, by omega⟩, HTM.out⟩).mono ?_
    rintro e u5 ⟨rfl, rfl⟩
    rw [show intr (l.tm.ppm * l.tm.ev) l.tm.mo left = it from HIT.out.symm]
    have HTR := Lib.hid (Ln.tm_range k0)
    go_wp2_with (refine wpList_load_mid rfl 23 _ rfl w.heap.size 11 (by first | rfl | simp) [.int .i64 (l.tm).me, .int .i64 (l.tm).pr, .int .i64 (l.tm).ppm, .int .i64 (l.tm).stt, .int .i64 (l.tm).ev, .int .i64 (l.tm).ct, .int .i64 (l.tm).ba, .int .i64 (l.tm).mo, .int .i64 (l.tm).pen, .int .i64 (l.tm).fe, .string (l.tm).cal, .string (l.tm).cur] _ HTR.out Tryz.underlying23 rfl (by kernel_rfl) ?_)
    clear HTR
    refine (rprin35_any l.tm rest n pay i left it _ hlt hn2 ⟨by omega, hr1⟩ hp hit ⟨hl0, by omega⟩).mono ?_
    rintro e u6 ⟨rfl, hb⟩
    rw [HRP.out]
    have c6 := bl2 hb cwr
    replace k0 := k0.later hb
    replace hv := hv.later hb
    have hzB : w.heap.size + 1 ≤ u6.heap.size := k0.lt
    clear hb cwr
    have hkl : k + i < l.ds.length := by have := HN.out; omega
    obtain ⟨b, off, hda, hc⟩ := ((HD.out _ c6).row).mid denc_len (by omega)
    obtain ⟨d, hd⟩ : ∃ d, d = (l.ds[k + i]!).day := ⟨_, rfl⟩
    have q1 : u6.cell? ⟨b, off + (k + i) * 4 + 1, none⟩ = some (.int .i64 d) := by rw [hd]; exact hc (k + i) hkl 1 _ rfl
    rw [← hd] at HTOT
    clear hd hc
    have HDA := Lib.hid hda
    clear hda
    have s1 : IntKind.i64.wrap ((k : Int) + 2) = (k : Int) + 2 := by rw [IntKind.wrap_i64]; omega
    have s2 : IntKind.i64.wrap ((k : Int) + 2 + (i : Int)) = (k : Int) + 2 + (i : Int) := by rw [IntKind.wrap_i64]; omega
    have s3 : IntKind.i64.wrap ((k : Int) + (i : Int)) = ((k + i : Nat) : Int) := by rw [IntKind.wrap_i64]; omega
    have hki : (((k + i : Nat) : Int)) < (l.ds.length : Int) := by omega
    have l23 : u6.cell? ⟨w.heap.size, 23, none⟩ = some (.slice (some ⟨b, off, none⟩) l.ds.length dk) := by rw [← HDA.out]; exact k0.c23
    have hb1 : Below u6.heap.size u6 (u6.alloc (.cells #[.int .i64 ((k : Int) + 2 + (i : Int)), .int .i64 d, .int .i64 pr, .int .i64 it] 53)) := (Below.refl _ _).alloc (Nat.le_refl _) _
    have hv1 := hv.later hb1
    have hr1' : RowIn denc (u6.alloc (.cells #[.int .i64 ((k : Int) + 2 + (i : Int)), .int .i64 d, .int .i64 pr, .int .i64 it] 53)) (some ⟨u6.heap.size, 0, none⟩) [(⟨(k : Int) + 2 + (i : Int), d, pr, it⟩ : Du)] := row_of_blk (xs := [(⟨(k : Int) + 2 + (i : Int), d, pr, it⟩ : Du)]) Bk.Blk.nw10
    have hzB1 : w.heap.size + 1 ≤ (u6.alloc (.cells #[.int .i64 ((k : Int) + 2 + (i : Int)), .int .i64 d, .int .i64 pr, .int .i64 it] 53)).heap.size := Nat.le_trans hzB (Below.size hb1)
    have k01 := k0.later hb1
    have c7 := bl2 hb1 c6
    have hal2 : acc.length ≤ 2000 := by omega
    go_wp2_with (at_builtin; refine wpList_plain rfl fun K hK => dues_wp (B := w.heap.size + 1) [(⟨(k : Int) + 2 + (i : Int), d, pr, it⟩ : Du)] rfl _ _ rfl rfl hv1 _ _ rfl hr1' (by simp; omega) hzB1 ?_; intro g2 c2 u8 hv2 hb2 _; obtain ⟨acc2, hacc2⟩ : ∃ a, a = acc ++ [(⟨(k : Int) + 2 + (i : Int), d, pr, it⟩ : Du)] := ⟨_, rfl⟩; have hla : acc2.length = acc.length + 1 := (by rw [hacc2]; exact List.length_append ..); rw [← hacc2] at hv2 ⊢; have HAC := Lib.hid hacc2; have HLA := Lib.hid hla; clear hacc2 hla; refine hK _ _ ?_)
    have k02 := Sr.blk_low k01 (by omega) hb2
    have c8 : Below w.heap.size w u8 := Below.trans c7 (hb2.mono (by omega))
    clear l23 s1 s2 s3 q1 hki hb1 hv1 hr1' hzB1 k01 c7 hb2 hv k0 c6
    have s4 : IntKind.i64.wrap (left - pr) = left - pr := by rw [IntKind.wrap_i64]; omega
    go_wp2_with fail
    go_roundg (gk - 1)
    case measure => omega
    case rel => exact ⟨i + 1, left - pr, acc2, g2, c2, by omega, rfl, by first | (exact congrArg (Value.int .i64) (by unfold wrap64; omega)) | go_num, by go_num, hv2, k02, HST2.out, by rw [HAC.out]; exact HTOT.out, by rw [HLA.out]; omega, c8⟩
   ·have hnd : l.ds.drop (k + i) = [] ∨ left ≤ 0 := .inr (by omega)
    have g0 : (i : Int) < (n : Int) := by omega
    have HT := Lib.hid (show acc = tot by rw [← htot, bltEnd hnd]; exact (List.append_nil _).symm)
    clear htot
    go_wp2_with fail
    go_ret
    exact ⟨g, c, by rw [← HTT.out, ← HT.out]; rfl, by rw [← HTT.out, ← HT.out]; exact gv_base hv (by omega), cwr⟩
  ·have hnd : l.ds.drop (k + i) = [] ∨ left ≤ 0 := .inl (List.drop_eq_nil_of_le (by have := HN.out; omega))
   have g0 : ¬ (i : Int) < (n : Int) := by omega
   have HT := Lib.hid (show acc = tot by rw [← htot, bltEnd hnd]; exact (List.append_nil _).symm)
   clear htot
   go_wp2_with fail
   go_ret
   exact ⟨g, c, by rw [← HTT.out, ← HT.out]; rfl, by rw [← HTT.out, ← HT.out]; exact gv_base hv (by omega), cwr⟩
end Go.Proofs.YtaanicginfjgdaaGreatDoor.Pp

namespace Go.Proofs.YtaanicginfjgdaaGreatDoor.Pp
open Go Go.RowKit
open Go.Proofs.YtaanicginfjgdaaGreatDoor
open Go.Proofs.YtaanicginfjgdaaGreatDoor.Ln (Tm Ch Du Lo Pa sum prs its P I due chk Ok ok_iff wrap_in wrap_add powed zLo LoIn DuesIn RowIn OwnR denc denc_len cenc cenc_len penc penc_len tenc flat flat_len Dok dues_of_row bl2 SB SB.mono SQ SQ.mono take_at one_at two_at call_at call_wp call_one call_pv value_wp yields_load_row Blk_setRow_same Blk_setRow_ne Below_setRow dues_setRow row_row one25 load_guarded results2_cell dues_lt rowc_lt rangeAt_later tk ts z0 z1 z3 z4 z5)
open Go.Proofs.YtaanicginfjgdaaGreatDoor.Sr (GV DV gv_made parts_wp dues_wp blk_low gv_low)
open Go.Proofs.YtaanicginfjgdaaGreatDoor.Ln (row_put)
open Go.Proofs.YtaanicginfjgdaaGreatDoor.An (intr intr_bd intr_mono Rate pOk POut)
open Go.Proofs.YtaanicginfjgdaaGreatDoor.Rd (gd pcV pcE Stp)
open Go.Proofs.YtaanicginfjgdaaGreatDoor.Kl (Cl CalIn skE)
set_option linter.unusedSimpArgs false
set_option linter.unusedVariables false
set_option maxRecDepth 100000

def whlK (t : Tm) (rest : Int) (n : Nat) (keep pay : Int) (ds : List Du) (left no : Int) : List Du := bltK t rest n keep pay ds 0 left no ++ zerK (ds.drop (bltK t rest n keep pay ds 0 left no).length) (no + ((bltK t rest n keep pay ds 0 left no).length : Int))
theorem zer_step {ds acc tot : List Du} {k i : Nat} {d : Int} (hj : k + i < ds.length) (hd : d = (ds[k + i]!).day) (h : acc ++ zerK (ds.drop (k + i)) ((k : Int) + 2 + (i : Int)) = tot) :
  (acc ++ [(⟨(k : Int) + 2 + (i : Int), d, 0, 0⟩ : Du)]) ++ zerK (ds.drop (k + (i + 1))) ((k : Int) + 2 + ((i + 1 : Nat) : Int)) = tot := by
 rw [List.drop_eq_getElem_cons hj, show ds[k + i] = ds[k + i]! by rw [getElem!_pos ds (k + i) hj]] at h
 unfold zerK at h
 rw [← hd] at h
 rw [← h, List.append_assoc, show ((i + 1 : Nat) : Int) = (i : Int) + 1 by omega, show (k : Int) + 2 + ((i : Int) + 1) = (k : Int) + 2 + (i : Int) + 1 by omega]
 rfl
def WhR (w : World) (l : Lo) (da ca : Option Addr) (dk ck : Nat) (k n : Nat) (tot : List Du) (gm : Nat) (s9 s10 : Value) (W : World) : Prop := ∃ (i : Nat) (acc : List Du) (g c : Nat), i + gm = n ∧ s9 = .slice (some ⟨g, 0, none⟩) acc.length c ∧ s10 = .int .i64 i ∧ DV W (w.heap.size + 1) (.slice (some ⟨g, 0, none⟩) acc.length c) acc ∧ Bk.Blk W w.heap.size #[.int .i64 (l).id, .int .i64 (l).ac, .int .i64 (l).st, .int .i64 (l).pp, .int .i64 (l).pi, .int .i64 (l).fee, .int .i64 (l).pen, .int .i64 (l).chg, .int .i64 (l).prov, .int .i64 (l).loss, .int .i64 (l).rcv, .int .i64 ((l).tm).me, .int .i64 ((l).tm).pr, .int .i64 ((l).tm).ppm, .int .i64 ((l).tm).stt, .int .i64 ((l).tm).ev, .int .i64 ((l).tm).ct, .int .i64 ((l).tm).ba, .int .i64 ((l).tm).mo, .int .i64 ((l).tm).pen, .int .i64 ((l).tm).fe, .string ((l).tm).cal, .string ((l).tm).cur, .slice da (l).ds.length dk, .slice ca (l).cs.length ck] 27 ∧ acc ++ zerK (l.ds.drop (k + i)) ((k : Int) + 2 + (i : Int)) = tot ∧ acc.length ≤ i ∧ Below w.heap.size w W
set_option maxHeartbeats 16000000 in
theorem rwhole_any (l : Lo) (da ca : Option Addr) (dk ck : Nat) (k n : Nat) (rest keep pay : Int) (w : World) (h : DuesIn w da l.ds) (hkn : k + n = l.ds.length) (hn2 : l.ds.length ≤ 1000) (hI0 : Inv l.tm rest n keep pay 0 rest) (hm : keep = 2 → l.tm.me = 1) (hp : 0 ≤ pay ∧ pay ≤ 3000000000000) (htm : (0 ≤ l.tm.ppm ∧ l.tm.ppm ≤ 1000000) ∧ (1 ≤ l.tm.ev ∧ l.tm.ev ≤ 12) ∧ (1 ≤ l.tm.mo ∧ l.tm.mo ≤ 6)) :
  Calls Tryz.prog 47 #[(.agg #[.int .i64 (l).id, .int .i64 (l).ac, .int .i64 (l).st, .int .i64 (l).pp, .int .i64 (l).pi, .int .i64 (l).fee, .int .i64 (l).pen, .int .i64 (l).chg, .int .i64 (l).prov, .int .i64 (l).loss, .int .i64 (l).rcv, .int .i64 ((l).tm).me, .int .i64 ((l).tm).pr, .int .i64 ((l).tm).ppm, .int .i64 ((l).tm).stt, .int .i64 ((l).tm).ev, .int .i64 ((l).tm).ct, .int .i64 ((l).tm).ba, .int .i64 ((l).tm).mo, .int .i64 ((l).tm).pen, .int .i64 ((l).tm).fe, .string ((l).tm).cal, .string ((l).tm).cur, .slice da (l).ds.length dk, .slice ca (l).cs.length ck]), .int .i64 k, .int .i64 rest, .int .i64 pay] w fun e w' => ∃ g c, e = .returned (.slice (some ⟨g, 0, none⟩) (whlK l.tm rest n keep pay (l.ds.drop k) rest ((k : Int) + 2)).length c) ∧ DV w' w.heap.size (.slice (some ⟨g, 0, none⟩) (whlK l.tm rest n keep pay (l.ds.drop k) rest ((k : Int) + 2)).length c) (whlK l.tm rest n keep pay (l.ds.drop k) rest ((k : Int) + 2)) ∧ Below w.heap.size w w' := by
 have cw1 : Below w.heap.size w (w.alloc (.cells #[.int .i64 (l).id, .int .i64 (l).ac, .int .i64 (l).st, .int .i64 (l).pp, .int .i64 (l).pi, .int .i64 (l).fee, .int .i64 (l).pen, .int .i64 (l).chg, .int .i64 (l).prov, .int .i64 (l).loss, .int .i64 (l).rcv, .int .i64 ((l).tm).me, .int .i64 ((l).tm).pr, .int .i64 ((l).tm).ppm, .int .i64 ((l).tm).stt, .int .i64 ((l).tm).ev, .int .i64 ((l).tm).ct, .int .i64 ((l).tm).ba, .int .i64 ((l).tm).mo, .int .i64 ((l).tm).pen, .int .i64 ((l).tm).fe, .string ((l).tm).cal, .string ((l).tm).cur, .slice da (l).ds.length dk, .slice ca (l).cs.length ck] 27)) := (Below.refl _ _).alloc (Nat.le_refl _) _
 have k0 : Bk.Blk (w.alloc (.cells #[.int .i64 (l).id, .int .i64 (l).ac, .int .i64 (l).st, .int .i64 (l).pp, .int .i64 (l).pi, .int .i64 (l).fee, .int .i64 (l).pen, .int .i64 (l).chg, .int .i64 (l).prov, .int .i64 (l).loss, .int .i64 (l).rcv, .int .i64 ((l).tm).me, .int .i64 ((l).tm).pr, .int .i64 ((l).tm).ppm, .int .i64 ((l).tm).stt, .int .i64 ((l).tm).ev, .int .i64 ((l).tm).ct, .int .i64 ((l).tm).ba, .int .i64 ((l).tm).mo, .int .i64 ((l).tm).pen, .int .i64 ((l).tm).fe, .string ((l).tm).cal, .string ((l).tm).cur, .slice da (l).ds.length dk, .slice ca (l).cs.length ck] 27)) w.heap.size _ 27 := Bk.Blk.nw10
 have HD := Lib.hid (fun W (hW : Below w.heap.size w W) => h.later hW)
 have HN := Lib.hid hkn
 obtain ⟨tot, htotE⟩ : ∃ x, x = whlK l.tm rest n keep pay (l.ds.drop k) rest ((k : Int) + 2) := ⟨_, rfl⟩
 have HTT := Lib.hid htotE
 have hbl := blt_len (t := l.tm) (rest := rest) (n := n) (keep := keep) (pay := pay) (l.ds.drop k) 0 rest ((k : Int) + 2)
 rw [List.length_drop] at hbl
 have hs1 : (w.alloc (.cells #[.int .i64 (l).id, .int .i64 (l).ac, .int .i64 (l).st, .int .i64 (l).pp, .int .i64 (l).pi, .int .i64 (l).fee, .int .i64 (l).pen, .int .i64 (l).chg, .int .i64 (l).prov, .int .i64 (l).loss, .int .i64 (l).rcv, .int .i64 ((l).tm).me, .int .i64 ((l).tm).pr, .int .i64 ((l).tm).ppm, .int .i64 ((l).tm).stt, .int .i64 ((l).tm).ev, .int .i64 ((l).tm).ct, .int .i64 ((l).tm).ba, .int .i64 ((l).tm).mo, .int .i64 ((l).tm).pen, .int .i64 ((l).tm).fe, .string ((l).tm).cal, .string ((l).tm).cur, .slice da (l).ds.length dk, .slice ca (l).cs.length ck] 27)).heap.size = w.heap.size + 1 := by simp
 clear h
 go_enter Tryz.func47, Tryz.ntmps47
 go_upto_region 1 with fail
 generalize (w.alloc (.cells _ 27)) = w1 at *
 go_wp2_with (first | (refine wpList_load_row rfl 27 _ rfl _ rfl _ _ _ _ k0 Tryz.underlying27 rfl (by kernel_rfl) ?_) | (refine load_guarded 27 _ rfl rfl _ rfl _ _ _ _ k0 Tryz.underlying27 rfl (by kernel_rfl) ?_))
 refine (rbuilt_any l da ca dk ck k n rest keep pay _ (HD.out _ cw1) hkn hn2 hI0 hm hp htm).mono ?_
 rintro e w2 ⟨g0, c0, rfl, hv0, hb⟩
 have cw2 := bl2 hb cw1
 replace k0 := k0.later hb
 rw [hs1] at hv0
 clear hb cw1 hs1 hm htm hI0 hkn
 obtain ⟨B, hB⟩ : ∃ B, B = bltK l.tm rest n keep pay (l.ds.drop k) 0 rest ((k : Int) + 2) := ⟨_, rfl⟩
 rw [← hB] at hv0 hbl ⊢
 have htot0 : B ++ zerK (l.ds.drop (k + B.length)) ((k : Int) + 2 + (B.length : Int)) = tot := by rw [htotE, hB]; unfold whlK; rw [List.drop_drop]
 have hbn : B.length ≤ n := by have := HN.out; omega
 clear hB htotE hbl
 go_upto_region 3 with fail
 go_loopg [9, 10] (n - B.length) (WhR w l da ca dk ck k n tot)
 case atStart => exact ⟨B.length, B, g0, c0, by omega, rfl, rfl, hv0, k0, htot0, Nat.le_refl _, cw2⟩
 case round =>
  clear hv0 k0 htot0 cw2
  obtain ⟨i, acc, g, c, hg, rfl, rfl, hv, k0, htot, hal, cwr⟩ := hrel
  by_cases hlt : i < n
  ·have hkl : k + i < l.ds.length := by have := HN.out; omega
   obtain ⟨b, off, hda, hc⟩ := ((HD.out _ cwr).row).mid denc_len (by omega)
   obtain ⟨d, hd⟩ : ∃ d, d = (l.ds[k + i]!).day := ⟨_, rfl⟩
   have q1 : wr.cell? ⟨b, off + (k + i) * 4 + 1, none⟩ = some (.int .i64 d) := by rw [hd]; exact hc (k + i) hkl 1 _ rfl
   have HTOT := Lib.hid (zer_step hkl hd htot)
   clear hd hc htot
   have HDA := Lib.hid hda
   clear hda
   have s0 : IntKind.i64.wrap ((l.ds.length : Int) - (k : Int)) = (n : Int) := by rw [IntKind.wrap_i64]; have := HN.out; omega
   have g0 : (i : Int) < (n : Int) := by omega
   have s1 : IntKind.i64.wrap ((k : Int) + 2) = (k : Int) + 2 := by rw [IntKind.wrap_i64]; omega
   have s2 : IntKind.i64.wrap ((k : Int) + 2 + (i : Int)) = (k : Int) + 2 + (i : Int) := by rw [IntKind.wrap_i64]; omega
   have s3 : IntKind.i64.wrap ((k : Int) + (i : Int)) = ((k + i : Nat) : Int) := by rw [IntKind.wrap_i64]; omega
   have hki : (((k + i : Nat) : Int)) < (l.ds.length : Int) := by omega
   have l23 : wr.cell? ⟨w.heap.size, 23, none⟩ = some (.slice (some ⟨b, off, none⟩) l.ds.length dk) := by rw [← HDA.out]; exact k0.c23
   have hzB : w.heap.size + 1 ≤ wr.heap.size := k0.lt
   have hb1 : Below wr.heap.size wr (wr.alloc (.cells #[.int .i64 ((k : Int) + 2 + (i : Int)), .int .i64 d, .int .i64 0, .int .i64 0] 53)) := (Below.refl _ _).alloc (Nat.le_refl _) _
   have hv1 := hv.later hb1
   have hr1' : RowIn denc (wr.alloc (.cells #[.int .i64 ((k : Int) + 2 + (i : Int)), .int .i64 d, .int .i64 0, .int .i64 0] 53)) (some ⟨wr.heap.size, 0, none⟩) [(⟨(k : Int) + 2 + (i : Int), d, 0, 0⟩ : Du)] := row_of_blk (xs := [(⟨(k : Int) + 2 + (i : Int), d, 0, 0⟩ : Du)]) Bk.Blk.nw10
   have hzB1 : w.heap.size + 1 ≤ (wr.alloc (.cells #[.int .i64 ((k : Int) + 2 + (i : Int)), .int .i64 d, .int .i64 0, .int .i64 0] 53)).heap.size := Nat.le_trans hzB (Below.size hb1)
   have k01 := k0.later hb1
   have c7 := bl2 hb1 cwr
   have hal2 : acc.length ≤ 2000 := by omega
   go_wp2_with (at_builtin; refine wpList_plain rfl fun K hK => dues_wp (B := w.heap.size + 1) [(⟨(k : Int) + 2 + (i : Int), d, 0, 0⟩ : Du)] rfl _ _ rfl rfl hv1 _ _ rfl hr1' (by simp; omega) hzB1 ?_; intro g2 c2 u8 hv2 hb2 _; obtain ⟨acc2, hacc2⟩ : ∃ a, a = acc ++ [(⟨(k : Int) + 2 + (i : Int), d, 0, 0⟩ : Du)] := ⟨_, rfl⟩; have hla : acc2.length = acc.length + 1 := (by rw [hacc2]; exact List.length_append ..); rw [← hacc2] at hv2 ⊢; have HAC := Lib.hid hacc2; have HLA := Lib.hid hla; clear hacc2 hla; refine hK _ _ ?_)
   have k02 := blk_low k01 (by omega) hb2
   have c8 : Below w.heap.size w u8 := Below.trans c7 (hb2.mono (by omega))
   clear l23 s0 s1 s2 s3 q1 hki hb1 hv1 hr1' hzB1 k01 c7 hb2 hv k0 cwr g0
   go_roundg (gk - 1)
   case measure => omega
   case rel => exact ⟨i + 1, acc2, g2, c2, by omega, rfl, by go_num, hv2, k02, by rw [HAC.out]; exact HTOT.out, by rw [HLA.out]; omega, c8⟩
  ·have hin : i = n := by omega
   have HT := Lib.hid (show acc = tot by rw [← htot, List.drop_eq_nil_of_le (by have := HN.out; omega)]; exact (List.append_nil _).symm)
   have s0 : IntKind.i64.wrap ((l.ds.length : Int) - (k : Int)) = (n : Int) := by rw [IntKind.wrap_i64]; have := HN.out; omega
   have g0 : ¬ (i : Int) < (n : Int) := by omega
   have l23 := k0.c23
   clear htot hin
   go_wp2_with fail
   go_ret
   exact ⟨g, c, by rw [← HTT.out, ← HT.out]; rfl, by rw [← HTT.out, ← HT.out]; exact gv_base hv (by omega), cwr⟩
set_option maxHeartbeats 16000000 in
theorem rpayment_any (l : Lo) (da ca : Option Addr) (dk ck : Nat) (day rest keep : Int) (k n : Nat) (w : World) (h : DuesIn w da l.ds) (hk : k = atN l day) (hkn : k + n = l.ds.length) (hn : 1 ≤ n) (hn2 : l.ds.length ≤ 1000) (hx : (0 ≤ (nx l day).pr ∧ (nx l day).pr ≤ 1000000000000) ∧ (0 ≤ (nx l day).it ∧ (nx l day).it ≤ 1000000000000)) :
  Calls Tryz.prog 46 #[(.agg #[.int .i64 (l).id, .int .i64 (l).ac, .int .i64 (l).st, .int .i64 (l).pp, .int .i64 (l).pi, .int .i64 (l).fee, .int .i64 (l).pen, .int .i64 (l).chg, .int .i64 (l).prov, .int .i64 (l).loss, .int .i64 (l).rcv, .int .i64 ((l).tm).me, .int .i64 ((l).tm).pr, .int .i64 ((l).tm).ppm, .int .i64 ((l).tm).stt, .int .i64 ((l).tm).ev, .int .i64 ((l).tm).ct, .int .i64 ((l).tm).ba, .int .i64 ((l).tm).mo, .int .i64 ((l).tm).pen, .int .i64 ((l).tm).fe, .string ((l).tm).cal, .string ((l).tm).cur, .slice da (l).ds.length dk, .slice ca (l).cs.length ck]), .int .i64 k, .int .i64 rest, .int .i64 keep] w fun e w' => e = .returned (.tuple #[.int .i64 (lvV l day keep rest n), .int .i64 (lvE l keep rest n)]) ∧ Below w.heap.size w w' := by
 have cw1 : Below w.heap.size w (w.alloc (.cells #[.int .i64 (l).id, .int .i64 (l).ac, .int .i64 (l).st, .int .i64 (l).pp, .int .i64 (l).pi, .int .i64 (l).fee, .int .i64 (l).pen, .int .i64 (l).chg, .int .i64 (l).prov, .int .i64 (l).loss, .int .i64 (l).rcv, .int .i64 ((l).tm).me, .int .i64 ((l).tm).pr, .int .i64 ((l).tm).ppm, .int .i64 ((l).tm).stt, .int .i64 ((l).tm).ev, .int .i64 ((l).tm).ct, .int .i64 ((l).tm).ba, .int .i64 ((l).tm).mo, .int .i64 ((l).tm).pen, .int .i64 ((l).tm).fe, .string ((l).tm).cal, .string ((l).tm).cur, .slice da (l).ds.length dk, .slice ca (l).cs.length ck] 27)) := (Below.refl _ _).alloc (Nat.le_refl _) _
 have k0 : Bk.Blk (w.alloc (.cells #[.int .i64 (l).id, .int .i64 (l).ac, .int .i64 (l).st, .int .i64 (l).pp, .int .i64 (l).pi, .int .i64 (l).fee, .int .i64 (l).pen, .int .i64 (l).chg, .int .i64 (l).prov, .int .i64 (l).loss, .int .i64 (l).rcv, .int .i64 ((l).tm).me, .int .i64 ((l).tm).pr, .int .i64 ((l).tm).ppm, .int .i64 ((l).tm).stt, .int .i64 ((l).tm).ev, .int .i64 ((l).tm).ct, .int .i64 ((l).tm).ba, .int .i64 ((l).tm).mo, .int .i64 ((l).tm).pen, .int .i64 ((l).tm).fe, .string ((l).tm).cal, .string ((l).tm).cur, .slice da (l).ds.length dk, .slice ca (l).cs.length ck] 27)) w.heap.size _ 27 := Bk.Blk.nw10
 have HD := Lib.hid (fun W (hW : Below w.heap.size w W) => h.later hW)
 have HNX := Lib.hid (show nx l day = l.ds[k]! by unfold nx; rw [if_pos (by omega), hk])
 have s0 : IntKind.i64.wrap ((l.ds.length : Int) - (k : Int)) = (n : Int) := by rw [IntKind.wrap_i64]; omega
 clear h hk
 go_enter Tryz.func46, Tryz.ntmps46
 go_upto_region 1 with fail
 generalize (w.alloc (.cells _ 27)) = w1 at *
 have HTR := Lib.hid (Ln.tm_range k0)
 have hbt : Below w1.heap.size w1 ((w1.alloc (.cells #[.int .i64 0, .int .i64 0, .int .i64 0, .int .i64 0, .int .i64 0, .int .i64 0, .int .i64 0, .int .i64 0, .int .i64 0, .int .i64 0, .string { data := #[] }, .string { data := #[] }] 23)).setRow w1.heap.size #[.int .i64 (l.tm).me, .int .i64 (l.tm).pr, .int .i64 (l.tm).ppm, .int .i64 (l.tm).stt, .int .i64 (l.tm).ev, .int .i64 (l.tm).ct, .int .i64 (l.tm).ba, .int .i64 (l.tm).mo, .int .i64 (l.tm).pen, .int .i64 (l.tm).fe, .string (l.tm).cal, .string (l.tm).cur]) := Below_setRow ((Below.refl _ _).alloc (Nat.le_refl _) _) (Nat.le_refl _) _
 have kt : Bk.Blk ((w1.alloc (.cells #[.int .i64 0, .int .i64 0, .int .i64 0, .int .i64 0, .int .i64 0, .int .i64 0, .int .i64 0, .int .i64 0, .int .i64 0, .int .i64 0, .string { data := #[] }, .string { data := #[] }] 23)).setRow w1.heap.size #[.int .i64 (l.tm).me, .int .i64 (l.tm).pr, .int .i64 (l.tm).ppm, .int .i64 (l.tm).stt, .int .i64 (l.tm).ev, .int .i64 (l.tm).ct, .int .i64 (l.tm).ba, .int .i64 (l.tm).mo, .int .i64 (l.tm).pen, .int .i64 (l.tm).fe, .string (l.tm).cal, .string (l.tm).cur]) w1.heap.size _ 23 := Blk_setRow_same Bk.Blk.nw10
 go_upto_region 2 with (first | (refine wpList_load_mid rfl 23 _ rfl w.heap.size 11 (by first | rfl | simp) [.int .i64 (l.tm).me, .int .i64 (l.tm).pr, .int .i64 (l.tm).ppm, .int .i64 (l.tm).stt, .int .i64 (l.tm).ev, .int .i64 (l.tm).ct, .int .i64 (l.tm).ba, .int .i64 (l.tm).mo, .int .i64 (l.tm).pen, .int .i64 (l.tm).fe, .string (l.tm).cal, .string (l.tm).cur] _ HTR.out Tryz.underlying23 rfl (by kernel_rfl) ?_) | (refine wpList_store_row rfl 23 _ _ rfl _ _ rfl rfl _ _ Bk.Blk.nw10 (by kernel_rfl) rfl (by simp [Value.oneCell', denc]) ?_))
 have cw2 := bl2 hbt cw1
 replace k0 := k0.later hbt
 clear hbt HTR cw1
 generalize ((w1.alloc (.cells _ 23)).setRow w1.heap.size _) = w2 at *
 generalize w1.heap.size = gt at *
 by_cases hk : keep = 2
 ·have HF := Lib.hid (show lvV l day keep rest n = (nx l day).pr + (nx l day).it ∧ lvE l keep rest n = 0 from ⟨if_pos hk, if_pos hk⟩)
  have gk : (keep == 2) = true := by rw [hk]; rfl
  clear hk
  have hlt : k < l.ds.length := by omega
  obtain ⟨b, off, rfl, hc⟩ := ((HD.out _ cw2).row).mid denc_len (by omega)
  have q2 : w2.cell? ⟨b, off + k * 4 + 2, none⟩ = some (.int .i64 (nx l day).pr) := by rw [HNX.out]; exact hc k hlt 2 _ rfl
  have q3 : w2.cell? ⟨b, off + k * 4 + 3, none⟩ = some (.int .i64 (nx l day).it) := by rw [HNX.out]; exact hc k hlt 3 _ rfl
  clear hc
  obtain ⟨p, hpp⟩ : ∃ p, p = (nx l day).pr := ⟨_, rfl⟩
  obtain ⟨q, hqq⟩ : ∃ p, p = (nx l day).it := ⟨_, rfl⟩
  rw [← hpp] at q2 hx HF
  rw [← hqq] at q3 hx HF
  clear hpp hqq
  have s1 : IntKind.i64.wrap (p + q) = p + q := by rw [IntKind.wrap_i64]; omega
  have hki : ((k : Nat) : Int) < (l.ds.length : Int) := by omega
  have HQ2 := Lib.hid (fun W (hW : SB w2 W) => cell_later hW q2)
  have HQ3 := Lib.hid (fun W (hW : SB w2 W) => cell_later hW q3)
  go_upto_region 3 with fail
  have hS0 : SB w2 w2.drew := (Below.refl _ _).drew
  refine wp_region_held_drew (S := SB w2) (by kernel_rfl) hS0 (fun hS => ?_)
  clear hS0
  refine tk 0 (by decide) ?_ hS (by kernel_rfl) (by kernel_rfl) (by kernel_rfl) (by rfl) (fun _ _ _ h => h) ?_ ?_
  rotate_left
  ·intro W hW
   clear hW
   simp only [z0, z1]
   go_simp
   first | done | with_reducible rfl
  simp only [z0, z1, Act.put, z3, z4, z5]
  refine tk 2 (by decide) ?_ hS (by kernel_rfl) (by kernel_rfl) (by kernel_rfl) (by rfl) (fun _ _ _ h => h) ?_ ?_
  rotate_left
  ·intro W hW
   clear hW
   simp only [z0, z1]
   go_simp
   first | done | with_reducible rfl
  simp only [z0, z1, Act.put, z3, z4, z5]
  refine tk 6 (by decide) ?_ hS (by kernel_rfl) (by kernel_rfl) (by kernel_rfl) (by rfl) (fun _ _ _ h => h) ?_ ?_
  rotate_left
  ·intro W hW
   clear hW
   simp only [z0, z1]
   go_simp
   first | done | with_reducible rfl
  simp only [z0, z1, Act.put, z3, z4, z5]
  refine tk 8 (by decide) ?_ hS (by kernel_rfl) (by kernel_rfl) (by kernel_rfl) (by rfl) (fun _ _ _ h => h) ?_ ?_
  rotate_left
  ·intro W hW
   clear hW
   simp only [z0, z1]
   go_simp
   first | done | with_reducible rfl
  simp only [z0, z1, Act.put, z3, z4, z5]
  refine tk 1 (by decide) ?_ hS (by kernel_rfl) (by kernel_rfl) (by kernel_rfl) (by rfl) (fun _ _ _ h => h) ?_ ?_
  rotate_left
  ·intro W hW
   have q := (k0.later hW).c23
   clear hW
   simp only [z0, z1]
   go_simp
   first | done | with_reducible rfl
  simp only [z0, z1, Act.put, z3, z4, z5]
  refine tk 7 (by decide) ?_ hS (by kernel_rfl) (by kernel_rfl) (by kernel_rfl) (by rfl) (fun _ _ _ h => h) ?_ ?_
  rotate_left
  ·intro W hW
   have q := (k0.later hW).c23
   clear hW
   simp only [z0, z1]
   go_simp
   first | done | with_reducible rfl
  simp only [z0, z1, Act.put, z3, z4, z5]
  refine tk 3 (by decide) ?_ hS (by kernel_rfl) (by kernel_rfl) (by kernel_rfl) (by rfl) (fun _ _ _ h => h) ?_ ?_
  rotate_left
  ·intro W hW
   clear hW
   simp only [z0, z1]
   go_simp
   first | done | with_reducible rfl
  simp only [z0, z1, Act.put, z3, z4, z5]
  refine tk 4 (by decide) ?_ hS (by kernel_rfl) (by kernel_rfl) (by kernel_rfl) (by rfl) (fun _ _ _ h => h) ?_ ?_
  rotate_left
  ·intro W hW
   clear hW
   simp only [z0, z1]
   go_simp
   first | done | with_reducible rfl
  simp only [z0, z1, Act.put, z3, z4, z5]
  refine tk 5 (by decide) ?_ hS (by kernel_rfl) (by kernel_rfl) (by kernel_rfl) (by rfl) (fun _ _ _ h => h) ?_ ?_
  rotate_left
  ·intro W hW
   have q := HQ2.out W hW
   clear hW
   simp only [z0, z1]
   go_simp
   first | done | with_reducible rfl
  simp only [z0, z1, Act.put, z3, z4, z5]
  refine tk 9 (by decide) ?_ hS (by kernel_rfl) (by kernel_rfl) (by kernel_rfl) (by rfl) (fun _ _ _ h => h) ?_ ?_
  rotate_left
  ·intro W hW
   clear hW
   simp only [z0, z1]
   go_simp
   first | done | with_reducible rfl
  simp only [z0, z1, Act.put, z3, z4, z5]
  refine tk 10 (by decide) ?_ hS (by kernel_rfl) (by kernel_rfl) (by kernel_rfl) (by rfl) (fun _ _ _ h => h) ?_ ?_
  rotate_left
  ·intro W hW
   clear hW
   simp only [z0, z1]
   go_simp
   first | done | with_reducible rfl
  simp only [z0, z1, Act.put, z3, z4, z5]
  refine tk 11 (by decide) ?_ hS (by kernel_rfl) (by kernel_rfl) (by kernel_rfl) (by rfl) (fun _ _ _ h => h) ?_ ?_
  rotate_left
  ·intro W hW
   have q := HQ3.out W hW
   clear hW
   simp only [z0, z1]
   go_simp
   first | done | with_reducible rfl
  simp only [z0, z1, Act.put, z3, z4, z5]
  refine tk 12 (by decide) ?_ hS (by kernel_rfl) (by kernel_rfl) (by kernel_rfl) (by rfl) (fun _ _ _ h => h) ?_ ?_
  rotate_left
  ·intro W hW
   clear hW
   simp only [z0, z1]
   go_simp
   first | done | with_reducible rfl
  simp only [z0, z1, Act.put, z3, z4, z5]
  refine tk 13 (by decide) ?_ hS (by kernel_rfl) (by kernel_rfl) (by kernel_rfl) (by rfl) (fun _ _ _ h => h) ?_ ?_
  rotate_left
  ·intro W hW
   clear hW
   simp only [z0, z1]
   go_simp
   first | done | with_reducible rfl
  simp only [z0, z1, Act.put, z3, z4, z5]
  refine tk 14 (by decide) ?_ hS (by kernel_rfl) (by kernel_rfl) (by kernel_rfl) (by rfl) (fun _ _ _ h => h) ?_ ?_
  rotate_left
  ·intro W hW
   clear hW
   simp only [z0, z1]
   go_simp
   first | done | with_reducible rfl
  simp only [z0, z1, Act.put, z3, z4, z5]
  refine wpAnyH_done (by kernel_rfl) ?_ _
  have cw3 := bl2 hS cw2
  go_wp2_with fail
  go_ret2
  exact ⟨by rw [HF.out.1, HF.out.2]; rfl, cw3⟩
 ·have gk : (keep == 2) = false := by simpa using hk
  have lt0 := kt.c0
  by_cases h1 : l.tm.me = 1
  ·have HV := Lib.hid (show lvV l day keep rest n = anV rest l.tm.ppm l.tm.ev l.tm.mo n 0 from by unfold lvV; rw [if_neg hk, if_pos (.inl h1), show balK l.tm rest = 0 from if_neg (by rw [h1]; decide)])
   have HE := Lib.hid (show lvE l keep rest n = anE rest l.tm.ppm l.tm.ev l.tm.mo n 0 from by unfold lvE; rw [if_neg hk, if_pos (.inl h1), show balK l.tm rest = 0 from if_neg (by rw [h1]; decide)])
   have HPO := Lib.hid (fun W => (An.rpay_any rest l.tm.ppm l.tm.ev l.tm.mo (n : Int) (0) W).mono (fun e w' h => (⟨pout_is h.1, by rw [← h.2]; exact Below.refl _ _⟩ : e = _ ∧ Below W.heap.size W w')))
   obtain ⟨V, hV⟩ : ∃ v, v = anV rest l.tm.ppm l.tm.ev l.tm.mo (n : Int) (0) := ⟨_, rfl⟩
   obtain ⟨E, hE⟩ : ∃ v, v = anE rest l.tm.ppm l.tm.ev l.tm.mo (n : Int) (0) := ⟨_, rfl⟩
   rw [← hV, ← hE] at HPO
   rw [← hV] at HV
   rw [← hE] at HE
   clear hV hE
   have g1 : (l.tm.me == 1) = true := by rw [h1]; rfl
   clear h1 hk
   have c2 := kt.c2
   have c4 := kt.c4
   have c7 := kt.c7
   have l23 := k0.c23
   go_wp2_with fail
   refine (HPO.out _).mono ?_
   rintro e w3 ⟨rfl, hb⟩
   have cw3 := bl2 hb cw2
   clear c2 c4 c7 l23
   go_wp2_with fail
   go_ret2
   exact ⟨by rw [HV.out, HE.out]; rfl, cw3⟩
  ·by_cases h4 : l.tm.me = 4
   ·have HV := Lib.hid (show lvV l day keep rest n = anV rest l.tm.ppm l.tm.ev l.tm.mo n (min l.tm.ba rest) from by unfold lvV; rw [if_neg hk, if_pos (.inr h4), show balK l.tm rest = min l.tm.ba rest from if_pos h4])
    have HE := Lib.hid (show lvE l keep rest n = anE rest l.tm.ppm l.tm.ev l.tm.mo n (min l.tm.ba rest) from by unfold lvE; rw [if_neg hk, if_pos (.inr h4), show balK l.tm rest = min l.tm.ba rest from if_pos h4])
    have HPO := Lib.hid (fun W => (An.rpay_any rest l.tm.ppm l.tm.ev l.tm.mo (n : Int) (min l.tm.ba rest) W).mono (fun e w' h => (⟨pout_is h.1, by rw [← h.2]; exact Below.refl _ _⟩ : e = _ ∧ Below W.heap.size W w')))
    obtain ⟨V, hV⟩ : ∃ v, v = anV rest l.tm.ppm l.tm.ev l.tm.mo (n : Int) (min l.tm.ba rest) := ⟨_, rfl⟩
    obtain ⟨E, hE⟩ : ∃ v, v = anE rest l.tm.ppm l.tm.ev l.tm.mo (n : Int) (min l.tm.ba rest) := ⟨_, rfl⟩
    rw [← hV, ← hE] at HPO
    rw [← hV] at HV
    rw [← hE] at HE
    clear hV hE
    have g1 : (l.tm.me == 1) = false := by simpa using h1
    have g4 : (l.tm.me == 4) = true := by rw [h4]; rfl
    clear h1 h4 hk
    go_upto_region 7 with fail
    have hS0 : SB w2 w2.drew := (Below.refl _ _).drew
    refine wp_region_held_drew (S := SB w2) (by kernel_rfl) hS0 (fun hS => ?_)
    clear hS0
    refine tk 0 (by decide) ?_ hS (by kernel_rfl) (by kernel_rfl) (by kernel_rfl) (by rfl) (fun _ _ _ h => h) ?_ ?_
    rotate_left
    ·intro W hW
     clear hW
     simp only [z0, z1]
     go_simp
     first | done | with_reducible rfl
    simp only [z0, z1, Act.put, z3, z4, z5]
    refine tk 1 (by decide) ?_ hS (by kernel_rfl) (by kernel_rfl) (by kernel_rfl) (by rfl) (fun _ _ _ h => h) ?_ ?_
    rotate_left
    ·intro W hW
     clear hW
     simp only [z0, z1]
     go_simp
     first | done | with_reducible rfl
    simp only [z0, z1, Act.put, z3, z4, z5]
    refine tk 3 (by decide) ?_ hS (by kernel_rfl) (by kernel_rfl) (by kernel_rfl) (by rfl) (fun _ _ _ h => h) ?_ ?_
    rotate_left
    ·intro W hW
     clear hW
     simp only [z0, z1]
     go_simp
     first | done | with_reducible rfl
    simp only [z0, z1, Act.put, z3, z4, z5]
    refine tk 5 (by decide) ?_ hS (by kernel_rfl) (by kernel_rfl) (by kernel_rfl) (by rfl) (fun _ _ _ h => h) ?_ ?_
    rotate_left
    ·intro W hW
     clear hW
     simp only [z0, z1]
     go_simp
     first | done | with_reducible rfl
    simp only [z0, z1, Act.put, z3, z4, z5]
    refine tk 7 (by decide) ?_ hS (by kernel_rfl) (by kernel_rfl) (by kernel_rfl) (by rfl) (fun _ _ _ h => h) ?_ ?_
    rotate_left
    ·intro W hW
     clear hW
     simp only [z0, z1]
     go_simp
     first | done | with_reducible rfl
    simp only [z0, z1, Act.put, z3, z4, z5]
    refine tk 10 (by decide) ?_ hS (by kernel_rfl) (by kernel_rfl) (by kernel_rfl) (by rfl) (fun _ _ _ h => h) ?_ ?_
    rotate_left
    ·intro W hW
     clear hW
     simp only [z0, z1]
     go_simp
     first | done | with_reducible rfl
    simp only [z0, z1, Act.put, z3, z4, z5]
    refine tk 12 (by decide) ?_ hS (by kernel_rfl) (by kernel_rfl) (by kernel_rfl) (by rfl) (fun _ _ _ h => h) ?_ ?_
    rotate_left
    ·intro W hW
     clear hW
     simp only [z0, z1]
     go_simp
     first | done | with_reducible rfl
    simp only [z0, z1, Act.put, z3, z4, z5]
    refine tk 14 (by decide) ?_ hS (by kernel_rfl) (by kernel_rfl) (by kernel_rfl) (by rfl) (fun _ _ _ h => h) ?_ ?_
    rotate_left
    ·intro W hW
     clear hW
     simp only [z0, z1]
     go_simp
     first | done | with_reducible rfl
    simp only [z0, z1, Act.put, z3, z4, z5]
    refine tk 2 (by decide) ?_ hS (by kernel_rfl) (by kernel_rfl) (by kernel_rfl) (by rfl) (fun _ _ _ h => h) ?_ ?_
    rotate_left
    ·intro W hW
     have q := (kt.later hW).c2
     clear hW
     simp only [z0, z1]
     go_simp
     first | done | with_reducible rfl
    simp only [z0, z1, Act.put, z3, z4, z5]
    refine tk 4 (by decide) ?_ hS (by kernel_rfl) (by kernel_rfl) (by kernel_rfl) (by rfl) (fun _ _ _ h => h) ?_ ?_
    rotate_left
    ·intro W hW
     have q := (kt.later hW).c4
     clear hW
     simp only [z0, z1]
     go_simp
     first | done | with_reducible rfl
    simp only [z0, z1, Act.put, z3, z4, z5]
    refine tk 6 (by decide) ?_ hS (by kernel_rfl) (by kernel_rfl) (by kernel_rfl) (by rfl) (fun _ _ _ h => h) ?_ ?_
    rotate_left
    ·intro W hW
     have q := (kt.later hW).c7
     clear hW
     simp only [z0, z1]
     go_simp
     first | done | with_reducible rfl
    simp only [z0, z1, Act.put, z3, z4, z5]
    refine tk 8 (by decide) ?_ hS (by kernel_rfl) (by kernel_rfl) (by kernel_rfl) (by rfl) (fun _ _ _ h => h) ?_ ?_
    rotate_left
    ·intro W hW
     have q := (k0.later hW).c23
     clear hW
     simp only [z0, z1]
     go_simp
     first | done | with_reducible rfl
    simp only [z0, z1, Act.put, z3, z4, z5]
    refine tk 13 (by decide) ?_ hS (by kernel_rfl) (by kernel_rfl) (by kernel_rfl) (by rfl) (fun _ _ _ h => h) ?_ ?_
    rotate_left
    ·intro W hW
     have q := (kt.later hW).c6
     clear hW
     simp only [z0, z1]
     go_simp
     first | done | with_reducible rfl
    simp only [z0, z1, Act.put, z3, z4, z5]
    refine tk 9 (by decide) ?_ hS (by kernel_rfl) (by kernel_rfl) (by kernel_rfl) (by rfl) (fun _ _ _ h => h) ?_ ?_
    rotate_left
    ·intro W hW
     clear hW
     simp only [z0, z1]
     go_simp
     first | done | with_reducible rfl
    simp only [z0, z1, Act.put, z3, z4, z5]
    refine tk 11 (by decide) ?_ hS (by kernel_rfl) (by kernel_rfl) (by kernel_rfl) (by rfl) (fun _ _ _ h => h) ?_ ?_
    rotate_left
    ·intro W hW
     clear hW
     simp only [z0, z1]
     go_simp
     first | done | with_reducible rfl
    simp only [z0, z1, Act.put, z3, z4, z5]
    refine call_at 15 (by decide) (Pi := (fun v _ => v = .int .i64 (min l.tm.ba rest))) (by kernel_rfl) (by rfl) (by simp only [z0, z1]; go_simp; first | done | rfl | exact ⟨rfl, rfl⟩) (call_one SB.mono hS ((least_any _ _ _))) ?_
    clear hS
    rintro w3 u hS rfl
    simp only [z0, z1, Act.put, z3, z4, z5]
    refine call_at 16 (by decide) (Pi := (fun v _ => v = (.tuple #[.int .i64 V, .int .i64 E]))) (by kernel_rfl) (by rfl) (by simp only [z0, z1]; go_simp; first | done | rfl | exact ⟨rfl, rfl⟩) (call_one SB.mono hS (HPO.out _)) ?_
    clear hS
    rintro w4 u hS rfl
    simp only [z0, z1, Act.put, z3, z4, z5]
    refine tk 17 (by decide) ?_ hS (by kernel_rfl) (by kernel_rfl) (by kernel_rfl) (by rfl) (fun _ _ _ h => h) ?_ ?_
    rotate_left
    ·intro W hW
     clear hW
     simp only [z0, z1]
     go_simp
     first | done | with_reducible rfl
    simp only [z0, z1, Act.put, z3, z4, z5]
    refine tk 18 (by decide) ?_ hS (by kernel_rfl) (by kernel_rfl) (by kernel_rfl) (by rfl) (fun _ _ _ h => h) ?_ ?_
    rotate_left
    ·intro W hW
     clear hW
     simp only [z0, z1]
     go_simp
     first | done | with_reducible rfl
    simp only [z0, z1, Act.put, z3, z4, z5]
    refine tk 19 (by decide) ?_ hS (by kernel_rfl) (by kernel_rfl) (by kernel_rfl) (by rfl) (fun _ _ _ h => h) ?_ ?_
    rotate_left
    ·intro W hW
     clear hW
     simp only [z0, z1]
     go_simp
     first | done | with_reducible rfl
    simp only [z0, z1, Act.put, z3, z4, z5]
    refine tk 20 (by decide) ?_ hS (by kernel_rfl) (by kernel_rfl) (by kernel_rfl) (by rfl) (fun _ _ _ h => h) ?_ ?_
    rotate_left
    ·intro W hW
     clear hW
     simp only [z0, z1]
     go_simp
     first | done | with_reducible rfl
    simp only [z0, z1, Act.put, z3, z4, z5]
    refine wpAnyH_done (by kernel_rfl) ?_ _
    have cw4 := bl2 hS cw2
    go_wp2_with fail
    go_ret2
    exact ⟨by rw [HV.out, HE.out]; rfl, cw4⟩
   ·have HV := Lib.hid (show lvV l day keep rest n = 0 from by unfold lvV; rw [if_neg hk, if_neg (fun e => e.elim h1 h4)])
    have HE := Lib.hid (show lvE l keep rest n = 0 from by unfold lvE; rw [if_neg hk, if_neg (fun e => e.elim h1 h4)])
    have g1 : (l.tm.me == 1) = false := by simpa using h1
    have g4 : (l.tm.me == 4) = false := by simpa using h4
    clear h1 h4 hk
    go_wp2_with fail
    go_ret2
    exact ⟨by rw [HV.out, HE.out]; rfl, cw2⟩
noncomputable def exE (l : Lo) (a day keep : Int) (c : Cl) : Int := if ¬ (chk l = 0 ∧ 0 ≤ day ∧ day ≤ 73048) then 1 else alE l a day keep c
theorem exE_us {l : Lo} {a day keep : Int} {c : Cl} (h : usE l day ≠ 0) : exE l a day keep c = usE l day := by
 unfold usE at h ⊢
 unfold exE
 split
 ·rfl
 ·rename_i h1
  rw [if_neg h1] at h
  split
  ·rename_i h2
   exact alE_1 (.inl h2)
  ·rename_i h2
   rw [if_neg h2] at h
   exact absurd rfl h
def ExO (l : Lo) (a day keep : Int) (c : Cl) (w : World) (e : Ending) (w' : World) : Prop := e = .returned (.tuple #[.int .i64 (if exE l a day keep c = 0 then feV l a else 0), .int .i64 (exE l a day keep c)]) ∧ Below w.heap.size w w'
theorem exo_no {l : Lo} {a day keep E : Int} {c : Cl} {w w' : World} (h : exE l a day keep c = E) (h0 : E ≠ 0) (hb : Below w.heap.size w w') : ExO l a day keep c w (.returned (.tuple #[.int .i64 0, .int .i64 E])) w' := by
 unfold ExO
 rw [h, if_neg h0]
 exact ⟨rfl, hb⟩
theorem exo_ok {l : Lo} {a day keep n : Int} {c : Cl} {w w' : World} (h : exE l a day keep c = 0) (hn : feV l a = n) (hb : Below w.heap.size w w') : ExO l a day keep c w (.returned (.tuple #[.int .i64 n, .int .i64 0])) w' := by
 unfold ExO
 rw [h, if_pos rfl, hn]
 exact ⟨rfl, hb⟩
set_option maxHeartbeats 16000000 in
theorem rexamine_any (l : Lo) (da ca : Option Addr) (dk ck : Nat) (a day keep : Int) (c : Cl) (wa ha : Option Addr) (wc hc : Nat) (w : World) (h : DuesIn w da l.ds) (hk : Dok l.ds) (hcal : CalIn w c wa ha) (hcu : l.tm.cur.size ≤ maxLen) : Calls Tryz.prog 45 #[(.agg #[.int .i64 (l).id, .int .i64 (l).ac, .int .i64 (l).st, .int .i64 (l).pp, .int .i64 (l).pi, .int .i64 (l).fee, .int .i64 (l).pen, .int .i64 (l).chg, .int .i64 (l).prov, .int .i64 (l).loss, .int .i64 (l).rcv, .int .i64 ((l).tm).me, .int .i64 ((l).tm).pr, .int .i64 ((l).tm).ppm, .int .i64 ((l).tm).stt, .int .i64 ((l).tm).ev, .int .i64 ((l).tm).ct, .int .i64 ((l).tm).ba, .int .i64 ((l).tm).mo, .int .i64 ((l).tm).pen, .int .i64 ((l).tm).fe, .string ((l).tm).cal, .string ((l).tm).cur, .slice da (l).ds.length dk, .slice ca (l).cs.length ck]), .int .i64 a, .int .i64 day, .int .i64 keep, (.agg #[.string (c).nm, .slice wa (c).wk.length wc, .slice ha (c).hol.length hc])] w (ExO l a day keep c w) := by
 have cw1 : Below w.heap.size w ((w.alloc (.cells #[.int .i64 (l).id, .int .i64 (l).ac, .int .i64 (l).st, .int .i64 (l).pp, .int .i64 (l).pi, .int .i64 (l).fee, .int .i64 (l).pen, .int .i64 (l).chg, .int .i64 (l).prov, .int .i64 (l).loss, .int .i64 (l).rcv, .int .i64 ((l).tm).me, .int .i64 ((l).tm).pr, .int .i64 ((l).tm).ppm, .int .i64 ((l).tm).stt, .int .i64 ((l).tm).ev, .int .i64 ((l).tm).ct, .int .i64 ((l).tm).ba, .int .i64 ((l).tm).mo, .int .i64 ((l).tm).pen, .int .i64 ((l).tm).fe, .string ((l).tm).cal, .string ((l).tm).cur, .slice da (l).ds.length dk, .slice ca (l).cs.length ck] 27)).alloc (.cells #[.string c.nm, .slice wa c.wk.length wc, .slice ha c.hol.length hc] 44)) := ((Below.refl _ _).alloc (Nat.le_refl _) _).alloc (by simp) _
 have k0 : Bk.Blk ((w.alloc (.cells #[.int .i64 (l).id, .int .i64 (l).ac, .int .i64 (l).st, .int .i64 (l).pp, .int .i64 (l).pi, .int .i64 (l).fee, .int .i64 (l).pen, .int .i64 (l).chg, .int .i64 (l).prov, .int .i64 (l).loss, .int .i64 (l).rcv, .int .i64 ((l).tm).me, .int .i64 ((l).tm).pr, .int .i64 ((l).tm).ppm, .int .i64 ((l).tm).stt, .int .i64 ((l).tm).ev, .int .i64 ((l).tm).ct, .int .i64 ((l).tm).ba, .int .i64 ((l).tm).mo, .int .i64 ((l).tm).pen, .int .i64 ((l).tm).fe, .string ((l).tm).cal, .string ((l).tm).cur, .slice da (l).ds.length dk, .slice ca (l).cs.length ck] 27)).alloc (.cells #[.string c.nm, .slice wa c.wk.length wc, .slice ha c.hol.length hc] 44)) w.heap.size _ 27 := Bk.Blk.nw20
 have kc : Bk.Blk ((w.alloc (.cells #[.int .i64 (l).id, .int .i64 (l).ac, .int .i64 (l).st, .int .i64 (l).pp, .int .i64 (l).pi, .int .i64 (l).fee, .int .i64 (l).pen, .int .i64 (l).chg, .int .i64 (l).prov, .int .i64 (l).loss, .int .i64 (l).rcv, .int .i64 ((l).tm).me, .int .i64 ((l).tm).pr, .int .i64 ((l).tm).ppm, .int .i64 ((l).tm).stt, .int .i64 ((l).tm).ev, .int .i64 ((l).tm).ct, .int .i64 ((l).tm).ba, .int .i64 ((l).tm).mo, .int .i64 ((l).tm).pen, .int .i64 ((l).tm).fe, .string ((l).tm).cal, .string ((l).tm).cur, .slice da (l).ds.length dk, .slice ca (l).cs.length ck] 27)).alloc (.cells #[.string c.nm, .slice wa c.wk.length wc, .slice ha c.hol.length hc] 44)) (w.heap.size + 1) _ 44 := Bk.Blk.nw21
 have HD := Lib.hid (fun W (hW : Below w.heap.size w W) => h.later hW)
 have HCL := Lib.hid (fun W (hW : Below w.heap.size w W) => hcal.later hW)
 have HDK := Lib.hid hk
 clear h hk hcal
 go_enter Tryz.func45, Tryz.ntmps45
 go_upto_region 1 with fail
 generalize ((w.alloc (.cells _ 27)).alloc (.cells _ 44)) = w1 at *
 go_wp2_with (first | (refine wpList_load_row rfl 27 _ rfl _ rfl _ _ _ _ k0 Tryz.underlying27 rfl (by kernel_rfl) ?_) | (refine load_guarded 27 _ rfl rfl _ rfl _ _ _ _ k0 Tryz.underlying27 rfl (by kernel_rfl) ?_))
 refine (usable_any l da ca dk ck day _ (HD.out _ cw1) HDK.out).mono ?_
 rintro e w2 ⟨rfl, hb⟩
 have cw2 := bl2 hb cw1
 replace k0 := k0.later hb
 replace kc := kc.later hb
 clear hb cw1
 by_cases hu : usE l day = 0
 ·obtain ⟨hop, hst⟩ := us_parts hu
  have ho := ok_iff.1 hop.1
  have HEX := Lib.hid (show exE l a day keep c = alE l a day keep c from if_neg (fun e => e hop))
  have HST := Lib.hid hst
  clear hop hst
  have g1 : (usE l day != 0) = false := by rw [hu]; rfl
  clear hu
  generalize usE l day = E at g1 ⊢
  go_wp2_with (first | (refine wpList_load_row rfl 27 _ rfl _ rfl _ _ _ _ k0 Tryz.underlying27 rfl (by kernel_rfl) ?_) | (refine load_guarded 27 _ rfl rfl _ rfl _ _ _ _ k0 Tryz.underlying27 rfl (by kernel_rfl) ?_))
  refine (Ln.rowed_any l da ca dk ck day _ (HD.out _ cw2)).mono ?_
  rintro e w3 ⟨ao, co, rfl, _, _, hb⟩
  have cw3 := bl2 hb cw2
  replace k0 := k0.later hb
  replace kc := kc.later hb
  clear hb cw2
  by_cases hpw : 0 < (powed l day).length
  ·have gp : (0 : Int) < ((powed l day).length : Int) := by omega
   have HF := Lib.hid (show exE l a day keep c = 17 from HEX.out.trans (alE_1 (.inr (fun e => by rw [e] at hpw; exact absurd hpw (by decide)))))
   go_wp2_with fail
   go_ret2
   exact exo_no HF.out (by decide) cw3
  ·have HO := Lib.hid (show ¬ (l.st ≠ 1 ∨ powed l day ≠ []) from fun e => e.elim (fun x => x HST.out) (fun x => x (List.eq_nil_of_length_eq_zero (by omega))))
   have gp : ¬ (0 : Int) < ((powed l day).length : Int) := by omega
   go_upto_region 6 with fail
   clear gp
   by_cases ha1 : a < 1
   ·have HF := Lib.hid (show exE l a day keep c = 1 from HEX.out.trans (alE_2 HO.out (.inl ha1)))
    go_wp2_with fail
    go_ret2
    exact exo_no HF.out (by decide) cw3
   ·by_cases ha2 : 1000000000000 < a
    ·have HF := Lib.hid (show exE l a day keep c = 1 from HEX.out.trans (alE_2 HO.out (.inr (.inl (fun e => by have := e.2; omega)))))
     go_wp2_with fail
     go_ret2
     exact exo_no HF.out (by decide) cw3
    ·by_cases hk1 : keep < 1
     ·have HF := Lib.hid (show exE l a day keep c = 1 from HEX.out.trans (alE_2 HO.out (.inr (.inr (by omega)))))
      go_wp2_with fail
      go_ret2
      exact exo_no HF.out (by decide) cw3
     ·by_cases hk3 : 2 < keep
      ·have HF := Lib.hid (show exE l a day keep c = 1 from HEX.out.trans (alE_2 HO.out (.inr (.inr (by omega)))))
       go_wp2_with fail
       go_ret2
       exact exo_no HF.out (by decide) cw3
      ·have HA := Lib.hid (show ¬ (a < 1 ∨ ¬ gd a ∨ ¬ (keep = 1 ∨ keep = 2)) from fun e => e.elim (fun x => by omega) (fun e => e.elim (fun x => x ⟨by omega, by omega⟩) (fun x => x (by omega))))
       by_cases hk2 : keep = 2
       ·have q2 : (keep == 2) = true := by rw [hk2]; rfl
        by_cases hme : l.tm.me = 1
        ·have gm : (l.tm.me != 1) = false := by rw [hme]; rfl
         have HK3 := Lib.hid (show ¬ (keep = 2 ∧ l.tm.me ≠ 1) from fun e => e.2 hme)
         clear hme hk2
         have l11 := k0.c11
         have HTR := Lib.hid (Ln.tm_range k0)
         go_wp2_with (first | (refine wpList_load_mid rfl 23 _ rfl w.heap.size 11 (by first | rfl | simp) [.int .i64 (l.tm).me, .int .i64 (l.tm).pr, .int .i64 (l.tm).ppm, .int .i64 (l.tm).stt, .int .i64 (l.tm).ev, .int .i64 (l.tm).ct, .int .i64 (l.tm).ba, .int .i64 (l.tm).mo, .int .i64 (l.tm).pen, .int .i64 (l.tm).fe, .string (l.tm).cal, .string (l.tm).cur] _ HTR.out Tryz.underlying23 rfl (by kernel_rfl) ?_) | (refine wpList_load_row rfl 44 _ rfl _ rfl _ _ _ _ kc Tryz.underlying44 rfl (by kernel_rfl) ?_))
         clear HTR l11
         refine (Kl.rskchk_any l.tm c wa ha wc hc _ (HCL.out _ cw3) hcu).mono ?_
         rintro e w4 ⟨rfl, hb⟩
         have cw4 := bl2 hb cw3
         replace k0 := k0.later hb
         clear hb cw3 kc
         by_cases hs : skE l.tm c ≠ 0
         ·have HF := Lib.hid (show exE l a day keep c = skE l.tm c from HEX.out.trans (alE_4 HO.out HA.out HK3.out hs))
          have HN := Lib.hid hs
          have g4 : (skE l.tm c != 0) = true := by simpa using hs
          clear hs
          generalize skE l.tm c = E4 at HF HN g4 ⊢
          go_wp2_with fail
          go_ret2
          exact exo_no HF.out HN.out cw4
         ·have HSK := Lib.hid hs
          have g4 : (skE l.tm c != 0) = false := by simpa using hs
          clear hs
          generalize skE l.tm c = E4 at g4 ⊢
          go_wp2_with (first | (refine wpList_load_row rfl 27 _ rfl _ rfl _ _ _ _ k0 Tryz.underlying27 rfl (by kernel_rfl) ?_) | (refine load_guarded 27 _ rfl rfl _ rfl _ _ _ _ k0 Tryz.underlying27 rfl (by kernel_rfl) ?_))
          refine (rfee35_any l da ca dk ck a _ (by unfold Wm.I64; omega) (fe_i64 ho)).mono ?_
          rintro e w5 ⟨rfl, hb⟩
          have cw5 := bl2 hb cw4
          replace k0 := k0.later hb
          clear hb cw4
          have hfe := fe_ok ho (a := a) (by omega) (by omega)
          have hpd : paid l a = a - feV l a := rfl
          rw [hfe.1]
          obtain ⟨F, hF⟩ : ∃ F, F = feV l a := ⟨_, rfl⟩
          rw [← hF] at hfe hpd ⊢
          have HFF := Lib.hid hF
          have HPD := Lib.hid hpd
          clear hF hpd
          have s1 : IntKind.i64.wrap (a - F) = a - F := by rw [IntKind.wrap_i64]; omega
          by_cases h5 : a - F < 1
          ·have HF := Lib.hid (show exE l a day keep c = 18 from HEX.out.trans (alE_5 HO.out HA.out HK3.out HSK.out (.inl (by rw [HPD.out]; exact h5))))
           go_wp2_with fail
           go_ret2
           exact exo_no HF.out (by decide) cw5
          ·have hv := view ho day
           have v1 := hv.P2
           have hpp := ho.pp
           have hpp' := ho.pp'
           clear hv
           have g5 : decide (a - F < 1) = false := decide_eq_false h5
           have H5 := Lib.hid h5
           clear h5
           go_wp2_with (first | (refine wpList_load_row rfl 27 _ rfl _ rfl _ _ _ _ k0 Tryz.underlying27 rfl (by kernel_rfl) ?_) | (refine load_guarded 27 _ rfl rfl _ rfl _ _ _ _ k0 Tryz.underlying27 rfl (by kernel_rfl) ?_))
           refine (Ln.rout_any l da ca dk ck _ (HD.out _ cw5) HDK.out).mono ?_
           rintro e w6 ⟨rfl, hb⟩
           have cw6 := bl2 hb cw5
           replace k0 := k0.later hb
           clear hb cw5
           rw [show wrap64 (P l.ds - l.pp) = P l.ds - l.pp by unfold wrap64; omega]
           obtain ⟨O, hO⟩ : ∃ O, O = P l.ds - l.pp := ⟨_, rfl⟩
           rw [← hO]
           have HOO := Lib.hid hO
           clear hO
           by_cases h6 : O ≤ a - F
           ·have HF := Lib.hid (show exE l a day keep c = 18 from HEX.out.trans (alE_5 HO.out HA.out HK3.out HSK.out (.inr (by rw [HPD.out, ← HOO.out]; exact h6))))
            go_wp2_with fail
            go_ret2
            exact exo_no HF.out (by decide) cw6
           ·have HF := Lib.hid (show exE l a day keep c = 0 from HEX.out.trans (alE_0 HO.out HA.out HK3.out HSK.out (fun e => e.elim (fun x => by have h := H5.out; have hp := HPD.out; omega) (fun x => by have hp := HPD.out; have ho_ := HOO.out; omega))))
            go_wp2_with fail
            go_ret2
            exact exo_ok HF.out HFF.out.symm cw6
        ·have gm : (l.tm.me != 1) = true := by simpa using hme
         have HM3 := Lib.hid (show keep = 2 ∧ l.tm.me ≠ 1 from ⟨hk2, hme⟩)
         clear hme hk2
         have l11 := k0.c11
         have HF := Lib.hid (show exE l a day keep c = 3 from HEX.out.trans (alE_3 HO.out HA.out HM3.out))
         go_wp2_with fail
         go_ret2
         exact exo_no HF.out (by decide) cw3
       ·have q2 : (keep == 2) = false := by simpa using hk2
        have HK3 := Lib.hid (show ¬ (keep = 2 ∧ l.tm.me ≠ 1) from fun e => hk2 e.1)
        clear hk2
        have l11 := k0.c11
        have HTR := Lib.hid (Ln.tm_range k0)
        go_wp2_with (first | (refine wpList_load_mid rfl 23 _ rfl w.heap.size 11 (by first | rfl | simp) [.int .i64 (l.tm).me, .int .i64 (l.tm).pr, .int .i64 (l.tm).ppm, .int .i64 (l.tm).stt, .int .i64 (l.tm).ev, .int .i64 (l.tm).ct, .int .i64 (l.tm).ba, .int .i64 (l.tm).mo, .int .i64 (l.tm).pen, .int .i64 (l.tm).fe, .string (l.tm).cal, .string (l.tm).cur] _ HTR.out Tryz.underlying23 rfl (by kernel_rfl) ?_) | (refine wpList_load_row rfl 44 _ rfl _ rfl _ _ _ _ kc Tryz.underlying44 rfl (by kernel_rfl) ?_))
        clear HTR l11
        refine (Kl.rskchk_any l.tm c wa ha wc hc _ (HCL.out _ cw3) hcu).mono ?_
        rintro e w4 ⟨rfl, hb⟩
        have cw4 := bl2 hb cw3
        replace k0 := k0.later hb
        clear hb cw3 kc
        by_cases hs : skE l.tm c ≠ 0
        ·have HF := Lib.hid (show exE l a day keep c = skE l.tm c from HEX.out.trans (alE_4 HO.out HA.out HK3.out hs))
         have HN := Lib.hid hs
         have g4 : (skE l.tm c != 0) = true := by simpa using hs
         clear hs
         generalize skE l.tm c = E4 at HF HN g4 ⊢
         go_wp2_with fail
         go_ret2
         exact exo_no HF.out HN.out cw4
        ·have HSK := Lib.hid hs
         have g4 : (skE l.tm c != 0) = false := by simpa using hs
         clear hs
         generalize skE l.tm c = E4 at g4 ⊢
         go_wp2_with (first | (refine wpList_load_row rfl 27 _ rfl _ rfl _ _ _ _ k0 Tryz.underlying27 rfl (by kernel_rfl) ?_) | (refine load_guarded 27 _ rfl rfl _ rfl _ _ _ _ k0 Tryz.underlying27 rfl (by kernel_rfl) ?_))
         refine (rfee35_any l da ca dk ck a _ (by unfold Wm.I64; omega) (fe_i64 ho)).mono ?_
         rintro e w5 ⟨rfl, hb⟩
         have cw5 := bl2 hb cw4
         replace k0 := k0.later hb
         clear hb cw4
         have hfe := fe_ok ho (a := a) (by omega) (by omega)
         have hpd : paid l a = a - feV l a := rfl
         rw [hfe.1]
         obtain ⟨F, hF⟩ : ∃ F, F = feV l a := ⟨_, rfl⟩
         rw [← hF] at hfe hpd ⊢
         have HFF := Lib.hid hF
         have HPD := Lib.hid hpd
         clear hF hpd
         have s1 : IntKind.i64.wrap (a - F) = a - F := by rw [IntKind.wrap_i64]; omega
         by_cases h5 : a - F < 1
         ·have HF := Lib.hid (show exE l a day keep c = 18 from HEX.out.trans (alE_5 HO.out HA.out HK3.out HSK.out (.inl (by rw [HPD.out]; exact h5))))
          go_wp2_with fail
          go_ret2
          exact exo_no HF.out (by decide) cw5
         ·have hv := view ho day
          have v1 := hv.P2
          have hpp := ho.pp
          have hpp' := ho.pp'
          clear hv
          have g5 : decide (a - F < 1) = false := decide_eq_false h5
          have H5 := Lib.hid h5
          clear h5
          go_wp2_with (first | (refine wpList_load_row rfl 27 _ rfl _ rfl _ _ _ _ k0 Tryz.underlying27 rfl (by kernel_rfl) ?_) | (refine load_guarded 27 _ rfl rfl _ rfl _ _ _ _ k0 Tryz.underlying27 rfl (by kernel_rfl) ?_))
          refine (Ln.rout_any l da ca dk ck _ (HD.out _ cw5) HDK.out).mono ?_
          rintro e w6 ⟨rfl, hb⟩
          have cw6 := bl2 hb cw5
          replace k0 := k0.later hb
          clear hb cw5
          rw [show wrap64 (P l.ds - l.pp) = P l.ds - l.pp by unfold wrap64; omega]
          obtain ⟨O, hO⟩ : ∃ O, O = P l.ds - l.pp := ⟨_, rfl⟩
          rw [← hO]
          have HOO := Lib.hid hO
          clear hO
          by_cases h6 : O ≤ a - F
          ·have HF := Lib.hid (show exE l a day keep c = 18 from HEX.out.trans (alE_5 HO.out HA.out HK3.out HSK.out (.inr (by rw [HPD.out, ← HOO.out]; exact h6))))
           go_wp2_with fail
           go_ret2
           exact exo_no HF.out (by decide) cw6
          ·have HF := Lib.hid (show exE l a day keep c = 0 from HEX.out.trans (alE_0 HO.out HA.out HK3.out HSK.out (fun e => e.elim (fun x => by have h := H5.out; have hp := HPD.out; omega) (fun x => by have hp := HPD.out; have ho_ := HOO.out; omega))))
           go_wp2_with fail
           go_ret2
           exact exo_ok HF.out HFF.out.symm cw6
 ·have HF := Lib.hid (exE_us (a := a) (keep := keep) (c := c) hu)
  have HN := Lib.hid hu
  have g1 : (usE l day != 0) = true := by simpa using hu
  clear hu
  generalize usE l day = E at HF HN g1 ⊢
  go_wp2_with fail
  go_ret2
  exact exo_no HF.out HN.out cw2
end Go.Proofs.YtaanicginfjgdaaGreatDoor.Pp
