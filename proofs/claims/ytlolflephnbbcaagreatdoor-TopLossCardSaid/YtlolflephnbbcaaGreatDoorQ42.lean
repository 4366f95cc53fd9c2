/-
  Parts of the proof: Sk4.
-/
import Derived.Test.YtlolflephnbbcaaGreatDoorQ41
namespace Go.Proofs.YtlolflephnbbcaaGreatDoor.Kl
open Go Go.RowKit
open Go.Proofs.YtlolflephnbbcaaGreatDoor
open Go.Proofs.YtlolflephnbbcaaGreatDoor.Cal
open Go.Proofs.YtlolflephnbbcaaGreatDoor.Sr
open Go.Proofs.YtlolflephnbbcaaGreatDoor.Ln (Tm Du DuesIn)
open Go.Proofs.YtlolflephnbbcaaGreatDoor.An (intr intr_bd Least enough POut pOk)
set_option linter.unusedSimpArgs false
set_option linter.unusedVariables false
set_option maxRecDepth 100000

def BlOut (t : Tm) (c : Cl) (w : World) (e : Ending) (w' : World) : Prop := ∃ a cap, e = .returned (.tuple #[.slice a (blV t c).length cap, .int .i64 (blE t c)]) ∧ DuesIn w' a (blV t c) ∧ (∀ ad, a = some ad → w.heap.size ≤ ad.block) ∧ Below w.heap.size w w'
theorem blOut_no {t : Tm} {c : Cl} {w w' : World} {E : Int} (h : blE t c = E) (h0 : E ≠ 0) (hb : Below w.heap.size w w') : BlOut t c w (.returned (.tuple #[.slice none 0 0, .int .i64 E])) w' := by
 have hv : blV t c = [] := if_neg (by rw [h]; exact h0)
 refine ⟨none, 0, ?_, ?_, (fun ad h => by cases h), hb⟩
 ·rw [hv, h]; rfl
 ·rw [hv]; exact ⟨by simp, fun h => by simp at h⟩
theorem blOut_ok {t : Tm} {c : Cl} {w w' : World} {v : Value} (hct : t.ct ≤ 120) (h : blE t c = 0) (hv : DV w' w.heap.size v (bList t c t.ct.toNat)) (hb : Below w.heap.size w w') : BlOut t c w (.returned (.tuple #[v, .int .i64 0])) w' := by
 have he : blV t c = bList t c t.ct.toNat := if_pos h
 obtain ⟨a, cap, rfl, hr, hf⟩ := hv.row
 refine ⟨a, cap, ?_, ?_, hf, hb⟩
 ·rw [he, h]
 ·rw [he]
  refine Ln.dues_of_row ?_ hr
  rw [bList_len]; omega
theorem BlOut.up {t : Tm} {c : Cl} {w w3 w' : World} {e : Ending} (h : BlOut t c w3 e w') (hb : Below w.heap.size w w3) : BlOut t c w e w' := by
 obtain ⟨a, cap, h1, h2, h3, h4⟩ := h
 exact ⟨a, cap, h1, h2, fun ad had => Nat.le_trans hb.size (h3 ad had), bl2 h4 hb⟩
theorem blE_days {t : Tm} {c : Cl} (h : daysE t c ≠ 0) : blE t c = daysE t c := if_neg h
theorem blE_pay {t : Tm} {c : Cl} (h : daysE t c = 0) : blE t c = payE t := if_pos h
theorem days_facts {t : Tm} {c : Cl} (h : daysE t c = 0) : TOk t ∧ daysV t c = dList t c t.ct.toNat := by
 refine ⟨?_, if_pos h⟩
 unfold daysE at h
 split at h
 ·rename_i hs; exact (sk_ok hs).1
 ·rename_i hs; exact absurd h hs
theorem payE_no {t : Tm} (h : annB t = false) : payE t = 0 ∧ payV t = 0 := by unfold payE payV; rw [h]; exact ⟨rfl, rfl⟩
theorem pay_ways {t : Tm} (ht : TOk t) (ha : annB t = true) {e : Ending} (h : POut t.pr t.ppm t.ev t.mo t.ct t.ba e) : ∃ v E : Int, e = .returned (.tuple #[.int .i64 v, .int .i64 E]) ∧ payE t = E ∧ ((E = 0 ∧ v = payV t) ∨ (E ≠ 0)) := by
 obtain ⟨v, E, he, h⟩ := h
 have hok : pOk t.pr t.ppm t.ev t.mo t.ct t.ba := by
  have h1 := ht.pr; have h2 := ht.ba0; have h3 := ht.ba1
  exact ⟨⟨⟨by omega, by omega⟩, ht.ppm, ht.ev, ht.mo⟩, ht.ct, h2, by omega⟩
 refine ⟨v, E, he, ?_⟩
 rcases h with ⟨hn, _⟩ | ⟨_, h1, h2, h3⟩ | ⟨_, h1, h2, h3⟩
 ·exact absurd hok hn
 ·refine ⟨?_, .inl ⟨h3, ?_⟩⟩
  ·unfold payE pyE; rw [ha, if_pos rfl, if_pos h1, h3]
  ·unfold payV; rw [ha, if_pos rfl, pyV_eq h2]
 ·refine ⟨?_, .inr (by rw [h3]; decide)⟩
  unfold payE pyE
  rw [ha, if_pos rfl, h1, h3]
  rfl
theorem payV_bd {t : Tm} (ht : TOk t) (he : payE t = 0) : 0 ≤ payV t ∧ payV t ≤ 1000000000000 := by
 cases ha : annB t
 ·rw [(payE_no ha).2]; omega
 ·exact ((ht.pay he).2 ha).1
theorem step_nums {t : Tm} (ht : TOk t) (he : payE t = 0) (k : Nat) : An.Ok (lf t (payV t) k) t.ppm t.ev t.mo ∧ (0 ≤ intr (t.ppm * t.ev) t.mo (lf t (payV t) k) ∧ intr (t.ppm * t.ev) t.mo (lf t (payV t) k) ≤ 1000000000000) ∧ (0 ≤ prt t (payV t) k (lf t (payV t) k) ∧ prt t (payV t) k (lf t (payV t) k) ≤ lf t (payV t) k) := by
 have hb := lf_bd ht (ht.pay he).1 k
 have hpr := ht.pr
 exact ⟨⟨⟨hb.1.1, by omega⟩, ht.ppm, ht.ev, ht.mo⟩, intr_bd ht.rate hb.1.1 (by omega), hb.2⟩
theorem made_dv {w' : World} {B n g : Nat} (h : w'.ownsRow B 47 4 (.slice (some ⟨g, 0, none⟩) 0 n) 0 []) : DV w' B (.slice (some ⟨g, 0, none⟩) 0 n) [] := ⟨h, _, _, rfl⟩
def BdR (w : World) (t : Tm) (c : Cl) (g : Nat) (s9 s10 s59 : Value) (W : World) : Prop := ∃ k : Nat, k + g = t.ct.toNat ∧ s59 = .int .i64 k ∧ s9 = .int .i64 (lf t (payV t) k) ∧ DV W w.heap.size s10 (bList t c k) ∧ Below w.heap.size w W
def BdS (w : World) (t : Tm) (c : Cl) (g : Nat) (s9 s10 s11 : Value) (W : World) : Prop := ∃ k : Nat, k + g = t.ct.toNat ∧ s11 = .int .i64 ((k : Int) + 1) ∧ s10 = .int .i64 (lf t (payV t) k) ∧ DV W w.heap.size s9 (bList t c k) ∧ Below w.heap.size w W
set_option maxHeartbeats 32000000 in
theorem build_any (t : Tm) (c : Cl) (wa ha : Option Addr) (wc hc : Nat) (w : World) (h : CalIn w c wa ha) (hcu : t.cur.size ≤ maxLen) (hs : Rd.Stp w) : Calls Tryz.prog 14 #[(.agg #[.int .i64 (t).me, .int .i64 (t).pr, .int .i64 (t).ppm, .int .i64 (t).stt, .int .i64 (t).ev, .int .i64 (t).ct, .int .i64 (t).ba, .int .i64 (t).mo, .int .i64 (t).pen, .int .i64 (t).fe, .string (t).cal, .string (t).cur]), (.agg #[.string (c).nm, .slice wa (c).wk.length wc, .slice ha (c).hol.length hc])] w (BlOut t c w) := by
 have cw : Below w.heap.size w ((w.alloc (.cells #[.int .i64 (t).me, .int .i64 (t).pr, .int .i64 (t).ppm, .int .i64 (t).stt, .int .i64 (t).ev, .int .i64 (t).ct, .int .i64 (t).ba, .int .i64 (t).mo, .int .i64 (t).pen, .int .i64 (t).fe, .string (t).cal, .string (t).cur] 23)).alloc (.cells #[.string c.nm, .slice wa c.wk.length wc, .slice ha c.hol.length hc] 26)) := ((Below.refl _ _).alloc (Nat.le_refl _) _).alloc (by simp) _
 have kt : Bk.Blk ((w.alloc (.cells #[.int .i64 (t).me, .int .i64 (t).pr, .int .i64 (t).ppm, .int .i64 (t).stt, .int .i64 (t).ev, .int .i64 (t).ct, .int .i64 (t).ba, .int .i64 (t).mo, .int .i64 (t).pen, .int .i64 (t).fe, .string (t).cal, .string (t).cur] 23)).alloc (.cells #[.string c.nm, .slice wa c.wk.length wc, .slice ha c.hol.length hc] 26)) w.heap.size _ 23 := Bk.Blk.nw20
 have kc : Bk.Blk ((w.alloc (.cells #[.int .i64 (t).me, .int .i64 (t).pr, .int .i64 (t).ppm, .int .i64 (t).stt, .int .i64 (t).ev, .int .i64 (t).ct, .int .i64 (t).ba, .int .i64 (t).mo, .int .i64 (t).pen, .int .i64 (t).fe, .string (t).cal, .string (t).cur] 23)).alloc (.cells #[.string c.nm, .slice wa c.wk.length wc, .slice ha c.hol.length hc] 26)) (w.heap.size + 1) _ 26 := Bk.Blk.nw21
 have hi := h.later cw
 have hS := hs.of cw
 clear h hs
 go_enter Tryz.func14, Tryz.ntmps14
 go_upto_region 1 with fail
 generalize ((w.alloc (.cells _ 23)).alloc (.cells _ 26)) = w1 at *
 have cw1 := cw
 clear cw
 have l0 := kt.c0
 have l1 := kt.c1
 have l2 := kt.c2
 have l3 := kt.c3
 have l4 := kt.c4
 have l5 := kt.c5
 have l6 := kt.c6
 have l7 := kt.c7
 have l8 := kt.c8
 have l9 := kt.c9
 have l10 := kt.c10
 have l11 := kt.c11
 have m0 := kc.c0
 have m1 := kc.c1
 have m2 := kc.c2
 go_wp2_with fail
 clear l0 l1 l2 l3 l4 l5 l6 l7 l8 l9 l10 l11 m0 m1 m2
 refine (days_any t c wa ha wc hc _ hi hcu).mono ?_
 rintro e w2 ⟨da, dcap, rfl, hin, _, hb⟩
 replace kt := kt.later hb
 replace kc := kc.later hb
 replace hi := hi.later hb
 replace hS := hS.of hb
 have cw2 := bl2 hb cw1
 clear hb cw1
 by_cases he : daysE t c ≠ 0
 ·have HF := Lib.hid (blE_days he)
  have HN := Lib.hid he
  have g1 : (daysE t c != 0) = true := by simpa using he
  clear he hin
  generalize daysE t c = E at HF HN g1 ⊢
  go_wp2_with fail
  go_ret2
  exact blOut_no HF.out HN.out cw2
 ·have he0 : daysE t c = 0 := Classical.byContradiction he
  obtain ⟨htk, hdl⟩ := days_facts he0
  rw [hdl] at hin
  rw [hdl]
  have hdn := dList_len t c t.ct.toNat
  obtain ⟨n, hnn⟩ : ∃ n, n = t.ct.toNat := ⟨_, rfl⟩
  have hpr := htk.pr
  have hppm := htk.ppm
  have hev := htk.ev
  have hct := htk.ct
  have hmo := htk.mo
  have HK := Lib.hid htk
  have HE := Lib.hid (blE_pay he0)
  have g1 : (daysE t c != 0) = false := by rw [he0]; rfl
  have hme := htk.me
  clear he htk hdl
  generalize daysE t c = E at g1 ⊢
  clear he0
  have HDG := Lib.hid (fun (k : Nat) (h : k < t.ct.toNat) => dList_get t c (n := t.ct.toNat) h)
  generalize dList t c t.ct.toNat = dl at *
  rw [← hnn] at hdn
  rw [hdn]
  have hn1 : (n : Int) ≤ t.ct := by omega
  have hn2 : t.ct ≤ n := by omega
  clear hnn
  by_cases h1 : t.me = 1
  ·have g2 : (t.me == 1) = true := by simp [h1]
   clear h1
   have l0 := kt.c0
   have l1 := kt.c1
   have l2 := kt.c2
   have l4 := kt.c4
   have l5 := kt.c5
   have l6 := kt.c6
   have l7 := kt.c7
   go_wp2_with fail
   clear l0 l1 l2 l4 l5 l6 l7
   refine (An.pay_any t.pr t.ppm t.ev t.mo t.ct t.ba _ hS).mono ?_
   rintro e w3 ⟨hpo, hb⟩
   replace kt := kt.later hb
   replace hS := hS.of hb
   replace hin := ints_later hb hin
   have cw3 := bl2 hb cw2
   clear hb cw2
   obtain ⟨v, E', rfl, hpe, hv⟩ := pay_ways HK.out (show annB t = true by unfold annB; rw [g2]; rfl) hpo
   clear hpo
   have HPE := Lib.hid hpe
   clear hpe
   rcases hv with ⟨rfl, rfl⟩ | hv
   ·have g5 : ((0 : Int) != 0) = false := rfl
    have hpb := payV_bd HK.out HPE.out
    have l1 := kt.c1
    have hz3 := Nat.le_refl w3.heap.size
    obtain ⟨ti, hi1, hi2, hi3, hi4⟩ := info_parts Ln.due_info
    have HI := Lib.hid (And.intro hi1 (And.intro hi2 (And.intro hi3 hi4)))
    clear hi1 hi2 hi3
    go_wp2_with (at_make; go_loud (refine wpList_make_own _ rfl _ _ _ rfl w3.heap.size 47 ti _ 4 Tryz.underlying29 HI.out.1 HI.out.2.1 HI.out.2.2.1 .i64 .i64 _ n rfl rfl rfl (by rw [hi4]; omega) (by unfold maxLen; omega) hz3 ?_); intro w4 hown hgr)
    have hdv0 := made_dv hown
    have hbm : Below w3.heap.size w3 w4 := (Below.refl _ _).grown hgr (Nat.le_refl _) (fun j hj => by cases hj)
    clear hown hgr hi4 HI l1
    generalize (Value.slice (some ⟨w3.heap.size, 0, none⟩) 0 n) = v0 at *
    go_wp2_with fail
    go_loopg [9, 10, 59] t.ct.toNat (BdR w3 t c)
    case atStart => exact ⟨0, by omega, rfl, rfl, hdv0, hbm⟩
    case round =>
     clear hdv0 hbm
     obtain ⟨k, hk, rfl, rfl, hdv, cwr⟩ := hrel
     replace kt := kt.later cwr
     replace hin := ints_later cwr hin
     replace hS := hS.of cwr
     by_cases hlt : k < t.ct.toNat
     ·have hj : k < t.ct.toNat := by omega
      obtain ⟨hok, hib, hqb⟩ := step_nums HK.out HPE.out k
      have hbl := bList_len t c k
      have hdd := HDG.out k hj
      generalize hX1 : prt t (payV t) k (lf t (payV t) k) = pn at hqb
      generalize hX2 : intr (t.ppm * t.ev) t.mo (lf t (payV t) k) = it at hib
      generalize hX3 : lf t (payV t) k = left at hqb hok ⊢
      generalize hX4 : bList t c k = bl at hdv hbl
      generalize hX5 : dV t c ((k : Int) + 1) = dy at hdd
      have hlb := hok.1
      have HBS := Lib.hid (show bList t c (k + 1) = bl ++ [⟨(k : Int) + 1, dy, pn, it⟩] by rw [bList_succ, hX4]; unfold duAt; rw [hX1, hX2, hX5])
      have HLF := Lib.hid (show lf t (payV t) (k + 1) = left - pn by rw [lf_succ, hX1, hX3])
      have HPQ := Lib.hid (fun (h : k + 1 < t.ct.toNat) => show pn = pq t (payV t) it k left by rw [← hX1, prt_pq h, hX2, hX3])
      have HPL := Lib.hid (fun (h : ¬ k + 1 < t.ct.toNat) => show pn = left by rw [← hX1, prt_last h, hX3])
      have HIT := Lib.hid (show intr (t.ppm * t.ev) t.mo left = it by rw [← hX3, hX2])
      have HOK := Lib.hid hok
      clear hok hX1 hX2 hX3 hX4 hX5
      obtain ⟨bb, off, hae, hcc⟩ := hin.2 (by omega)
      have c0 := hcc k (by omega)
      rw [hdd] at c0
      clear hcc
      subst hae
      have l2 := kt.c2
      have l4 := kt.c4
      have l7 := kt.c7
      go_wp2_with fail
      clear l2 l4 l7
      clear c0
      refine (An.inter_yes left t.ppm t.ev t.mo _ hS HOK.out).mono ?_
      rintro e w5 ⟨rfl, hb⟩
      replace kt := kt.later hb
      replace hS := hS.of hb
      replace hdv := hdv.later hb
      replace hin := ints_later hb hin
      have cw5 := bl2 hb cwr
      clear hb cwr
      rw [HIT.out]
      by_cases hn : k + 1 < t.ct.toNat
      ·have HPQ' := Lib.hid (HPQ.out hn)
       have hn' : (k : Int) + 1 < t.ct := by omega
       have l0 := kt.c0
       have l1 := kt.c1
       have l2 := kt.c2
       have l3 := kt.c3
       have l4 := kt.c4
       have l5 := kt.c5
       have l6 := kt.c6
       have l7 := kt.c7
       have l8 := kt.c8
       have l9 := kt.c9
       have l10 := kt.c10
       have l11 := kt.c11
       go_wp2_with fail
       clear l0 l1 l2 l3 l4 l5 l6 l7 l8 l9 l10 l11
       refine (prin_any t k left it (payV t) _ hpr.1 hpr.2 hct.1 hct.2 (by omega) hpb.1 hpb.2 hib.1 hib.2).mono ?_
       rintro e w6 ⟨rfl, hb⟩
       replace kt := kt.later hb
       replace hS := hS.of hb
       replace hdv := hdv.later hb
       replace hin := ints_later hb hin
       have cw6 := bl2 hb cw5
       clear hb cw5
       rw [← HPQ'.out]
       clear HPQ'
       have hwl : wrap64 (left - pn) = left - pn := Ln.wrap_in (by omega) (by omega)
       have HWL := Lib.hid hwl
       clear hwl
       have hzz := cw6.size
       go_wp2_with (at_builtin; refine app_due ⟨(k : Int) + 1, dy, pn, it⟩ rfl _ _ rfl rfl hdv rfl (by omega) hzz ?_)
       intro v' w7 hdv' hgr hat
       have cw7 := grown_below cw6 hdv hgr
       clear hgr hat hdv cw6 hzz
       have HDV := Lib.hid hdv'
       clear hdv'
       go_wp2_with fail
       go_roundg (gk - 1)
       case measure => omega
       case rel => exact ⟨k + 1, by omega, by go_num, An.int_eq (by have hq := HLF.out; have hq2 := HWL.out; omega), by rw [HBS.out]; exact HDV.out, cw7⟩
      ·have hpe := HPL.out hn
       subst hpe
       have hn' : ¬ ((k : Int) + 1 < t.ct) := by omega
       have hwl : wrap64 (pn - pn) = pn - pn := Ln.wrap_in (by omega) (by omega)
       have HWL := Lib.hid hwl
       clear hwl
       have hzz := cw5.size
       go_wp2_with (at_builtin; refine app_due ⟨(k : Int) + 1, dy, pn, it⟩ rfl _ _ rfl rfl hdv rfl (by omega) hzz ?_)
       intro v' w7 hdv' hgr hat
       have cw7 := grown_below cw5 hdv hgr
       clear hgr hat hdv cw5 hzz
       have HDV := Lib.hid hdv'
       clear hdv'
       go_wp2_with fail
       go_roundg (gk - 1)
       case measure => omega
       case rel => exact ⟨k + 1, by omega, by go_num, An.int_eq (by have hq := HLF.out; have hq2 := HWL.out; omega), by rw [HBS.out]; exact HDV.out, cw7⟩
     ·have hkn : k = t.ct.toNat := by omega
      subst hkn
      have HF := Lib.hid (HE.out.trans HPE.out)
      have HDV := Lib.hid hdv
      clear hdv
      have l5 := kt.c5
      go_wp2_with fail
      go_ret2
      exact (blOut_ok hct.2 HF.out HDV.out cwr).up cw3
   ·have HF := Lib.hid (HE.out.trans HPE.out)
    have HN := Lib.hid hv
    have g5 : (E' != 0) = true := by simpa using hv
    clear hv
    go_wp2_with fail
    go_ret2
    exact blOut_no HF.out HN.out cw3
  ·by_cases h4 : t.me = 4
   ·have g2 : (t.me == 1) = false := by simp [h1]
    have g3 : (t.me == 4) = true := by simp [h4]
    clear h1 h4
    have l0 := kt.c0
    have l1 := kt.c1
    have l2 := kt.c2
    have l4 := kt.c4
    have l5 := kt.c5
    have l6 := kt.c6
    have l7 := kt.c7
    go_wp2_with fail
    clear l0 l1 l2 l4 l5 l6 l7
    refine (An.pay_any t.pr t.ppm t.ev t.mo t.ct t.ba _ hS).mono ?_
    rintro e w3 ⟨hpo, hb⟩
    replace kt := kt.later hb
    replace hS := hS.of hb
    replace hin := ints_later hb hin
    have cw3 := bl2 hb cw2
    clear hb cw2
    obtain ⟨v, E', rfl, hpe, hv⟩ := pay_ways HK.out (show annB t = true by unfold annB; rw [g2, g3]; rfl) hpo
    clear hpo
    have HPE := Lib.hid hpe
    clear hpe
    rcases hv with ⟨rfl, rfl⟩ | hv
    ·have g5 : ((0 : Int) != 0) = false := rfl
     have hpb := payV_bd HK.out HPE.out
     have l1 := kt.c1
     have hz3 := Nat.le_refl w3.heap.size
     obtain ⟨ti, hi1, hi2, hi3, hi4⟩ := info_parts Ln.due_info
     have HI := Lib.hid (And.intro hi1 (And.intro hi2 (And.intro hi3 hi4)))
     clear hi1 hi2 hi3
     go_wp2_with (at_make; go_loud (refine wpList_make_own _ rfl _ _ _ rfl w3.heap.size 47 ti _ 4 Tryz.underlying29 HI.out.1 HI.out.2.1 HI.out.2.2.1 .i64 .i64 _ n rfl rfl rfl (by rw [hi4]; omega) (by unfold maxLen; omega) hz3 ?_); intro w4 hown hgr)
     have hdv0 := made_dv hown
     have hbm : Below w3.heap.size w3 w4 := (Below.refl _ _).grown hgr (Nat.le_refl _) (fun j hj => by cases hj)
     clear hown hgr hi4 HI l1
     generalize (Value.slice (some ⟨w3.heap.size, 0, none⟩) 0 n) = v0 at *
     go_wp2_with fail
     go_loopg [9, 10, 59] t.ct.toNat (BdR w3 t c)
     case atStart => exact ⟨0, by omega, rfl, rfl, hdv0, hbm⟩
     case round =>
      clear hdv0 hbm
      obtain ⟨k, hk, rfl, rfl, hdv, cwr⟩ := hrel
      replace kt := kt.later cwr
      replace hin := ints_later cwr hin
      replace hS := hS.of cwr
      by_cases hlt : k < t.ct.toNat
      ·have hj : k < t.ct.toNat := by omega
       obtain ⟨hok, hib, hqb⟩ := step_nums HK.out HPE.out k
       have hbl := bList_len t c k
       have hdd := HDG.out k hj
       generalize hX1 : prt t (payV t) k (lf t (payV t) k) = pn at hqb
       generalize hX2 : intr (t.ppm * t.ev) t.mo (lf t (payV t) k) = it at hib
       generalize hX3 : lf t (payV t) k = left at hqb hok ⊢
       generalize hX4 : bList t c k = bl at hdv hbl
       generalize hX5 : dV t c ((k : Int) + 1) = dy at hdd
       have hlb := hok.1
       have HBS := Lib.hid (show bList t c (k + 1) = bl ++ [⟨(k : Int) + 1, dy, pn, it⟩] by rw [bList_succ, hX4]; unfold duAt; rw [hX1, hX2, hX5])
       have HLF := Lib.hid (show lf t (payV t) (k + 1) = left - pn by rw [lf_succ, hX1, hX3])
       have HPQ := Lib.hid (fun (h : k + 1 < t.ct.toNat) => show pn = pq t (payV t) it k left by rw [← hX1, prt_pq h, hX2, hX3])
       have HPL := Lib.hid (fun (h : ¬ k + 1 < t.ct.toNat) => show pn = left by rw [← hX1, prt_last h, hX3])
       have HIT := Lib.hid (show intr (t.ppm * t.ev) t.mo left = it by rw [← hX3, hX2])
       have HOK := Lib.hid hok
       clear hok hX1 hX2 hX3 hX4 hX5
       obtain ⟨bb, off, hae, hcc⟩ := hin.2 (by omega)
       have c0 := hcc k (by omega)
       rw [hdd] at c0
       clear hcc
       subst hae
       have l2 := kt.c2
       have l4 := kt.c4
       have l7 := kt.c7
       go_wp2_with fail
       clear l2 l4 l7
       clear c0
       refine (An.inter_yes left t.ppm t.ev t.mo _ hS HOK.out).mono ?_
       rintro e w5 ⟨rfl, hb⟩
       replace kt := kt.later hb
       replace hS := hS.of hb
       replace hdv := hdv.later hb
       replace hin := ints_later hb hin
       have cw5 := bl2 hb cwr
       clear hb cwr
       rw [HIT.out]
       by_cases hn : k + 1 < t.ct.toNat
       ·have HPQ' := Lib.hid (HPQ.out hn)
        have hn' : (k : Int) + 1 < t.ct := by omega
        have l0 := kt.c0
        have l1 := kt.c1
        have l2 := kt.c2
        have l3 := kt.c3
        have l4 := kt.c4
        have l5 := kt.c5
        have l6 := kt.c6
        have l7 := kt.c7
        have l8 := kt.c8
        have l9 := kt.c9
        have l10 := kt.c10
        have l11 := kt.c11
        go_wp2_with fail
        clear l0 l1 l2 l3 l4 l5 l6 l7 l8 l9 l10 l11
        refine (prin_any t k left it (payV t) _ hpr.1 hpr.2 hct.1 hct.2 (by omega) hpb.1 hpb.2 hib.1 hib.2).mono ?_
        rintro e w6 ⟨rfl, hb⟩
        replace kt := kt.later hb
        replace hS := hS.of hb
        replace hdv := hdv.later hb
        replace hin := ints_later hb hin
        have cw6 := bl2 hb cw5
        clear hb cw5
        rw [← HPQ'.out]
        clear HPQ'
        have hwl : wrap64 (left - pn) = left - pn := Ln.wrap_in (by omega) (by omega)
        have HWL := Lib.hid hwl
        clear hwl
        have hzz := cw6.size
        go_wp2_with (at_builtin; refine app_due ⟨(k : Int) + 1, dy, pn, it⟩ rfl _ _ rfl rfl hdv rfl (by omega) hzz ?_)
        intro v' w7 hdv' hgr hat
        have cw7 := grown_below cw6 hdv hgr
        clear hgr hat hdv cw6 hzz
        have HDV := Lib.hid hdv'
        clear hdv'
        go_wp2_with fail
        go_roundg (gk - 1)
        case measure => omega
        case rel => exact ⟨k + 1, by omega, by go_num, An.int_eq (by have hq := HLF.out; have hq2 := HWL.out; omega), by rw [HBS.out]; exact HDV.out, cw7⟩
       ·have hpe := HPL.out hn
        subst hpe
        have hn' : ¬ ((k : Int) + 1 < t.ct) := by omega
        have hwl : wrap64 (pn - pn) = pn - pn := Ln.wrap_in (by omega) (by omega)
        have HWL := Lib.hid hwl
        clear hwl
        have hzz := cw5.size
        go_wp2_with (at_builtin; refine app_due ⟨(k : Int) + 1, dy, pn, it⟩ rfl _ _ rfl rfl hdv rfl (by omega) hzz ?_)
        intro v' w7 hdv' hgr hat
        have cw7 := grown_below cw5 hdv hgr
        clear hgr hat hdv cw5 hzz
        have HDV := Lib.hid hdv'
        clear hdv'
        go_wp2_with fail
        go_roundg (gk - 1)
        case measure => omega
        case rel => exact ⟨k + 1, by omega, by go_num, An.int_eq (by have hq := HLF.out; have hq2 := HWL.out; omega), by rw [HBS.out]; exact HDV.out, cw7⟩
      ·have hkn : k = t.ct.toNat := by omega
       subst hkn
       have HF := Lib.hid (HE.out.trans HPE.out)
       have HDV := Lib.hid hdv
       clear hdv
       have l5 := kt.c5
       go_wp2_with fail
       go_ret2
       exact (blOut_ok hct.2 HF.out HDV.out cwr).up cw3
    ·have HF := Lib.hid (HE.out.trans HPE.out)
     have HN := Lib.hid hv
     have g5 : (E' != 0) = true := by simpa using hv
     clear hv
     go_wp2_with fail
     go_ret2
     exact blOut_no HF.out HN.out cw3
   ·have g2 : (t.me == 1) = false := by simp [h1]
    have g3 : (t.me == 4) = false := by simp [h4]
    have hpn := payE_no (t := t) (by unfold annB; rw [g2, g3]; rfl)
    have HPE := Lib.hid hpn.1
    have hpv := hpn.2
    clear hpn h1 h4
    have HPV := Lib.hid hpv
    clear hpv
    have hpb := payV_bd HK.out HPE.out
    rw [HPV.out] at hpb
    have l0 := kt.c0
    have l1 := kt.c1
    have hz3 := Nat.le_refl w2.heap.size
    obtain ⟨ti, hi1, hi2, hi3, hi4⟩ := info_parts Ln.due_info
    have HI := Lib.hid (And.intro hi1 (And.intro hi2 (And.intro hi3 hi4)))
    clear hi1 hi2 hi3
    go_wp2_with (at_make; go_loud (refine wpList_make_own _ rfl _ _ _ rfl w2.heap.size 47 ti _ 4 Tryz.underlying29 HI.out.1 HI.out.2.1 HI.out.2.2.1 .i64 .i64 _ n rfl rfl rfl (by rw [hi4]; omega) (by unfold maxLen; omega) hz3 ?_); intro w4 hown hgr)
    have hdv0 := made_dv hown
    have hbm : Below w2.heap.size w2 w4 := (Below.refl _ _).grown hgr (Nat.le_refl _) (fun j hj => by cases hj)
    clear hown hgr hi4 HI l1 l0
    generalize (Value.slice (some ⟨w2.heap.size, 0, none⟩) 0 n) = v0 at *
    go_wp2_with fail
    go_loopg [9, 10, 59] t.ct.toNat (BdR w2 t c)
    case atStart => exact ⟨0, by omega, rfl, rfl, hdv0, hbm⟩
    case round =>
     clear hdv0 hbm
     obtain ⟨k, hk, rfl, rfl, hdv, cwr⟩ := hrel
     replace kt := kt.later cwr
     replace hin := ints_later cwr hin
     replace hS := hS.of cwr
     by_cases hlt : k < t.ct.toNat
     ·have hj : k < t.ct.toNat := by omega
      obtain ⟨hok, hib, hqb⟩ := step_nums HK.out HPE.out k
      have hbl := bList_len t c k
      have hdd := HDG.out k hj
      generalize hX1 : prt t (payV t) k (lf t (payV t) k) = pn at hqb
      generalize hX2 : intr (t.ppm * t.ev) t.mo (lf t (payV t) k) = it at hib
      generalize hX3 : lf t (payV t) k = left at hqb hok ⊢
      generalize hX4 : bList t c k = bl at hdv hbl
      generalize hX5 : dV t c ((k : Int) + 1) = dy at hdd
      have hlb := hok.1
      have HBS := Lib.hid (show bList t c (k + 1) = bl ++ [⟨(k : Int) + 1, dy, pn, it⟩] by rw [bList_succ, hX4]; unfold duAt; rw [hX1, hX2, hX5])
      have HLF := Lib.hid (show lf t (payV t) (k + 1) = left - pn by rw [lf_succ, hX1, hX3])
      have HPQ := Lib.hid (fun (h : k + 1 < t.ct.toNat) => show pn = pq t 0 it k left by rw [← hX1, prt_pq h, hX2, hX3, HPV.out])
      have HPL := Lib.hid (fun (h : ¬ k + 1 < t.ct.toNat) => show pn = left by rw [← hX1, prt_last h, hX3])
      have HIT := Lib.hid (show intr (t.ppm * t.ev) t.mo left = it by rw [← hX3, hX2])
      have HOK := Lib.hid hok
      clear hok hX1 hX2 hX3 hX4 hX5
      obtain ⟨bb, off, hae, hcc⟩ := hin.2 (by omega)
      have c0 := hcc k (by omega)
      rw [hdd] at c0
      clear hcc
      subst hae
      have l2 := kt.c2
      have l4 := kt.c4
      have l7 := kt.c7
      go_wp2_with fail
      clear l2 l4 l7
      clear c0
      refine (An.inter_yes left t.ppm t.ev t.mo _ hS HOK.out).mono ?_
      rintro e w5 ⟨rfl, hb⟩
      replace kt := kt.later hb
      replace hS := hS.of hb
      replace hdv := hdv.later hb
      replace hin := ints_later hb hin
      have cw5 := bl2 hb cwr
      clear hb cwr
      rw [HIT.out]
      by_cases hn : k + 1 < t.ct.toNat
      ·have HPQ' := Lib.hid (HPQ.out hn)
       have hn' : (k : Int) + 1 < t.ct := by omega
       have l0 := kt.c0
       have l1 := kt.c1
       have l2 := kt.c2
       have l3 := kt.c3
       have l4 := kt.c4
       have l5 := kt.c5
       have l6 := kt.c6
       have l7 := kt.c7
       have l8 := kt.c8
       have l9 := kt.c9
       have l10 := kt.c10
       have l11 := kt.c11
       go_wp2_with fail
       clear l0 l1 l2 l3 l4 l5 l6 l7 l8 l9 l10 l11
       refine (prin_any t k left it 0 _ hpr.1 hpr.2 hct.1 hct.2 (by omega) hpb.1 hpb.2 hib.1 hib.2).mono ?_
       rintro e w6 ⟨rfl, hb⟩
       replace kt := kt.later hb
       replace hS := hS.of hb
       replace hdv := hdv.later hb
       replace hin := ints_later hb hin
       have cw6 := bl2 hb cw5
       clear hb cw5
       rw [← HPQ'.out]
       clear HPQ'
       have hwl : wrap64 (left - pn) = left - pn := Ln.wrap_in (by omega) (by omega)
       have HWL := Lib.hid hwl
       clear hwl
       have hzz := cw6.size
       go_wp2_with (at_builtin; refine app_due ⟨(k : Int) + 1, dy, pn, it⟩ rfl _ _ rfl rfl hdv rfl (by omega) hzz ?_)
       intro v' w7 hdv' hgr hat
       have cw7 := grown_below cw6 hdv hgr
       clear hgr hat hdv cw6 hzz
       have HDV := Lib.hid hdv'
       clear hdv'
       go_wp2_with fail
       go_roundg (gk - 1)
       case measure => omega
       case rel => exact ⟨k + 1, by omega, by go_num, An.int_eq (by have hq := HLF.out; have hq2 := HWL.out; omega), by rw [HBS.out]; exact HDV.out, cw7⟩
      ·have hpe := HPL.out hn
       subst hpe
       have hn' : ¬ ((k : Int) + 1 < t.ct) := by omega
       have hwl : wrap64 (pn - pn) = pn - pn := Ln.wrap_in (by omega) (by omega)
       have HWL := Lib.hid hwl
       clear hwl
       have hzz := cw5.size
       go_wp2_with (at_builtin; refine app_due ⟨(k : Int) + 1, dy, pn, it⟩ rfl _ _ rfl rfl hdv rfl (by omega) hzz ?_)
       intro v' w7 hdv' hgr hat
       have cw7 := grown_below cw5 hdv hgr
       clear hgr hat hdv cw5 hzz
       have HDV := Lib.hid hdv'
       clear hdv'
       go_wp2_with fail
       go_roundg (gk - 1)
       case measure => omega
       case rel => exact ⟨k + 1, by omega, by go_num, An.int_eq (by have hq := HLF.out; have hq2 := HWL.out; omega), by rw [HBS.out]; exact HDV.out, cw7⟩
     ·have hkn : k = t.ct.toNat := by omega
      subst hkn
      have HF := Lib.hid (HE.out.trans HPE.out)
      have HDV := Lib.hid hdv
      clear hdv
      have l5 := kt.c5
      go_wp2_with fail
      go_ret2
      exact (blOut_ok hct.2 HF.out HDV.out cwr).up cw2
end Go.Proofs.YtlolflephnbbcaaGreatDoor.Kl
