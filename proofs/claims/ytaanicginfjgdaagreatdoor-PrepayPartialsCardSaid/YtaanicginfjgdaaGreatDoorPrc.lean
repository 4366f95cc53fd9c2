/-
 The reference's Partial.
 PrepayPartials: its walk.
-/
import Derived.Test.YtaanicginfjgdaaGreatDoorPr3
import Derived.Test.YtaanicginfjgdaaGreatDoorPrb
import Derived.Deep.CutRange
import Derived.Test.YtaanicginfjgdaaGreatDoorPqa
namespace Go.Proofs.YtaanicginfjgdaaGreatDoor.Pp
open Go Go.RowKit
open Go.Proofs.YtaanicginfjgdaaGreatDoor
open Go.Proofs.YtaanicginfjgdaaGreatDoor.Ln (Tm Ch Du Lo Pa sum prs its P I due chk Ok ok_iff wrap_in wrap_add powed zLo LoIn DuesIn RowIn OwnR denc denc_len cenc cenc_len penc penc_len tenc flat flat_len Dok dues_of_row bl2 SB SB.mono SQ SQ.mono take_at one_at two_at call_at call_wp call_one call_pv value_wp yields_load_row Blk_setRow_same Blk_setRow_ne Below_setRow dues_setRow row_row one25 load_guarded results2_cell dues_lt rowc_lt rangeAt_later tk ts z0 z1 z3 z4 z5)
open Go.Proofs.YtaanicginfjgdaaGreatDoor.Sr (GV DV gv_made parts_wp dues_wp blk_low gv_low)
open Go.Proofs.YtaanicginfjgdaaGreatDoor.Ln (row_put key9_of)
open Go.Proofs.YtaanicginfjgdaaGreatDoor.Rd (gd pcV pcE Stp)
open Go.Proofs.YtaanicginfjgdaaGreatDoor.Kl (Cl CalIn skE)
set_option linter.unusedSimpArgs false
set_option linter.unusedVariables false
set_option maxRecDepth 100000

theorem paQ_put (l : Lo) (a : Int) : paQ l a = putL (putL [] 1 (feV l a)) 4 (paid l a) := by
 have e : a - paid l a = feV l a := by
  unfold paid
  omega
 unfold paQ
 rw [e]
 simp only [putL_ppz]
 show ppz ([⟨1, feV l a⟩] ++ [⟨4, paid l a⟩]) = _
 unfold ppz
 rw [List.filter_append]
 rfl
theorem paE_ex {l : Lo} {a day keep : Int} {c : Cl} (h : exE l a day keep c ≠ 0) : paE l a day keep c = exE l a day keep c := by
 unfold exE at h ⊢
 unfold paE
 split
 ·rfl
 ·rename_i h1
  rw [if_neg h1] at h
  rw [if_pos h]
theorem ex_parts {l : Lo} {a day keep : Int} {c : Cl} (h : exE l a day keep c = 0) : (chk l = 0 ∧ 0 ≤ day ∧ day ≤ 73048) ∧ alE l a day keep c = 0 := by
 unfold exE at h
 split at h
 ·cases h
 ·rename_i h1
  exact ⟨Classical.byContradiction h1, h⟩
set_option maxHeartbeats 32000000 in
theorem rpartial35_any (l : Lo) (da ca : Option Addr) (dk ck : Nat) (a day keep : Int) (c : Cl) (wa ha : Option Addr) (wc hc : Nat) (w : World) (h : DuesIn w da l.ds) (hcs : RowIn cenc w ca l.cs) (hk : Dok l.ds) (hdk : l.ds.length ≤ dk) (hcal : CalIn w c wa ha) (hcu : l.tm.cur.size ≤ maxLen) :
  Calls Tryz.prog 18 #[(.agg #[.int .i64 (l).id, .int .i64 (l).ac, .int .i64 (l).st, .int .i64 (l).pp, .int .i64 (l).pi, .int .i64 (l).fee, .int .i64 (l).pen, .int .i64 (l).chg, .int .i64 (l).prov, .int .i64 (l).loss, .int .i64 (l).rcv, .int .i64 ((l).tm).me, .int .i64 ((l).tm).pr, .int .i64 ((l).tm).ppm, .int .i64 ((l).tm).stt, .int .i64 ((l).tm).ev, .int .i64 ((l).tm).ct, .int .i64 ((l).tm).ba, .int .i64 ((l).tm).mo, .int .i64 ((l).tm).pen, .int .i64 ((l).tm).fe, .string ((l).tm).cal, .string ((l).tm).cur, .slice da (l).ds.length dk, .slice ca (l).cs.length ck]), .int .i64 a, .int .i64 day, .int .i64 keep, (.agg #[.string (c).nm, .slice wa (c).wk.length wc, .slice ha (c).hol.length hc])] w (PaO l a day keep c w) := by
 have cw1 : Below w.heap.size w (((w.alloc (.cells #[.int .i64 (l).id, .int .i64 (l).ac, .int .i64 (l).st, .int .i64 (l).pp, .int .i64 (l).pi, .int .i64 (l).fee, .int .i64 (l).pen, .int .i64 (l).chg, .int .i64 (l).prov, .int .i64 (l).loss, .int .i64 (l).rcv, .int .i64 ((l).tm).me, .int .i64 ((l).tm).pr, .int .i64 ((l).tm).ppm, .int .i64 ((l).tm).stt, .int .i64 ((l).tm).ev, .int .i64 ((l).tm).ct, .int .i64 ((l).tm).ba, .int .i64 ((l).tm).mo, .int .i64 ((l).tm).pen, .int .i64 ((l).tm).fe, .string ((l).tm).cal, .string ((l).tm).cur, .slice da (l).ds.length dk, .slice ca (l).cs.length ck] 27)).alloc (.cells #[.string c.nm, .slice wa c.wk.length wc, .slice ha c.hol.length hc] 44)).alloc (.cells #[.int .i64 0, .int .i64 0, .int .i64 0, .int .i64 0, .int .i64 0, .int .i64 0, .int .i64 0, .int .i64 0, .int .i64 0, .int .i64 0, .int .i64 0, .int .i64 0, .int .i64 0, .int .i64 0, .int .i64 0, .int .i64 0, .int .i64 0, .int .i64 0, .int .i64 0, .int .i64 0, .int .i64 0, .string { data := #[] }, .string { data := #[] }, .slice none 0 0, .slice none 0 0] 27)) := (((Below.refl _ _).alloc (Nat.le_refl _) _).alloc (by simp) _).alloc (by simp; omega) _
 have k0 : Bk.Blk (((w.alloc (.cells #[.int .i64 (l).id, .int .i64 (l).ac, .int .i64 (l).st, .int .i64 (l).pp, .int .i64 (l).pi, .int .i64 (l).fee, .int .i64 (l).pen, .int .i64 (l).chg, .int .i64 (l).prov, .int .i64 (l).loss, .int .i64 (l).rcv, .int .i64 ((l).tm).me, .int .i64 ((l).tm).pr, .int .i64 ((l).tm).ppm, .int .i64 ((l).tm).stt, .int .i64 ((l).tm).ev, .int .i64 ((l).tm).ct, .int .i64 ((l).tm).ba, .int .i64 ((l).tm).mo, .int .i64 ((l).tm).pen, .int .i64 ((l).tm).fe, .string ((l).tm).cal, .string ((l).tm).cur, .slice da (l).ds.length dk, .slice ca (l).cs.length ck] 27)).alloc (.cells #[.string c.nm, .slice wa c.wk.length wc, .slice ha c.hol.length hc] 44)).alloc (.cells #[.int .i64 0, .int .i64 0, .int .i64 0, .int .i64 0, .int .i64 0, .int .i64 0, .int .i64 0, .int .i64 0, .int .i64 0, .int .i64 0, .int .i64 0, .int .i64 0, .int .i64 0, .int .i64 0, .int .i64 0, .int .i64 0, .int .i64 0, .int .i64 0, .int .i64 0, .int .i64 0, .int .i64 0, .string { data := #[] }, .string { data := #[] }, .slice none 0 0, .slice none 0 0] 27)) w.heap.size _ 27 := Bk.Blk.nw30
 have kc : Bk.Blk (((w.alloc (.cells #[.int .i64 (l).id, .int .i64 (l).ac, .int .i64 (l).st, .int .i64 (l).pp, .int .i64 (l).pi, .int .i64 (l).fee, .int .i64 (l).pen, .int .i64 (l).chg, .int .i64 (l).prov, .int .i64 (l).loss, .int .i64 (l).rcv, .int .i64 ((l).tm).me, .int .i64 ((l).tm).pr, .int .i64 ((l).tm).ppm, .int .i64 ((l).tm).stt, .int .i64 ((l).tm).ev, .int .i64 ((l).tm).ct, .int .i64 ((l).tm).ba, .int .i64 ((l).tm).mo, .int .i64 ((l).tm).pen, .int .i64 ((l).tm).fe, .string ((l).tm).cal, .string ((l).tm).cur, .slice da (l).ds.length dk, .slice ca (l).cs.length ck] 27)).alloc (.cells #[.string c.nm, .slice wa c.wk.length wc, .slice ha c.hol.length hc] 44)).alloc (.cells #[.int .i64 0, .int .i64 0, .int .i64 0, .int .i64 0, .int .i64 0, .int .i64 0, .int .i64 0, .int .i64 0, .int .i64 0, .int .i64 0, .int .i64 0, .int .i64 0, .int .i64 0, .int .i64 0, .int .i64 0, .int .i64 0, .int .i64 0, .int .i64 0, .int .i64 0, .int .i64 0, .int .i64 0, .string { data := #[] }, .string { data := #[] }, .slice none 0 0, .slice none 0 0] 27)) (w.heap.size + 1) _ 44 := Bk.Blk.nw31
 have kz : Bk.Blk (((w.alloc (.cells #[.int .i64 (l).id, .int .i64 (l).ac, .int .i64 (l).st, .int .i64 (l).pp, .int .i64 (l).pi, .int .i64 (l).fee, .int .i64 (l).pen, .int .i64 (l).chg, .int .i64 (l).prov, .int .i64 (l).loss, .int .i64 (l).rcv, .int .i64 ((l).tm).me, .int .i64 ((l).tm).pr, .int .i64 ((l).tm).ppm, .int .i64 ((l).tm).stt, .int .i64 ((l).tm).ev, .int .i64 ((l).tm).ct, .int .i64 ((l).tm).ba, .int .i64 ((l).tm).mo, .int .i64 ((l).tm).pen, .int .i64 ((l).tm).fe, .string ((l).tm).cal, .string ((l).tm).cur, .slice da (l).ds.length dk, .slice ca (l).cs.length ck] 27)).alloc (.cells #[.string c.nm, .slice wa c.wk.length wc, .slice ha c.hol.length hc] 44)).alloc (.cells #[.int .i64 0, .int .i64 0, .int .i64 0, .int .i64 0, .int .i64 0, .int .i64 0, .int .i64 0, .int .i64 0, .int .i64 0, .int .i64 0, .int .i64 0, .int .i64 0, .int .i64 0, .int .i64 0, .int .i64 0, .int .i64 0, .int .i64 0, .int .i64 0, .int .i64 0, .int .i64 0, .int .i64 0, .string { data := #[] }, .string { data := #[] }, .slice none 0 0, .slice none 0 0] 27)) (w.heap.size + 2) _ 27 := Bk.Blk.nw32
 have HD := Lib.hid (fun W (hW : Below w.heap.size w W) => h.later hW)
 have HC := Lib.hid (fun W (hW : Below w.heap.size w W) => hcs.later hW)
 have HCL := Lib.hid (fun W (hW : Below w.heap.size w W) => hcal.later hW)
 have HDK := Lib.hid hk
 clear h hcs hcal hk
 go_enter Tryz.func18, Tryz.ntmps18
 go_upto_region 1 with fail
 generalize (((w.alloc (.cells _ 27)).alloc (.cells _ 44)).alloc (.cells _ 27)) = w1 at *
 go_wp2_with (first | (refine wpList_load_row rfl 27 _ rfl _ rfl _ _ _ _ k0 Tryz.underlying27 rfl (by kernel_rfl) ?_) | (refine load_guarded 27 _ rfl rfl _ rfl _ _ _ _ k0 Tryz.underlying27 rfl (by kernel_rfl) ?_) | (refine wpList_load_row rfl 44 _ rfl _ rfl _ _ _ _ kc Tryz.underlying44 rfl (by kernel_rfl) ?_))
 refine (rexamine_any l da ca dk ck a day keep c wa ha wc hc _ (HD.out _ cw1) HDK.out (HCL.out _ cw1) hcu).mono ?_
 rintro e w2 ⟨rfl, hb⟩
 have cw2 := bl2 hb cw1
 replace k0 := k0.later hb
 replace kz := kz.later hb
 clear hb cw1
 clear kc
 by_cases he : exE l a day keep c = 0
 ·rw [if_pos he]
  have hep := ex_parts he
  have HOP := Lib.hid hep.1
  have HE := Lib.hid hep.2
  have hA := al_parts hep.1.1 hep.1.2 hep.2
  have ho := hA.ok
  have ho' := ord_iff.1 ho.ord
  have hv := view ho day
  clear hep
  have g1 : (exE l a day keep c != 0) = false := by rw [he]; rfl
  clear he
  generalize exE l a day keep c = E at g1 ⊢
  have hpd : paid l a = a - feV l a := rfl
  have a1 := hA.a0
  have a2_ := hA.a1
  have a3 := hA.p0
  have a4 := hA.p1
  have a5 := hA.p2
  have a6 := hA.pp
  have a7 := hA.pi
  have pp0 := ho.pp
  have pp1 := ho.pp'
  have pi0 := ho.pi
  have pi1 := ho.pi'
  have v1 := hv.P2
  have v2 := hv.I2
  have v3 := hv.p0
  have v4 := hv.i0
  have HVW := Lib.hid hv
  have HAL := Lib.hid hA
  clear hv
  have hn2 := ho.n2
  have hal := at_le l day
  have HFL := Lib.hid (fst_len l day)
  have HSL := Lib.hid (snd_len l day)
  have HSN := Lib.hid hA.sn
  clear hA
  obtain ⟨F, hF⟩ : ∃ F, F = feV l a := ⟨_, rfl⟩
  obtain ⟨pd, hpd2⟩ : ∃ p, p = paid l a := ⟨_, rfl⟩
  rw [← hF] at hpd ⊢
  rw [← hpd2] at hpd a3 a4 a5
  have HPD := Lib.hid hpd2
  have HFF := Lib.hid hF
  clear hpd2 hF
  have s1 : IntKind.i64.wrap (a - F) = pd := by rw [IntKind.wrap_i64]; omega
  have HPF := Lib.hid hpd
  clear hpd
  go_wp2_with (first | (refine wpList_load_row rfl 27 _ rfl _ rfl _ _ _ _ k0 Tryz.underlying27 rfl (by kernel_rfl) ?_) | (refine load_guarded 27 _ rfl rfl _ rfl _ _ _ _ k0 Tryz.underlying27 rfl (by kernel_rfl) ?_))
  refine (first35_any l da ca dk ck day _ (HD.out _ cw2) ho' (by omega)).mono ?_
  rintro e w3 ⟨rfl, hb⟩
  have cw3 := bl2 hb cw2
  replace k0 := k0.later hb
  replace kz := kz.later hb
  clear hb cw2
  obtain ⟨k, hk⟩ : ∃ k, k = atN l day := ⟨_, rfl⟩
  have HKK := Lib.hid hk
  rw [← hk] at hal ⊢
  clear hk
  go_wp2_with (first | (refine wpList_load_row rfl 27 _ rfl _ rfl _ _ _ _ k0 Tryz.underlying27 rfl (by kernel_rfl) ?_) | (refine load_guarded 27 _ rfl rfl _ rfl _ _ _ _ k0 Tryz.underlying27 rfl (by kernel_rfl) ?_))
  refine (sums35_any l da ca dk ck k _ (HD.out _ cw3) hal (by omega)).mono ?_
  rintro e w4 ⟨rfl, hb⟩
  have cw4 := bl2 hb cw3
  replace k0 := k0.later hb
  replace kz := kz.later hb
  clear hb cw3
  rw [show l.ds.take k = fst l day by rw [HKK.out]; rfl]
  have HO2 := Lib.hid (show one2 l a day = ⟨(k : Int) + 1, day, l.pp - P (fst l day) + paid l a, l.pi - I (fst l day)⟩ by rw [HKK.out]; rfl)
  have HRS := Lib.hid (show rst l a = P l.ds - l.pp - paid l a from rfl)
  obtain ⟨PF, hPF⟩ : ∃ p, p = P (fst l day) := ⟨_, rfl⟩
  obtain ⟨IF, hIF⟩ : ∃ p, p = I (fst l day) := ⟨_, rfl⟩
  rw [← hPF] at v3 a6 HO2
  rw [← hIF] at v4 a7 HO2
  rw [← hPF, ← hIF]
  rw [← HPD.out] at HO2 HRS
  clear hPF hIF
  have hpdb : 1 ≤ pd ∧ pd ≤ 1000000000000 := by omega
  go_wp2_with (first | (refine wpList_load_row rfl 27 _ rfl _ rfl _ _ _ _ k0 Tryz.underlying27 rfl (by kernel_rfl) ?_) | (refine load_guarded 27 _ rfl rfl _ rfl _ _ _ _ k0 Tryz.underlying27 rfl (by kernel_rfl) ?_))
  clear s1
  refine (Ln.rout_any l da ca dk ck _ (HD.out _ cw4) HDK.out).mono ?_
  rintro e w5 ⟨rfl, hb⟩
  have cw5 := bl2 hb cw4
  replace k0 := k0.later hb
  replace kz := kz.later hb
  clear hb cw4
  rw [show wrap64 (P l.ds - l.pp) = P l.ds - l.pp by unfold wrap64; omega]
  obtain ⟨O, hO⟩ : ∃ O, O = P l.ds - l.pp := ⟨_, rfl⟩
  rw [← hO] at HRS a4 ⊢
  have o1 : O ≤ 240000000000000 := by omega
  clear hO
  have s0 : IntKind.i64.wrap (O - pd) = O - pd := by rw [IntKind.wrap_i64]; omega
  have s1 : IntKind.i64.wrap ((k : Int) + 1) = (k : Int) + 1 := by rw [IntKind.wrap_i64]; omega
  have s2 : IntKind.i64.wrap (l.pp - PF) = l.pp - PF := by rw [IntKind.wrap_i64]; omega
  have s3 : IntKind.i64.wrap (l.pp - PF + pd) = l.pp - PF + pd := by rw [IntKind.wrap_i64]; omega
  have s4 : IntKind.i64.wrap (l.pi - IF) = l.pi - IF := by rw [IntKind.wrap_i64]; omega
  have l3 := k0.c3
  have l4 := k0.c4
  go_upto_region 9 with (refine wpList_store_row rfl 53 _ _ rfl _ _ rfl rfl _ _ Bk.Blk.nw10 (by kernel_rfl) rfl (by simp [Value.oneCell', denc]) ?_)
  clear s0 s1 s2 s3 s4 l3 l4
  have hbx : Below w5.heap.size w5 ((w5.alloc (.cells #[.int .i64 0, .int .i64 0, .int .i64 0, .int .i64 0] 53)).setRow w5.heap.size #[.int .i64 ((k : Int) + 1), .int .i64 day, .int .i64 (l.pp - PF + pd), .int .i64 (l.pi - IF)]) := Below_setRow ((Below.refl _ _).alloc (Nat.le_refl _) _) (Nat.le_refl _) _
  have k1 : Bk.Blk ((w5.alloc (.cells #[.int .i64 0, .int .i64 0, .int .i64 0, .int .i64 0] 53)).setRow w5.heap.size #[.int .i64 ((k : Int) + 1), .int .i64 day, .int .i64 (l.pp - PF + pd), .int .i64 (l.pi - IF)]) w5.heap.size _ 53 := Blk_setRow_same Bk.Blk.nw10
  have hg1 := kz.lt
  have cw6 := bl2 hbx cw5
  replace k0 := k0.later hbx
  replace kz := kz.later hbx
  clear hbx cw5
  generalize ((w5.alloc (.cells _ 53)).setRow w5.heap.size _) = w6 at *
  generalize w5.heap.size = gx at *
  go_wp2_with fail
  refine (rgd_any (O - pd) _).mono ?_
  rintro e w7 ⟨rfl, hb⟩
  have cw7 := bl2 hb cw6
  replace k0 := k0.later hb
  replace kz := kz.later hb
  replace k1 := k1.later hb
  clear hb cw6
  by_cases hg1' : gd (O - pd)
  ·rw [decide_eq_true hg1']
   have q := k1.c2
   go_wp2_with fail
   refine (rgd_any (l.pp - PF + pd) _).mono ?_
   rintro e w8 ⟨rfl, hb⟩
   have cw8 := bl2 hb cw7
   replace k0 := k0.later hb
   replace kz := kz.later hb
   replace k1 := k1.later hb
   clear hb cw7
   clear q
   by_cases hg2 : gd (l.pp - PF + pd)
   ·rw [decide_eq_true hg2]
    have q := k1.c3
    go_wp2_with fail
    refine (rgd_any (l.pi - IF) _).mono ?_
    rintro e w9 ⟨rfl, hb⟩
    have cw9 := bl2 hb cw8
    replace k0 := k0.later hb
    replace kz := kz.later hb
    replace k1 := k1.later hb
    clear hb cw8
    clear q
    by_cases hg3 : gd (l.pi - IF)
    ·rw [decide_eq_true hg3]
     have H3 := Lib.hid (show gd (rst l a) ∧ gd (one2 l a day).pr ∧ gd (one2 l a day).it by rw [HO2.out, HRS.out]; exact ⟨hg1', hg2, hg3⟩)
     clear hg1' hg2 hg3
     have hxb : (0 ≤ (nx l day).pr ∧ (nx l day).pr ≤ 1000000000000) ∧ (0 ≤ (nx l day).it ∧ (nx l day).it ≤ 1000000000000) := ⟨⟨HVW.out.y0, HVW.out.y1⟩, ⟨HVW.out.x0, HVW.out.x1⟩⟩
     obtain ⟨n, hn⟩ : ∃ n, n = (snd l day).length := ⟨_, rfl⟩
     have HNN := Lib.hid hn
     have hkn : k + n = l.ds.length := by have h1 := HSL.out; have h2 := HKK.out; omega
     have hn1 : 1 ≤ n := by have := HSN.out; omega
     have HKN := Lib.hid hkn
     have HN1 := Lib.hid hn1
     clear hn hkn hn1
     have HPY := Lib.hid (fun W (hW : DuesIn W da l.ds) => rpayment_any l da ca dk ck day (O - pd) keep k n W hW HKK.out HKN.out HN1.out (by omega) hxb)
     have HBD := Lib.hid (fun h => lv_bd (l := l) (day := day) (keep := keep) (rest := rst l a) (n := n) h hxb)
     clear hxb
     rw [← HRS.out] at HPY
     obtain ⟨R, hR⟩ : ∃ R, R = rst l a := ⟨_, rfl⟩
     rw [← hR] at HPY HBD
     have HR := Lib.hid hR
     have hRO : O - pd = R := HRS.out.symm.trans hR.symm
     rw [hRO]
     clear hR hRO
     obtain ⟨LV, hLV⟩ : ∃ x, x = lvV l day keep R n := ⟨_, rfl⟩
     obtain ⟨LE, hLE⟩ : ∃ x, x = lvE l keep R n := ⟨_, rfl⟩
     rw [← hLV, ← hLE] at HPY HBD
     have HLVV := Lib.hid hLV
     have HLEE := Lib.hid hLE
     clear hLV hLE
     go_wp2_with (first | (refine wpList_load_row rfl 27 _ rfl _ rfl _ _ _ _ k0 Tryz.underlying27 rfl (by kernel_rfl) ?_) | (refine load_guarded 27 _ rfl rfl _ rfl _ _ _ _ k0 Tryz.underlying27 rfl (by kernel_rfl) ?_))
     refine (HPY.out _ (HD.out _ cw9)).mono ?_
     rintro e w10 ⟨rfl, hb⟩
     have cw10 := bl2 hb cw9
     replace k0 := k0.later hb
     replace kz := kz.later hb
     replace k1 := k1.later hb
     clear hb cw9
     clear HPY
     by_cases he4 : LE = 0
     ·have hbd := HBD.out he4
      have H4 := Lib.hid (show lvE l keep (rst l a) (snd l day).length = 0 by rw [← HR.out, ← HNN.out, ← HLEE.out]; exact he4)
      subst he4
      have HINV := Lib.hid (HAL.out.inv H3.out.1 H4.out (pout_self ..))
      rw [← HR.out, ← HNN.out, ← HLVV.out] at HINV
      have HTM := Lib.hid (show (0 ≤ l.tm.ppm ∧ l.tm.ppm ≤ 1000000) ∧ (1 ≤ l.tm.ev ∧ l.tm.ev ≤ 12) ∧ (1 ≤ l.tm.mo ∧ l.tm.mo ≤ 6) from ⟨HAL.out.tm.ppm, HAL.out.tm.ev, HAL.out.tm.mo⟩)
      have HBL := Lib.hid (show bld l a day keep = bldK l.tm R n keep LV (l.ds.drop k) 0 R ((k : Int) + 2) by
       unfold bld
       rw [← HR.out, ← HNN.out, ← HLVV.out, show snd l day = l.ds.drop k by rw [HKK.out]; rfl, HKK.out])
      have HDN := Lib.hid (show 0 + (l.ds.drop k).length = n by rw [List.length_drop]; have := HKN.out; omega)
      have HBW := Lib.hid (fun W (hW : DuesIn W da l.ds) => rwhole_any l da ca dk ck k n R keep LV W hW HKN.out (by omega) HINV.out HAL.out.me hbd HTM.out)
      have HBB := Lib.hid (fun W (hW : DuesIn W da l.ds) => rbuilt_any l da ca dk ck k n R keep LV W hW HKN.out (by omega) HINV.out HAL.out.me hbd HTM.out)
      have HKP := Lib.hid HAL.out.kp
      clear hbd
      go_wp2_with (first | (refine wpList_load_row rfl 27 _ rfl _ rfl _ _ _ _ k0 Tryz.underlying27 rfl (by kernel_rfl) ?_) | (refine load_guarded 27 _ rfl rfl _ rfl _ _ _ _ k0 Tryz.underlying27 rfl (by kernel_rfl) ?_))
      refine (HBW.out _ (HD.out _ cw10)).mono ?_
      rintro e w11 ⟨g11, c11, rfl, hv11, hb⟩
      have cw11 := bl2 hb cw10
      replace k0 := k0.later hb
      replace kz := kz.later hb
      replace k1 := k1.later hb
      clear hb cw10 HBW
      go_upto_if 102 with fail
      go_cut [23] from 101 to 107 (fun s23 wx => ∃ (gt ct : Nat), s23 = .slice (some ⟨gt, 0, none⟩) (bld l a day keep).length ct ∧ RowIn denc wx (some ⟨gt, 0, none⟩) (bld l a day keep) ∧ gt < wx.heap.size ∧ Below w11.heap.size w11 wx)
      case first =>
       rcases HKP.out with hk | hk
       ·have gk : (keep == 2) = false := by rw [hk]; rfl
        have HW2 := Lib.hid (show bld l a day keep = whlK l.tm R n keep LV (l.ds.drop k) R ((k : Int) + 2) from HBL.out.trans (bld_whl (by rw [hk]; decide) (l.ds.drop k) 0 R ((k : Int) + 2) HDN.out HINV.out))
        clear hk
        rw [← HW2.out] at hv11
        go_wp2_with fail
        go_meet
        obtain ⟨_, _, he, hr, _⟩ := hv11.row
        obtain ⟨e1, e2⟩ : (some ⟨g11, 0, none⟩ : Option Addr) = _ ∧ c11 = _ := by simpa using he
        exact ⟨g11, c11, by rw [HW2.out], by rw [e1]; exact hr, (hv11.lt _ rfl).1, Below.refl _ _⟩
       ·have gk : (keep == 2) = true := by rw [hk]; rfl
        have HW2 := Lib.hid (show bld l a day keep = bltK l.tm R n keep LV (l.ds.drop k) 0 R ((k : Int) + 2) from HBL.out.trans (by rw [hk]; exact bld_blt (l.ds.drop k) 0 R ((k : Int) + 2) HDN.out (by have := HINV.out.r0; omega) (by have := HINV.out; rw [hk] at this; exact this)))
        clear hk
        go_wp2_with (first | (refine wpList_load_row rfl 27 _ rfl _ rfl _ _ _ _ k0 Tryz.underlying27 rfl (by kernel_rfl) ?_) | (refine load_guarded 27 _ rfl rfl _ rfl _ _ _ _ k0 Tryz.underlying27 rfl (by kernel_rfl) ?_))
        refine (HBB.out _ (HD.out _ cw11)).mono ?_
        rintro e w12 ⟨g12, c12, rfl, hv12, hb⟩
        rw [← HW2.out] at hv12 ⊢
        go_wp2_with fail
        go_meet
        obtain ⟨_, _, he, hr, _⟩ := hv12.row
        obtain ⟨e1, e2⟩ : (some ⟨g12, 0, none⟩ : Option Addr) = _ ∧ c12 = _ := by simpa using he
        exact ⟨g12, c12, rfl, by rw [e1]; exact hr, (hv12.lt _ rfl).1, hb⟩
      case rest =>
       obtain ⟨gt, ct, rfl, hrt, hgt, hbw⟩ := hcut
       have cwr := bl2 hbw cw11
       replace k0 := k0.later hbw
       replace kz := kz.later hbw
       replace k1 := k1.later hbw
       clear hbw cw11 hv11 HBB
       generalize wc = wr at *
       have hsT := slice_to da l.ds.length dk k (by omega)
       have HFK := Lib.hid (show (fst l day).length = k by rw [HFL.out, ← HKK.out])
       have HDF := Lib.hid (fun W (hW : SB wr W) => (show RowIn denc W da (fst l day) by
        rw [show fst l day = l.ds.take k by rw [HKK.out]; rfl]
        exact (dues_fst (HD.out _ (bl2 hW cwr)) k).row))
       have HRT := Lib.hid (fun W (hW : SB wr W) => hrt.blk (W' := W) (fun ad had => hW.block _ (by cases had; exact hgt)))
       have hbn : (bld l a day keep).length ≤ 1000 := by rw [HBL.out]; have h1 := (bld_len (t := l.tm) (rest := R) (n := n) (keep := keep) (pay := LV) (l.ds.drop k) 0 R ((k : Int) + 2)).1; rw [List.length_drop] at h1; omega
       have HBN := Lib.hid hbn
       clear hbn hrt hgt
       go_upto_region 17 with fail
       have hS0 : SB wr wr.drew := (Below.refl _ _).drew
       apply key9_of (fun (W : World) (g0 ga ca' gx' gb cb gc cc : Nat) => SB wr W ∧ DV W wr.heap.size (.slice (some ⟨gc, 0, none⟩) (([] ++ fst l day ++ [(⟨(k : Int) + 1, day, l.pp - PF + pd, l.pi - IF⟩ : Du)]) ++ bld l a day keep).length cc) (([] ++ fst l day ++ [(⟨(k : Int) + 1, day, l.pp - PF + pd, l.pi - IF⟩ : Du)]) ++ bld l a day keep))
       ·intro KEY
        refine wp_region_held_drew (S := SB wr) (by kernel_rfl) hS0 (fun hS => ?_)
        refine tk 1 (by decide) ?_ hS (by kernel_rfl) (by kernel_rfl) (by kernel_rfl) (by rfl) (fun _ _ _ h => h) ?_ ?_
        rotate_left
        ·intro W hW
         clear hW
         simp only [z0, z1]
         go_simp
         first | done | with_reducible rfl
        simp only [z0, z1, Act.put, z3, z4, z5]
        refine tk 3 (by decide) ?_ hS (by kernel_rfl) (by kernel_rfl) (by kernel_rfl) (by rfl) (fun _ _ _ h => h) ?_ ?_
        rotate_left
        ·intro W hW
         clear hW
         simp only [z0, z1]
         go_simp
         first | done | with_reducible rfl
        simp only [z0, z1, Act.put, z3, z4, z5]
        refine take_at 6 (by decide) (by kernel_rfl) (by kernel_rfl) (by kernel_rfl) (fun _ _ _ h => h) hS (yields_load_row (by rfl) 53 (.tmp 20) rfl gx rfl _ _ _ _ (fun W hW => (k1.later hW)) Tryz.underlying53 rfl (by kernel_rfl)) ?_
        simp only [z0, z1, Act.put, z3, z4, z5]
        refine tk 9 (by decide) ?_ hS (by kernel_rfl) (by kernel_rfl) (by kernel_rfl) (by rfl) (fun _ _ _ h => h) ?_ ?_
        rotate_left
        ·intro W hW
         clear hW
         simp only [z0, z1]
         go_simp
         first | done | with_reducible rfl
        simp only [z0, z1, Act.put, z3, z4, z5]
        refine tk 2 (by decide) ?_ hS (by kernel_rfl) (by kernel_rfl) (by kernel_rfl) (by rfl) (fun _ _ _ h => h) ?_ ?_
        rotate_left
        ·intro W hW
         have q := (k0.later hW).c23
         clear hW
         simp only [z0, z1]
         go_simp
         first | done | with_reducible rfl
        simp only [z0, z1, Act.put, z3, z4, z5]
        refine tk 4 (by decide) ?_ hS (by kernel_rfl) (by kernel_rfl) (by kernel_rfl) (by rfl) (fun _ _ _ h => h) ?_ ?_
        rotate_left
        ·intro W hW
         have q := hsT W
         clear hW
         simp only [z0, z1]
         go_simp
         first | done | with_reducible rfl
        simp only [z0, z1, Act.put, z3, z4, z5]
        refine two_at 0 7 (by decide) (by decide) (by kernel_rfl) (by rfl) (by rfl) (fun K hK => ?_) (fun K hK => ?_)
        ·refine value_wp (w' := ((wr.alloc (.cells #[] 53)).drew)) (by simp only [z0, z1]; go_simp; first | done | rfl | exact ⟨rfl, rfl⟩) ?_
         have hT : SB wr ((wr.alloc (.cells #[] 53)).drew) := ((Below.refl _ _).alloc (Nat.le_refl _) _).drew
         have hv : DV ((wr.alloc (.cells #[] 53)).drew) wr.heap.size (.slice (some ⟨wr.heap.size, 0, none⟩) 0 0) [] := (gv_made wr (Nat.le_refl _)).later ((Below.refl _ _).drew)
         refine hK.out _ _ hT (fun hT' => ?_)
         clear hT' hS hK
         have hS := hT
         clear hT
         simp only [z0, z1, Act.put, z3, z4, z5]
         generalize ((wr.alloc (.cells #[] 53)).drew) = wa_ at *
         obtain ⟨g0, hg0, hv⟩ : ∃ g, g = wr.heap.size ∧ DV wa_ wr.heap.size (.slice (some ⟨g, 0, none⟩) 0 0) [] := ⟨_, rfl, hv⟩
         rw [← hg0]
         clear hg0
         refine two_at 5 7 (by decide) (by decide) (by kernel_rfl) (by rfl) (by rfl) (fun K hK => ?_) (fun K hK => ?_)
         ·have hzB : wr.heap.size ≤ wa_.heap.size := Below.size hS
          refine dues_wp (fst l day) rfl _ _ rfl rfl hv da dk (congrArg (fun n => Value.slice da n dk) HFK.out.symm) (HDF.out _ hS) (by have := HFK.out; simp; omega) hzB ?_
          intro ga ca' wb_ hv2 hb2 hgr
          have hT : SB wr wb_ := Below.trans hS hb2
          clear hb2 hgr hv hzB
          refine hK.out _ _ hT (fun hT' => ?_)
          clear hT' hS hK
          have hS := hT
          clear hT
          simp only [z0, z1, Act.put, z3, z4, z5]
          have hv := hv2
          clear hv2
          refine one_at 7 (by decide) (by kernel_rfl) (by rfl) (fun K hK => ?_)
          refine value_wp (w' := (wb_.alloc (.cells #[.int .i64 ((k : Int) + 1), .int .i64 day, .int .i64 (l.pp - PF + pd), .int .i64 (l.pi - IF)] 53))) (by simp only [z0, z1]; go_simp; first | done | rfl | exact ⟨rfl, rfl⟩) ?_
          have hX : Below wb_.heap.size wb_ (wb_.alloc (.cells #[.int .i64 ((k : Int) + 1), .int .i64 day, .int .i64 (l.pp - PF + pd), .int .i64 (l.pi - IF)] 53)) := (Below.refl _ _).alloc (Nat.le_refl _) _
          have hT : SB wr (wb_.alloc (.cells #[.int .i64 ((k : Int) + 1), .int .i64 day, .int .i64 (l.pp - PF + pd), .int .i64 (l.pi - IF)] 53)) := SB.mono _ _ hS hX
          have kx : Bk.Blk (wb_.alloc (.cells #[.int .i64 ((k : Int) + 1), .int .i64 day, .int .i64 (l.pp - PF + pd), .int .i64 (l.pi - IF)] 53)) wb_.heap.size _ 53 := Bk.Blk.nw10
          replace hv := hv.later hX
          clear hX
          refine hK.out _ _ hT (fun hT' => ?_)
          clear hT' hS hK
          have hS := hT
          clear hT
          simp only [z0, z1, Act.put, z3, z4, z5]
          generalize (wb_.alloc (.cells _ 53)) = wx at *
          obtain ⟨gx', hgx⟩ : ∃ g, g = wb_.heap.size := ⟨_, rfl⟩
          rw [← hgx] at kx
          rw [← hgx]
          clear hgx
          have hzB : wr.heap.size ≤ wx.heap.size := Below.size hS
          have hrx : RowIn denc wx (some ⟨gx', 0, none⟩) [(⟨(k : Int) + 1, day, l.pp - PF + pd, l.pi - IF⟩ : Du)] := row_of_blk (xs := [(⟨(k : Int) + 1, day, l.pp - PF + pd, l.pi - IF⟩ : Du)]) kx
          refine one_at 8 (by decide) (by kernel_rfl) (by rfl) (fun K hK => ?_)
          refine dues_wp [(⟨(k : Int) + 1, day, l.pp - PF + pd, l.pi - IF⟩ : Du)] rfl _ _ rfl rfl hv _ _ rfl hrx (by have := HFK.out; simp; omega) hzB ?_
          intro gb cb wy hv2 hb2 _
          have hT : SB wr wy := Below.trans hS hb2
          clear hb2 hv hzB hrx kx
          refine hK.out _ _ hT (fun hT' => ?_)
          clear hT' hS hK
          have hS := hT
          clear hT
          simp only [z0, z1, Act.put, z3, z4, z5]
          have hzB : wr.heap.size ≤ wy.heap.size := Below.size hS
          refine one_at 10 (by decide) (by kernel_rfl) (by rfl) (fun K hK => ?_)
          refine dues_wp (bld l a day keep) rfl _ _ rfl rfl hv2 _ _ rfl (HRT.out _ hS) (by have := HFK.out; have := HBN.out; simp; omega) hzB ?_
          intro gc cc wz hv3 hb3 _
          have hT : SB wr wz := Below.trans hS hb3
          clear hb3 hv2 hzB
          refine hK.out _ _ hT (fun hT' => ?_)
          clear hT' hS hK
          have hS := hT
          clear hT
          simp only [z0, z1, Act.put, z3, z4, z5]
          refine tk 11 (by decide) ?_ hS (by kernel_rfl) (by kernel_rfl) (by kernel_rfl) (by rfl) (fun _ _ _ h => h) ?_ ?_
          rotate_left
          ·intro W hW
           clear hW
           simp only [z0, z1]
           go_simp
           first | done | with_reducible rfl
          simp only [z0, z1, Act.put, z3, z4, z5]
          refine wpAnyH_done (by kernel_rfl) ?_ _
          exact KEY wz g0 ga ca' gx' gb cb gc cc ⟨hS, hv3⟩
         ·have hlt : g0 < wa_.heap.size := (hv.lt g0 rfl).1
          refine value_wp (w' := (wa_.alloc (.cells #[.int .i64 ((k : Int) + 1), .int .i64 day, .int .i64 (l.pp - PF + pd), .int .i64 (l.pi - IF)] 53))) (by simp only [z0, z1]; go_simp; first | done | rfl | exact ⟨rfl, rfl⟩) ?_
          have hX : Below wa_.heap.size wa_ (wa_.alloc (.cells #[.int .i64 ((k : Int) + 1), .int .i64 day, .int .i64 (l.pp - PF + pd), .int .i64 (l.pi - IF)] 53)) := (Below.refl _ _).alloc (Nat.le_refl _) _
          have hT : SB wr (wa_.alloc (.cells #[.int .i64 ((k : Int) + 1), .int .i64 day, .int .i64 (l.pp - PF + pd), .int .i64 (l.pi - IF)] 53)) := SB.mono _ _ hS hX
          have kx : Bk.Blk (wa_.alloc (.cells #[.int .i64 ((k : Int) + 1), .int .i64 day, .int .i64 (l.pp - PF + pd), .int .i64 (l.pi - IF)] 53)) wa_.heap.size _ 53 := Bk.Blk.nw10
          replace hv := hv.later hX
          clear hX
          refine hK.out _ _ hT (fun hT' => ?_)
          clear hT' hS hK
          have hS := hT
          clear hT
          simp only [z0, z1, Act.put, z3, z4, z5]
          generalize (wa_.alloc (.cells _ 53)) = wb_ at *
          obtain ⟨gx', hgx⟩ : ∃ g, g = wa_.heap.size := ⟨_, rfl⟩
          rw [← hgx] at kx
          rw [← hgx]
          have hne : g0 ≠ gx' := by omega
          clear hlt
          clear hgx
          refine one_at 5 (by decide) (by kernel_rfl) (by rfl) (fun K hK => ?_)
          have hzB : wr.heap.size ≤ wb_.heap.size := Below.size hS
          refine dues_wp (fst l day) rfl _ _ rfl rfl hv da dk (congrArg (fun n => Value.slice da n dk) HFK.out.symm) (HDF.out _ hS) (by have := HFK.out; simp; omega) hzB ?_
          intro ga ca' wx hv2 hb2 hgr
          have hT : SB wr wx := Below.trans hS hb2
          have kx2 := hgr.elim (fun h => (h.block _ kx.lt (fun e => hne (Option.some.inj e).symm)).trans kx) (fun e => by rw [e]; exact kx)
          clear kx
          have kx := kx2
          clear kx2
          clear hb2 hgr hv hzB
          refine hK.out _ _ hT (fun hT' => ?_)
          clear hT' hS hK
          have hS := hT
          clear hT
          simp only [z0, z1, Act.put, z3, z4, z5]
          have hv := hv2
          clear hv2
          have hzB : wr.heap.size ≤ wx.heap.size := Below.size hS
          have hrx : RowIn denc wx (some ⟨gx', 0, none⟩) [(⟨(k : Int) + 1, day, l.pp - PF + pd, l.pi - IF⟩ : Du)] := row_of_blk (xs := [(⟨(k : Int) + 1, day, l.pp - PF + pd, l.pi - IF⟩ : Du)]) kx
          refine one_at 8 (by decide) (by kernel_rfl) (by rfl) (fun K hK => ?_)
          refine dues_wp [(⟨(k : Int) + 1, day, l.pp - PF + pd, l.pi - IF⟩ : Du)] rfl _ _ rfl rfl hv _ _ rfl hrx (by have := HFK.out; simp; omega) hzB ?_
          intro gb cb wy hv2 hb2 _
          have hT : SB wr wy := Below.trans hS hb2
          clear hb2 hv hzB hrx kx
          refine hK.out _ _ hT (fun hT' => ?_)
          clear hT' hS hK
          have hS := hT
          clear hT
          simp only [z0, z1, Act.put, z3, z4, z5]
          have hzB : wr.heap.size ≤ wy.heap.size := Below.size hS
          refine one_at 10 (by decide) (by kernel_rfl) (by rfl) (fun K hK => ?_)
          refine dues_wp (bld l a day keep) rfl _ _ rfl rfl hv2 _ _ rfl (HRT.out _ hS) (by have := HFK.out; have := HBN.out; simp; omega) hzB ?_
          intro gc cc wz hv3 hb3 _
          have hT : SB wr wz := Below.trans hS hb3
          clear hb3 hv2 hzB
          refine hK.out _ _ hT (fun hT' => ?_)
          clear hT' hS hK
          have hS := hT
          clear hT
          simp only [z0, z1, Act.put, z3, z4, z5]
          refine tk 11 (by decide) ?_ hS (by kernel_rfl) (by kernel_rfl) (by kernel_rfl) (by rfl) (fun _ _ _ h => h) ?_ ?_
          rotate_left
          ·intro W hW
           clear hW
           simp only [z0, z1]
           go_simp
           first | done | with_reducible rfl
          simp only [z0, z1, Act.put, z3, z4, z5]
          refine wpAnyH_done (by kernel_rfl) ?_ _
          exact KEY wz g0 ga ca' gx' gb cb gc cc ⟨hS, hv3⟩
        ·refine value_wp (w' := ((wr.alloc (.cells #[.int .i64 ((k : Int) + 1), .int .i64 day, .int .i64 (l.pp - PF + pd), .int .i64 (l.pi - IF)] 53)).drew)) (by simp only [z0, z1]; go_simp; first | done | rfl | exact ⟨rfl, rfl⟩) ?_
         have hT : SB wr ((wr.alloc (.cells #[.int .i64 ((k : Int) + 1), .int .i64 day, .int .i64 (l.pp - PF + pd), .int .i64 (l.pi - IF)] 53)).drew) := ((Below.refl _ _).alloc (Nat.le_refl _) _).drew
         have kx : Bk.Blk ((wr.alloc (.cells #[.int .i64 ((k : Int) + 1), .int .i64 day, .int .i64 (l.pp - PF + pd), .int .i64 (l.pi - IF)] 53)).drew) wr.heap.size _ 53 := Bk.Blk.drew Bk.Blk.nw10
         refine hK.out _ _ hT (fun hT' => ?_)
         clear hT' hS hK
         have hS := hT
         clear hT
         simp only [z0, z1, Act.put, z3, z4, z5]
         generalize ((wr.alloc (.cells _ 53)).drew) = wa_ at *
         obtain ⟨gx', hgx⟩ : ∃ g, g = wr.heap.size := ⟨_, rfl⟩
         rw [← hgx] at kx
         rw [← hgx]
         clear hgx
         refine one_at 0 (by decide) (by kernel_rfl) (by rfl) (fun K hK => ?_)
         have hlt := kx.lt
         refine value_wp (w' := (wa_.alloc (.cells #[] 53))) (by simp only [z0, z1]; go_simp; first | done | rfl | exact ⟨rfl, rfl⟩) ?_
         have hX : Below wa_.heap.size wa_ (wa_.alloc (.cells #[] 53)) := (Below.refl _ _).alloc (Nat.le_refl _) _
         have hT : SB wr (wa_.alloc (.cells #[] 53)) := SB.mono _ _ hS hX
         have hv : DV (wa_.alloc (.cells #[] 53)) wr.heap.size (.slice (some ⟨wa_.heap.size, 0, none⟩) 0 0) [] := gv_made wa_ (Below.size hS)
         replace kx := kx.later hX
         clear hX
         refine hK.out _ _ hT (fun hT' => ?_)
         clear hT' hS hK
         have hS := hT
         clear hT
         simp only [z0, z1, Act.put, z3, z4, z5]
         generalize (wa_.alloc (.cells #[] 53)) = wb_ at *
         obtain ⟨g0, hg0, hv⟩ : ∃ g, g = wa_.heap.size ∧ DV wb_ wr.heap.size (.slice (some ⟨g, 0, none⟩) 0 0) [] := ⟨_, rfl, hv⟩
         rw [← hg0]
         have hne : g0 ≠ gx' := by omega
         clear hlt
         clear hg0
         refine one_at 5 (by decide) (by kernel_rfl) (by rfl) (fun K hK => ?_)
         have hzB : wr.heap.size ≤ wb_.heap.size := Below.size hS
         refine dues_wp (fst l day) rfl _ _ rfl rfl hv da dk (congrArg (fun n => Value.slice da n dk) HFK.out.symm) (HDF.out _ hS) (by have := HFK.out; simp; omega) hzB ?_
         intro ga ca' wx hv2 hb2 hgr
         have hT : SB wr wx := Below.trans hS hb2
         have kx2 := hgr.elim (fun h => (h.block _ kx.lt (fun e => hne (Option.some.inj e).symm)).trans kx) (fun e => by rw [e]; exact kx)
         clear kx
         have kx := kx2
         clear kx2
         clear hb2 hgr hv hzB
         refine hK.out _ _ hT (fun hT' => ?_)
         clear hT' hS hK
         have hS := hT
         clear hT
         simp only [z0, z1, Act.put, z3, z4, z5]
         have hv := hv2
         clear hv2
         have hzB : wr.heap.size ≤ wx.heap.size := Below.size hS
         have hrx : RowIn denc wx (some ⟨gx', 0, none⟩) [(⟨(k : Int) + 1, day, l.pp - PF + pd, l.pi - IF⟩ : Du)] := row_of_blk (xs := [(⟨(k : Int) + 1, day, l.pp - PF + pd, l.pi - IF⟩ : Du)]) kx
         refine one_at 8 (by decide) (by kernel_rfl) (by rfl) (fun K hK => ?_)
         refine dues_wp [(⟨(k : Int) + 1, day, l.pp - PF + pd, l.pi - IF⟩ : Du)] rfl _ _ rfl rfl hv _ _ rfl hrx (by have := HFK.out; simp; omega) hzB ?_
         intro gb cb wy hv2 hb2 _
         have hT : SB wr wy := Below.trans hS hb2
         clear hb2 hv hzB hrx kx
         refine hK.out _ _ hT (fun hT' => ?_)
         clear hT' hS hK
         have hS := hT
         clear hT
         simp only [z0, z1, Act.put, z3, z4, z5]
         have hzB : wr.heap.size ≤ wy.heap.size := Below.size hS
         refine one_at 10 (by decide) (by kernel_rfl) (by rfl) (fun K hK => ?_)
         refine dues_wp (bld l a day keep) rfl _ _ rfl rfl hv2 _ _ rfl (HRT.out _ hS) (by have := HFK.out; have := HBN.out; simp; omega) hzB ?_
         intro gc cc wz hv3 hb3 _
         have hT : SB wr wz := Below.trans hS hb3
         clear hb3 hv2 hzB
         refine hK.out _ _ hT (fun hT' => ?_)
         clear hT' hS hK
         have hS := hT
         clear hT
         simp only [z0, z1, Act.put, z3, z4, z5]
         refine tk 11 (by decide) ?_ hS (by kernel_rfl) (by kernel_rfl) (by kernel_rfl) (by rfl) (fun _ _ _ h => h) ?_ ?_
         rotate_left
         ·intro W hW
          clear hW
          simp only [z0, z1]
          go_simp
          first | done | with_reducible rfl
         simp only [z0, z1, Act.put, z3, z4, z5]
         refine wpAnyH_done (by kernel_rfl) ?_ _
         exact KEY wz g0 ga ca' gx' gb cb gc cc ⟨hS, hv3⟩
       ·intro wd g0_ ga_ ca_ gx_ gb_ cb_ gc cc ⟨hSd, hv⟩
        have cwd := bl2 hSd cwr
        have hwr := k1.lt
        replace k0 := k0.later hSd
        replace kz := kz.later hSd
        clear hSd cwr k1 HDF HRT hsT hS0
        obtain ⟨ds, hds⟩ : ∃ d, d = (([] ++ fst l day ++ [(⟨(k : Int) + 1, day, l.pp - PF + pd, l.pi - IF⟩ : Du)]) ++ bld l a day keep) := ⟨_, rfl⟩
        have HDS := Lib.hid (show ds = paD l a day keep by rw [hds]; unfold paD; rw [HO2.out]; rfl)
        rw [← hds] at hv ⊢
        have hdl : (fst l day).length + ((bld l a day keep).length + 1) = ds.length := by
         rw [hds, List.length_append, List.length_append, List.length_append]
         show _ = 0 + (fst l day).length + 1 + (bld l a day keep).length
         omega
        rw [hdl]
        clear hdl
        clear hds
        obtain ⟨a7, c7, hve, hr7, hf7⟩ := hv.row
        obtain ⟨e1, e2⟩ : (some ⟨gc, 0, none⟩ : Option Addr) = a7 ∧ cc = c7 := by simpa using hve
        subst e1 e2
        have hf7' : ∀ ad, (some ⟨gc, 0, none⟩ : Option Addr) = some ad → w.heap.size + 2 < ad.block := fun ad had => by have := hf7 ad had; omega
        clear hve hv hf7 hwr
        by_cases h24 : 240 < ds.length
        ·have gn : (240 : Int) < (ds.length : Int) := by omega
         have HF := Lib.hid (show paE l a day keep c = 5 from paE_5 HOP.out HE.out H3.out H4.out (by rw [← HDS.out]; exact h24))
         clear h24
         go_wp2_with (refine wpList_store_row rfl 27 _ _ rfl _ _ rfl rfl _ _ kz (by kernel_rfl) rfl (by simp [Value.oneCell', denc]) ?_)
         (try simp only [Exit.inBlock, Exit.then])
         refine bodyPost_ret (results3_cell' Tryz.results18 _ _ _ _ _ _ _ rfl (Blk_setRow_same kz) Tryz.underlying27 rfl (by kernel_rfl)) rfl ?_
         exact pao_no HF.out (by decide) (Below_setRow cwd (by omega) _)
        ·have HF := Lib.hid (show paE l a day keep c = 0 from paE_0 HOP.out HE.out H3.out H4.out (by rw [← HDS.out]; exact h24))
         have gn : ¬ (240 : Int) < (ds.length : Int) := by omega
         have hn7 : ds.length ≤ 1000 := by omega
         clear h24
         have kb := k0
         clear k0
         have x23 := kb.c23
         have y23 := kb.f23
         go_upto_region 21 with fail
         clear x23 y23
         clear gn
         have kb2 : Bk.Blk (wd.setCell ⟨w.heap.size, 23, none⟩ (.slice (some ⟨gc, 0, none⟩) ds.length cc)) w.heap.size #[.int .i64 l.id, .int .i64 l.ac, .int .i64 l.st, .int .i64 l.pp, .int .i64 l.pi, .int .i64 l.fee, .int .i64 l.pen, .int .i64 l.chg, .int .i64 l.prov, .int .i64 l.loss, .int .i64 l.rcv, .int .i64 l.tm.me, .int .i64 l.tm.pr, .int .i64 l.tm.ppm, .int .i64 l.tm.stt, .int .i64 l.tm.ev, .int .i64 l.tm.ct, .int .i64 l.tm.ba, .int .i64 l.tm.mo, .int .i64 l.tm.pen, .int .i64 l.tm.fe, .string l.tm.cal, .string l.tm.cur, .slice (some ⟨gc, 0, none⟩) ds.length cc, .slice ca l.cs.length ck] 27 := (kb.set_same (i := 23) (u := .slice (some ⟨gc, 0, none⟩) ds.length cc)).conv rfl
         have kz2 : Bk.Blk (wd.setCell ⟨w.heap.size, 23, none⟩ (.slice (some ⟨gc, 0, none⟩) ds.length cc)) (w.heap.size + 2) #[.int .i64 0, .int .i64 0, .int .i64 0, .int .i64 0, .int .i64 0, .int .i64 0, .int .i64 0, .int .i64 0, .int .i64 0, .int .i64 0, .int .i64 0, .int .i64 0, .int .i64 0, .int .i64 0, .int .i64 0, .int .i64 0, .int .i64 0, .int .i64 0, .int .i64 0, .int .i64 0, .int .i64 0, .string { data := #[] }, .string { data := #[] }, .slice none 0 0, .slice none 0 0] 27 := (Bk.Blk.set_ne kz (g' := w.heap.size) (j := 23) (u := .slice (some ⟨gc, 0, none⟩) ds.length cc) (by omega))
         have cv2_ : Below w.heap.size w (wd.setCell ⟨w.heap.size, 23, none⟩ (.slice (some ⟨gc, 0, none⟩) ds.length cc)) := (Below.setCell cwd (p := ⟨w.heap.size, 23, none⟩) (Nat.le_refl _) _)
         have hr72 := (row_put (ad0 := ⟨w.heap.size, 23, none⟩) (u := .slice (some ⟨gc, 0, none⟩) ds.length cc) hr7 (fun ad had => by have := hf7' ad had; show ad.block ≠ w.heap.size; omega))
         clear kb kz cwd hr7
         have kb := kb2
         have kz := kz2
         have hr7 := hr72
         clear kb2 kz2 hr72
         generalize (wd.setCell ⟨w.heap.size, 23, none⟩ (.slice (some ⟨gc, 0, none⟩) ds.length cc)) = v2_ at *
         have s5 : IntKind.i64.wrap (l.pp + pd) = l.pp + pd := by rw [IntKind.wrap_i64]; omega
         have x3 := kb.c3
         have y3 := kb.f3
         go_upto_region 22 with fail
         clear x3 y3
         clear s5
         have kb2 : Bk.Blk (v2_.setCell ⟨w.heap.size, 3, none⟩ (.int .i64 (l.pp + pd))) w.heap.size #[.int .i64 l.id, .int .i64 l.ac, .int .i64 l.st, .int .i64 (l.pp + pd), .int .i64 l.pi, .int .i64 l.fee, .int .i64 l.pen, .int .i64 l.chg, .int .i64 l.prov, .int .i64 l.loss, .int .i64 l.rcv, .int .i64 l.tm.me, .int .i64 l.tm.pr, .int .i64 l.tm.ppm, .int .i64 l.tm.stt, .int .i64 l.tm.ev, .int .i64 l.tm.ct, .int .i64 l.tm.ba, .int .i64 l.tm.mo, .int .i64 l.tm.pen, .int .i64 l.tm.fe, .string l.tm.cal, .string l.tm.cur, .slice (some ⟨gc, 0, none⟩) ds.length cc, .slice ca l.cs.length ck] 27 := (kb.set_same (i := 3) (u := .int .i64 (l.pp + pd))).conv rfl
         have kz2 : Bk.Blk (v2_.setCell ⟨w.heap.size, 3, none⟩ (.int .i64 (l.pp + pd))) (w.heap.size + 2) #[.int .i64 0, .int .i64 0, .int .i64 0, .int .i64 0, .int .i64 0, .int .i64 0, .int .i64 0, .int .i64 0, .int .i64 0, .int .i64 0, .int .i64 0, .int .i64 0, .int .i64 0, .int .i64 0, .int .i64 0, .int .i64 0, .int .i64 0, .int .i64 0, .int .i64 0, .int .i64 0, .int .i64 0, .string { data := #[] }, .string { data := #[] }, .slice none 0 0, .slice none 0 0] 27 := (Bk.Blk.set_ne kz (g' := w.heap.size) (j := 3) (u := .int .i64 (l.pp + pd)) (by omega))
         have cv3_ : Below w.heap.size w (v2_.setCell ⟨w.heap.size, 3, none⟩ (.int .i64 (l.pp + pd))) := (Below.setCell cv2_ (p := ⟨w.heap.size, 3, none⟩) (Nat.le_refl _) _)
         have hr72 := (row_put (ad0 := ⟨w.heap.size, 3, none⟩) (u := .int .i64 (l.pp + pd)) hr7 (fun ad had => by have := hf7' ad had; show ad.block ≠ w.heap.size; omega))
         clear kb kz cv2_ hr7
         have kb := kb2
         have kz := kz2
         have hr7 := hr72
         clear kb2 kz2 hr72
         generalize (v2_.setCell ⟨w.heap.size, 3, none⟩ (.int .i64 (l.pp + pd))) = v3_ at *
         have HQ := Lib.hid (show paQ l a = putL (putL [] 1 F) 4 pd by rw [paQ_put, ← HPD.out, ← HFF.out])
         have hS0 : SQ w w.heap.size #[.int .i64 l.id, .int .i64 l.ac, .int .i64 l.st, .int .i64 (l.pp + pd), .int .i64 l.pi, .int .i64 l.fee, .int .i64 l.pen, .int .i64 l.chg, .int .i64 l.prov, .int .i64 l.loss, .int .i64 l.rcv, .int .i64 l.tm.me, .int .i64 l.tm.pr, .int .i64 l.tm.ppm, .int .i64 l.tm.stt, .int .i64 l.tm.ev, .int .i64 l.tm.ct, .int .i64 l.tm.ba, .int .i64 l.tm.mo, .int .i64 l.tm.pen, .int .i64 l.tm.fe, .string l.tm.cal, .string l.tm.cur, .slice (some ⟨gc, 0, none⟩) ds.length cc, .slice ca l.cs.length ck] 27 v3_.drew := ⟨Bk.Blk.drew kb, cv3_.drew⟩
         refine wp_region_held_drew (S := SQ w w.heap.size #[.int .i64 l.id, .int .i64 l.ac, .int .i64 l.st, .int .i64 (l.pp + pd), .int .i64 l.pi, .int .i64 l.fee, .int .i64 l.pen, .int .i64 l.chg, .int .i64 l.prov, .int .i64 l.loss, .int .i64 l.rcv, .int .i64 l.tm.me, .int .i64 l.tm.pr, .int .i64 l.tm.ppm, .int .i64 l.tm.stt, .int .i64 l.tm.ev, .int .i64 l.tm.ct, .int .i64 l.tm.ba, .int .i64 l.tm.mo, .int .i64 l.tm.pen, .int .i64 l.tm.fe, .string l.tm.cal, .string l.tm.cur, .slice (some ⟨gc, 0, none⟩) ds.length cc, .slice ca l.cs.length ck] 27) (by kernel_rfl) hS0 (fun hS => ?_)
         clear hS0
         refine take_at 0 (by decide) (by kernel_rfl) (by kernel_rfl) (by kernel_rfl) (fun _ _ _ h => h) hS (yields_load_row (by rfl) 27 (.tmp 5) rfl w.heap.size rfl _ _ _ _ (fun W hW => hW.1) Tryz.underlying27 rfl (by kernel_rfl)) ?_
         simp only [z0, z1, Act.put, z3, z4, z5]
         refine tk 2 (by decide) ?_ hS (by kernel_rfl) (by kernel_rfl) (by kernel_rfl) (by rfl) (fun _ _ _ h => h) ?_ ?_
         rotate_left
         ·intro W hW
          clear hW
          simp only [z0, z1]
          go_simp
          first | done | with_reducible rfl
         simp only [z0, z1, Act.put, z3, z4, z5]
         refine tk 4 (by decide) ?_ hS (by kernel_rfl) (by kernel_rfl) (by kernel_rfl) (by rfl) (fun _ _ _ h => h) ?_ ?_
         rotate_left
         ·intro W hW
          clear hW
          simp only [z0, z1]
          go_simp
          first | done | with_reducible rfl
         simp only [z0, z1, Act.put, z3, z4, z5]
         refine one_at 1 (by decide) (by kernel_rfl) (by rfl) (fun K hK => ?_)
         refine value_wp (w' := ((v3_.alloc (.cells #[] 65)).drew)) (by simp only [z0, z1]; go_simp; first | done | rfl | exact ⟨rfl, rfl⟩) ?_
         have hb4 : Below v3_.heap.size v3_ ((v3_.alloc (.cells #[] 65)).drew) := ((Below.refl _ _).alloc (Nat.le_refl _) _).drew
         have hT : SQ w w.heap.size #[.int .i64 l.id, .int .i64 l.ac, .int .i64 l.st, .int .i64 (l.pp + pd), .int .i64 l.pi, .int .i64 l.fee, .int .i64 l.pen, .int .i64 l.chg, .int .i64 l.prov, .int .i64 l.loss, .int .i64 l.rcv, .int .i64 l.tm.me, .int .i64 l.tm.pr, .int .i64 l.tm.ppm, .int .i64 l.tm.stt, .int .i64 l.tm.ev, .int .i64 l.tm.ct, .int .i64 l.tm.ba, .int .i64 l.tm.mo, .int .i64 l.tm.pen, .int .i64 l.tm.fe, .string l.tm.cal, .string l.tm.cur, .slice (some ⟨gc, 0, none⟩) ds.length cc, .slice ca l.cs.length ck] 27 ((v3_.alloc (.cells #[] 65)).drew) := ⟨kb.later hb4, bl2 hb4 cv3_⟩
         replace kz := kz.later hb4
         replace hr7 := hr7.later hb4
         clear hb4 kb cv3_
         refine hK.out _ _ hT (fun hT' => ?_)
         clear hT' hS hK
         have hS := hT
         clear hT
         simp only [z0, z1, Act.put, z3, z4, z5]
         generalize ((v3_.alloc (.cells #[] 65)).drew) = v4_ at *
         refine one_at 3 (by decide) (by kernel_rfl) (by rfl) (fun K hK => ?_)
         refine call_wp (by simp only [z0, z1]; go_simp; first | done | rfl | exact ⟨rfl, rfl⟩) ((put_any (some ⟨v3_.heap.size, 0, none⟩) 0 [] 1 F _ (fun h => by simp at h) (by decide)).mono ?_)
         rintro e v5_ ⟨gp1, pc1, rfl, hp1, _, _, hb⟩
         have hT := SQ.mono _ _ hS hb
         have kzz := kz.later hb
         have hr7 := hr7.later hb
         have hl1 := putL_len [] 1 F
         refine ⟨_, rfl, hK.out _ _ hT (fun hT' => ?_)⟩
         clear hT' hS hK hb kz
         have kz := kzz
         clear kzz
         have hS := hT
         clear hT
         simp only [z0, z1, Act.put, z3, z4, z5]
         have hz5 := kz.lt
         refine one_at 5 (by decide) (by kernel_rfl) (by rfl) (fun K hK => ?_)
         refine call_wp (by simp only [z0, z1]; go_simp; first | done | rfl | exact ⟨rfl, rfl⟩) ((put_any (some ⟨gp1, 0, none⟩) pc1 (putL [] 1 F) 4 pd _ hp1 (by simp at hl1; omega)).mono ?_)
         rintro e v6_ ⟨gp2, pc2, rfl, hp2, hgp2, _, hb⟩
         have hT := SQ.mono _ _ hS hb
         have kzz := kz.later hb
         have hr7 := hr7.later hb
         clear hp1
         refine ⟨_, rfl, hK.out _ _ hT (fun hT' => ?_)⟩
         clear hT' hS hK hb kz
         have kz := kzz
         clear kzz
         have hS := hT
         clear hT
         simp only [z0, z1, Act.put, z3, z4, z5]
         have hgz : w.heap.size + 2 < gp2 := by omega
         refine one_at 6 (by decide) (by kernel_rfl) (by rfl) (fun K hK => ?_)
         simp only [z0, z1]
         refine wp_store_row 27 _ _ rfl (w.heap.size + 2) _ rfl rfl _ _ kz (by kernel_rfl) rfl (one25 ..) ?_
         have hT : SQ w w.heap.size #[.int .i64 l.id, .int .i64 l.ac, .int .i64 l.st, .int .i64 (l.pp + pd), .int .i64 l.pi, .int .i64 l.fee, .int .i64 l.pen, .int .i64 l.chg, .int .i64 l.prov, .int .i64 l.loss, .int .i64 l.rcv, .int .i64 l.tm.me, .int .i64 l.tm.pr, .int .i64 l.tm.ppm, .int .i64 l.tm.stt, .int .i64 l.tm.ev, .int .i64 l.tm.ct, .int .i64 l.tm.ba, .int .i64 l.tm.mo, .int .i64 l.tm.pen, .int .i64 l.tm.fe, .string l.tm.cal, .string l.tm.cur, .slice (some ⟨gc, 0, none⟩) ds.length cc, .slice ca l.cs.length ck] 27 (v6_.setRow (w.heap.size + 2) #[.int .i64 l.id, .int .i64 l.ac, .int .i64 l.st, .int .i64 (l.pp + pd), .int .i64 l.pi, .int .i64 l.fee, .int .i64 l.pen, .int .i64 l.chg, .int .i64 l.prov, .int .i64 l.loss, .int .i64 l.rcv, .int .i64 l.tm.me, .int .i64 l.tm.pr, .int .i64 l.tm.ppm, .int .i64 l.tm.stt, .int .i64 l.tm.ev, .int .i64 l.tm.ct, .int .i64 l.tm.ba, .int .i64 l.tm.mo, .int .i64 l.tm.pen, .int .i64 l.tm.fe, .string l.tm.cal, .string l.tm.cur, .slice (some ⟨gc, 0, none⟩) ds.length cc, .slice ca l.cs.length ck]) := ⟨Blk_setRow_ne hS.1 (by omega), Below_setRow hS.2 (by omega) _⟩
         refine hK.out _ _ hT (fun hT' => ?_)
         clear hT' hS hK
         have hS := hT
         clear hT
         simp only [z0, z1, Act.put, z3, z4, z5]
         refine tk 7 (by decide) ?_ hS (by kernel_rfl) (by kernel_rfl) (by kernel_rfl) (by rfl) (fun _ _ _ h => h) ?_ ?_
         rotate_left
         ·intro W hW
          clear hW
          simp only [z0, z1]
          go_simp
          first | done | with_reducible rfl
         simp only [z0, z1, Act.put, z3, z4, z5]
         refine tk 8 (by decide) ?_ hS (by kernel_rfl) (by kernel_rfl) (by kernel_rfl) (by rfl) (fun _ _ _ h => h) ?_ ?_
         rotate_left
         ·intro W hW
          clear hW
          simp only [z0, z1]
          go_simp
          first | done | with_reducible rfl
         simp only [z0, z1, Act.put, z3, z4, z5]
         refine wpAnyH_done (by kernel_rfl) ?_ _
         rw [← HQ.out] at hp2
         rw [← HQ.out]
         go_wp2_with fail
         refine bodyPost_ret (results3_cell' Tryz.results18 _ _ _ _ _ _ _ rfl (Blk_setRow_same kz) Tryz.underlying27 rfl (by kernel_rfl)) rfl ?_
         exact pao_ok HF.out HDS.out.symm (by rw [HPD.out]) rfl (dues_setRow (dues_of_row (by omega) hr7) (fun ad had => by have := hf7' ad had; omega)) (HC.out _ hS.2) (row_row hp2 (fun ad had => by cases had; show gp2 ≠ _; omega)) hS.2
     ·have HF := Lib.hid (show paE l a day keep c = LE from by rw [HLEE.out, HR.out, HNN.out]; exact paE_4 HOP.out HE.out H3.out (by rw [← HR.out, ← HNN.out, ← HLEE.out]; exact he4))
      have HN := Lib.hid he4
      have g4 : (LE != 0) = true := by simpa using he4
      clear he4
      go_wp2_with (refine wpList_store_row rfl 27 _ _ rfl _ _ rfl rfl _ _ kz (by kernel_rfl) rfl (by simp [Value.oneCell', denc]) ?_)
      (try simp only [Exit.inBlock, Exit.then])
      refine bodyPost_ret (results3_cell' Tryz.results18 _ _ _ _ _ _ _ rfl (Blk_setRow_same kz) Tryz.underlying27 rfl (by kernel_rfl)) rfl ?_
      exact pao_no HF.out HN.out (Below_setRow cw10 (by omega) _)
    ·have HF := Lib.hid (show paE l a day keep c = 6 from paE_3 HOP.out HE.out (by rw [HO2.out, HRS.out]; exact fun e => hg3 e.2.2))
     rw [decide_eq_false hg3]
     clear hg3
     go_wp2_with (refine wpList_store_row rfl 27 _ _ rfl _ _ rfl rfl _ _ kz (by kernel_rfl) rfl (by simp [Value.oneCell', denc]) ?_)
     (try simp only [Exit.inBlock, Exit.then])
     refine bodyPost_ret (results3_cell' Tryz.results18 _ _ _ _ _ _ _ rfl (Blk_setRow_same kz) Tryz.underlying27 rfl (by kernel_rfl)) rfl ?_
     exact pao_no HF.out (by decide) (Below_setRow cw9 (by omega) _)
   ·have HF := Lib.hid (show paE l a day keep c = 6 from paE_3 HOP.out HE.out (by rw [HO2.out, HRS.out]; exact fun e => hg2 e.2.1))
    rw [decide_eq_false hg2]
    clear hg2
    go_wp2_with (refine wpList_store_row rfl 27 _ _ rfl _ _ rfl rfl _ _ kz (by kernel_rfl) rfl (by simp [Value.oneCell', denc]) ?_)
    (try simp only [Exit.inBlock, Exit.then])
    refine bodyPost_ret (results3_cell' Tryz.results18 _ _ _ _ _ _ _ rfl (Blk_setRow_same kz) Tryz.underlying27 rfl (by kernel_rfl)) rfl ?_
    exact pao_no HF.out (by decide) (Below_setRow cw8 (by omega) _)
  ·have HF := Lib.hid (show paE l a day keep c = 6 from paE_3 HOP.out HE.out (by rw [HO2.out, HRS.out]; exact fun e => hg1' e.1))
   rw [decide_eq_false hg1']
   clear hg1'
   go_wp2_with (refine wpList_store_row rfl 27 _ _ rfl _ _ rfl rfl _ _ kz (by kernel_rfl) rfl (by simp [Value.oneCell', denc]) ?_)
   (try simp only [Exit.inBlock, Exit.then])
   refine bodyPost_ret (results3_cell' Tryz.results18 _ _ _ _ _ _ _ rfl (Blk_setRow_same kz) Tryz.underlying27 rfl (by kernel_rfl)) rfl ?_
   exact pao_no HF.out (by decide) (Below_setRow cw7 (by omega) _)
 ·rw [if_neg he]
  have HF := Lib.hid (paE_ex he)
  have HN := Lib.hid he
  have g1 : (exE l a day keep c != 0) = true := by simpa using he
  clear he
  generalize exE l a day keep c = E at HF HN g1 ⊢
  go_wp2_with (refine wpList_store_row rfl 27 _ _ rfl _ _ rfl rfl _ _ kz (by kernel_rfl) rfl (by simp [Value.oneCell', denc]) ?_)
  (try simp only [Exit.inBlock, Exit.then])
  refine bodyPost_ret (results3_cell' Tryz.results18 _ _ _ _ _ _ _ rfl (Blk_setRow_same kz) Tryz.underlying27 rfl (by kernel_rfl)) rfl ?_
  exact pao_no HF.out HN.out (Below_setRow cw2 (by omega) _)
end Go.Proofs.YtaanicginfjgdaaGreatDoor.Pp

namespace Go.Proofs.YtaanicginfjgdaaGreatDoor.Pp
open Go Go.RowKit
open Go.Proofs.YtaanicginfjgdaaGreatDoor
open Go.Proofs.YtaanicginfjgdaaGreatDoor.Ln (Tm Ch Du Lo Pa sum prs its P I due chk Ok ok_iff wrap_in wrap_add powed zLo LoIn DuesIn RowIn OwnR denc denc_len cenc cenc_len penc penc_len tenc flat flat_len Dok dues_of_row bl2 SB SB.mono SQ SQ.mono take_at one_at two_at call_at call_wp call_one call_pv value_wp yields_load_row Blk_setRow_same Blk_setRow_ne Below_setRow dues_setRow row_row one25 load_guarded results2_cell dues_lt rowc_lt rangeAt_later tk ts z0 z1 z3 z4 z5)
open Go.Proofs.YtaanicginfjgdaaGreatDoor.Rd (gd pcV pcE Stp)
open Go.Proofs.YtaanicginfjgdaaGreatDoor.Kl (Cl CalIn skE)
set_option linter.unusedSimpArgs false
set_option linter.unusedVariables false
set_option maxRecDepth 100000

theorem paL_len {l : Lo} {a day keep : Int} {c : Cl} (h2 : l.cs.length ≤ 70) : (paL l a day keep c).ds.length ≤ 100000 ∧ (paL l a day keep c).cs.length ≤ 100000 ∧ (paP l a day keep c).length ≤ 100000 := by
 refine ⟨?_, ?_, ?_⟩
 ·unfold paL
  split
  ·rename_i h
   have := (pa_parts h).n
   show (paD l a day keep).length ≤ _
   omega
  ·exact Nat.zero_le _
 ·unfold paL
  split
  ·show l.cs.length ≤ _
   omega
  ·exact Nat.zero_le _
 ·unfold paP
  split
  ·have : (paQ l a).length ≤ 2 := List.length_filter_le ..
   omega
  ·exact Nat.zero_le _
theorem pa_at {l M : Lo} {ps : List Pa} {a day keep E : Int} {c : Cl} {w : World} {f : FuncId} {args : Array Value} (hM : M = paL l a day keep c) (hps : ps = paP l a day keep c) (hE : E = paE l a day keep c) (h : Calls Tryz.prog f args w (PaO l a day keep c w)) : Calls Tryz.prog f args w fun e w' => ∃ da dk ca ck pa pc, e = .returned (.tuple #[(.agg #[.int .i64 (M).id, .int .i64 (M).ac, .int .i64 (M).st, .int .i64 (M).pp, .int .i64 (M).pi, .int .i64 (M).fee, .int .i64 (M).pen, .int .i64 (M).chg, .int .i64 (M).prov, .int .i64 (M).loss, .int .i64 (M).rcv, .int .i64 ((M).tm).me, .int .i64 ((M).tm).pr, .int .i64 ((M).tm).ppm, .int .i64 ((M).tm).stt, .int .i64 ((M).tm).ev, .int .i64 ((M).tm).ct, .int .i64 ((M).tm).ba, .int .i64 ((M).tm).mo, .int .i64 ((M).tm).pen, .int .i64 ((M).tm).fe, .string ((M).tm).cal, .string ((M).tm).cur, .slice da (M).ds.length dk, .slice ca (M).cs.length ck]), .slice pa ps.length pc, .int .i64 E]) ∧ DuesIn w' da M.ds ∧ RowIn cenc w' ca M.cs ∧ RowIn penc w' pa ps ∧ Below w.heap.size w w' := by
 subst hM hps hE
 exact h
set_option maxHeartbeats 16000000 in
theorem partials35_walk (l : Lo) (da ca : Option Addr) (dk ck : Nat) (a day keep : Int) (c : Cl) (wa ha : Option Addr) (wc hc : Nat) (_ : (Lit.int .i64 a).wf = true) (_ : (Lit.int .i64 day).wf = true) (_ : (Lit.int .i64 keep).wf = true) (w : World) (hl : LoIn w l da ca) (hk : Dok l.ds) (hdk : l.ds.length ≤ dk) (hcal : CalIn w c wa ha) (hS : Stp w) :
  Calls Tryz.prog 5 #[(.agg #[.int .i64 (l).id, .int .i64 (l).ac, .int .i64 (l).st, .int .i64 (l).pp, .int .i64 (l).pi, .int .i64 (l).fee, .int .i64 (l).pen, .int .i64 (l).chg, .int .i64 (l).prov, .int .i64 (l).loss, .int .i64 (l).rcv, .int .i64 ((l).tm).me, .int .i64 ((l).tm).pr, .int .i64 ((l).tm).ppm, .int .i64 ((l).tm).stt, .int .i64 ((l).tm).ev, .int .i64 ((l).tm).ct, .int .i64 ((l).tm).ba, .int .i64 ((l).tm).mo, .int .i64 ((l).tm).pen, .int .i64 ((l).tm).fe, .string ((l).tm).cal, .string ((l).tm).cur, .slice da (l).ds.length dk, .slice ca (l).cs.length ck]), .agg #[.int .i64 a, .int .i64 day, .int .i64 keep], (.agg #[.string (c).nm, .slice wa (c).wk.length wc, .slice ha (c).hol.length hc])] w fun e w' => e = .returned (.bool true) ∧ Below w.heap.size w w' := by
 have cw1 : Below w.heap.size w (((w.alloc (.cells #[.int .i64 (l).id, .int .i64 (l).ac, .int .i64 (l).st, .int .i64 (l).pp, .int .i64 (l).pi, .int .i64 (l).fee, .int .i64 (l).pen, .int .i64 (l).chg, .int .i64 (l).prov, .int .i64 (l).loss, .int .i64 (l).rcv, .int .i64 ((l).tm).me, .int .i64 ((l).tm).pr, .int .i64 ((l).tm).ppm, .int .i64 ((l).tm).stt, .int .i64 ((l).tm).ev, .int .i64 ((l).tm).ct, .int .i64 ((l).tm).ba, .int .i64 ((l).tm).mo, .int .i64 ((l).tm).pen, .int .i64 ((l).tm).fe, .string ((l).tm).cal, .string ((l).tm).cur, .slice da (l).ds.length dk, .slice ca (l).cs.length ck] 27)).alloc (.cells #[.int .i64 a, .int .i64 day, .int .i64 keep] 41)).alloc (.cells #[.string c.nm, .slice wa c.wk.length wc, .slice ha c.hol.length hc] 44)) := (((Below.refl _ _).alloc (Nat.le_refl _) _).alloc (by simp) _).alloc (by simp; omega) _
 have k0 : Bk.Blk (((w.alloc (.cells #[.int .i64 (l).id, .int .i64 (l).ac, .int .i64 (l).st, .int .i64 (l).pp, .int .i64 (l).pi, .int .i64 (l).fee, .int .i64 (l).pen, .int .i64 (l).chg, .int .i64 (l).prov, .int .i64 (l).loss, .int .i64 (l).rcv, .int .i64 ((l).tm).me, .int .i64 ((l).tm).pr, .int .i64 ((l).tm).ppm, .int .i64 ((l).tm).stt, .int .i64 ((l).tm).ev, .int .i64 ((l).tm).ct, .int .i64 ((l).tm).ba, .int .i64 ((l).tm).mo, .int .i64 ((l).tm).pen, .int .i64 ((l).tm).fe, .string ((l).tm).cal, .string ((l).tm).cur, .slice da (l).ds.length dk, .slice ca (l).cs.length ck] 27)).alloc (.cells #[.int .i64 a, .int .i64 day, .int .i64 keep] 41)).alloc (.cells #[.string c.nm, .slice wa c.wk.length wc, .slice ha c.hol.length hc] 44)) w.heap.size _ 27 := Bk.Blk.nw30
 have ka : Bk.Blk (((w.alloc (.cells #[.int .i64 (l).id, .int .i64 (l).ac, .int .i64 (l).st, .int .i64 (l).pp, .int .i64 (l).pi, .int .i64 (l).fee, .int .i64 (l).pen, .int .i64 (l).chg, .int .i64 (l).prov, .int .i64 (l).loss, .int .i64 (l).rcv, .int .i64 ((l).tm).me, .int .i64 ((l).tm).pr, .int .i64 ((l).tm).ppm, .int .i64 ((l).tm).stt, .int .i64 ((l).tm).ev, .int .i64 ((l).tm).ct, .int .i64 ((l).tm).ba, .int .i64 ((l).tm).mo, .int .i64 ((l).tm).pen, .int .i64 ((l).tm).fe, .string ((l).tm).cal, .string ((l).tm).cur, .slice da (l).ds.length dk, .slice ca (l).cs.length ck] 27)).alloc (.cells #[.int .i64 a, .int .i64 day, .int .i64 keep] 41)).alloc (.cells #[.string c.nm, .slice wa c.wk.length wc, .slice ha c.hol.length hc] 44)) (w.heap.size + 1) _ 41 := Bk.Blk.nw31
 have kc : Bk.Blk (((w.alloc (.cells #[.int .i64 (l).id, .int .i64 (l).ac, .int .i64 (l).st, .int .i64 (l).pp, .int .i64 (l).pi, .int .i64 (l).fee, .int .i64 (l).pen, .int .i64 (l).chg, .int .i64 (l).prov, .int .i64 (l).loss, .int .i64 (l).rcv, .int .i64 ((l).tm).me, .int .i64 ((l).tm).pr, .int .i64 ((l).tm).ppm, .int .i64 ((l).tm).stt, .int .i64 ((l).tm).ev, .int .i64 ((l).tm).ct, .int .i64 ((l).tm).ba, .int .i64 ((l).tm).mo, .int .i64 ((l).tm).pen, .int .i64 ((l).tm).fe, .string ((l).tm).cal, .string ((l).tm).cur, .slice da (l).ds.length dk, .slice ca (l).cs.length ck] 27)).alloc (.cells #[.int .i64 a, .int .i64 day, .int .i64 keep] 41)).alloc (.cells #[.string c.nm, .slice wa c.wk.length wc, .slice ha c.hol.length hc] 44)) (w.heap.size + 2) _ 44 := Bk.Blk.nw32
 have HC := Lib.hid (fun W (hW : Below w.heap.size w W) => hl.c.later hW)
 have HI := Lib.hid (fun W (hW : Below w.heap.size w W) => hl.d.later hW)
 have HCL := Lib.hid (fun W (hW : Below w.heap.size w W) => hcal.later hW)
 have HST := Lib.hid (fun W (hW : Below w.heap.size w W) => hS.of hW)
 have HDK := Lib.hid hk
 clear hl hS hcal hk
 go_enter Tryz.func5, Tryz.ntmps5
 go_upto_region 1 with fail
 generalize (((w.alloc (.cells _ 27)).alloc (.cells _ 41)).alloc (.cells _ 44)) = w1 at *
 go_wp2_with (first | (refine wpList_load_row rfl 27 _ rfl _ rfl _ _ _ _ k0 Tryz.underlying27 rfl (by kernel_rfl) ?_) | (refine load_guarded 27 _ rfl rfl _ rfl _ _ _ _ k0 Tryz.underlying27 rfl (by kernel_rfl) ?_) | (refine wpList_load_row rfl 44 _ rfl _ rfl _ _ _ _ kc Tryz.underlying44 rfl (by kernel_rfl) ?_) | (refine load_guarded 44 _ rfl rfl _ rfl _ _ _ _ kc Tryz.underlying44 rfl (by kernel_rfl) ?_))
 refine (great35_any l da ca dk ck _ (HC.out _ cw1)).mono ?_
 rintro e w2 ⟨b, rfl, hbb, hb⟩
 have cw2 := bl2 hb cw1
 replace k0 := k0.later hb
 replace ka := ka.later hb
 replace kc := kc.later hb
 clear hb cw1
 cases b
 ·have hbd := hbb rfl
  clear hbb
  go_wp2_with (first | (refine wpList_load_row rfl 27 _ rfl _ rfl _ _ _ _ k0 Tryz.underlying27 rfl (by kernel_rfl) ?_) | (refine load_guarded 27 _ rfl rfl _ rfl _ _ _ _ k0 Tryz.underlying27 rfl (by kernel_rfl) ?_) | (refine wpList_load_row rfl 44 _ rfl _ rfl _ _ _ _ kc Tryz.underlying44 rfl (by kernel_rfl) ?_) | (refine load_guarded 44 _ rfl rfl _ rfl _ _ _ _ kc Tryz.underlying44 rfl (by kernel_rfl) ?_))
  refine (broad_any c wa ha wc hc _).mono ?_
  rintro e w3 ⟨b2, rfl, hb⟩
  have cw3 := bl2 hb cw2
  replace k0 := k0.later hb
  replace ka := ka.later hb
  replace kc := kc.later hb
  clear hb cw2
  cases b2
  ·have hd : DuesIn w3 da l.ds := dues_of_row (by omega) (HI.out _ cw3)
   have hcu : l.tm.cur.size ≤ maxLen := by have := hbd.2.2; unfold maxLen; omega
   obtain ⟨hml, hmc, hmp⟩ := paL_len (l := l) (a := a) (day := day) (keep := keep) (c := c) hbd.2.1
   obtain ⟨M, hM⟩ : ∃ M, M = paL l a day keep c := ⟨_, rfl⟩
   obtain ⟨ps, hps⟩ : ∃ M, M = paP l a day keep c := ⟨_, rfl⟩
   obtain ⟨E, hE⟩ : ∃ M, M = paE l a day keep c := ⟨_, rfl⟩
   rw [← hM] at hml hmc
   rw [← hps] at hmp
   have H1 := Lib.hid (pa_at hM hps hE (partial_any l da ca dk ck a day keep c wa ha wc hc w3 hd (HC.out _ cw3) hdk (by omega) (HCL.out _ cw3) hcu (HST.out _ cw3)))
   have H2 := Lib.hid (fun W hd hc' hcl => pa_at hM hps hE (rpartial35_any l da ca dk ck a day keep c wa ha wc hc W hd hc' HDK.out hdk hcl hcu))
   clear hM hps hE hcu
   have l0 := ka.c0
   have l1 := ka.c1
   have l2 := ka.c2
   go_wp2_with (first | (refine wpList_load_row rfl 27 _ rfl _ rfl _ _ _ _ k0 Tryz.underlying27 rfl (by kernel_rfl) ?_) | (refine load_guarded 27 _ rfl rfl _ rfl _ _ _ _ k0 Tryz.underlying27 rfl (by kernel_rfl) ?_) | (refine wpList_load_row rfl 44 _ rfl _ rfl _ _ _ _ kc Tryz.underlying44 rfl (by kernel_rfl) ?_) | (refine load_guarded 44 _ rfl rfl _ rfl _ _ _ _ kc Tryz.underlying44 rfl (by kernel_rfl) ?_))
   clear l0 l1 l2
   refine H1.out.mono ?_
   clear H1
   rintro e w4 ⟨da1, dk1, ca1, ck1, pa1, pc1, rfl, hd1, hc1, hp1, hb⟩
   have cw4 := bl2 hb cw3
   replace k0 := k0.later hb
   replace ka := ka.later hb
   replace kc := kc.later hb
   replace hd := hd.later hb
   clear hb cw3
   go_upto_region 4 with (refine wpList_store_row rfl 27 _ _ rfl _ _ rfl rfl _ _ Bk.Blk.nw10 (by kernel_rfl) rfl (by simp [Value.oneCell', denc]) ?_)
   have hX : Below w4.heap.size w4 ((w4.alloc (.cells #[.int .i64 0, .int .i64 0, .int .i64 0, .int .i64 0, .int .i64 0, .int .i64 0, .int .i64 0, .int .i64 0, .int .i64 0, .int .i64 0, .int .i64 0, .int .i64 0, .int .i64 0, .int .i64 0, .int .i64 0, .int .i64 0, .int .i64 0, .int .i64 0, .int .i64 0, .int .i64 0, .int .i64 0, .string { data := #[] }, .string { data := #[] }, .slice none 0 0, .slice none 0 0] 27)).setRow w4.heap.size #[.int .i64 (M).id, .int .i64 (M).ac, .int .i64 (M).st, .int .i64 (M).pp, .int .i64 (M).pi, .int .i64 (M).fee, .int .i64 (M).pen, .int .i64 (M).chg, .int .i64 (M).prov, .int .i64 (M).loss, .int .i64 (M).rcv, .int .i64 ((M).tm).me, .int .i64 ((M).tm).pr, .int .i64 ((M).tm).ppm, .int .i64 ((M).tm).stt, .int .i64 ((M).tm).ev, .int .i64 ((M).tm).ct, .int .i64 ((M).tm).ba, .int .i64 ((M).tm).mo, .int .i64 ((M).tm).pen, .int .i64 ((M).tm).fe, .string ((M).tm).cal, .string ((M).tm).cur, .slice da1 (M).ds.length dk1, .slice ca1 (M).cs.length ck1]) := Below_setRow ((Below.refl _ _).alloc (Nat.le_refl _) _) (Nat.le_refl _) _
   have k5 : Bk.Blk ((w4.alloc (.cells #[.int .i64 0, .int .i64 0, .int .i64 0, .int .i64 0, .int .i64 0, .int .i64 0, .int .i64 0, .int .i64 0, .int .i64 0, .int .i64 0, .int .i64 0, .int .i64 0, .int .i64 0, .int .i64 0, .int .i64 0, .int .i64 0, .int .i64 0, .int .i64 0, .int .i64 0, .int .i64 0, .int .i64 0, .string { data := #[] }, .string { data := #[] }, .slice none 0 0, .slice none 0 0] 27)).setRow w4.heap.size #[.int .i64 (M).id, .int .i64 (M).ac, .int .i64 (M).st, .int .i64 (M).pp, .int .i64 (M).pi, .int .i64 (M).fee, .int .i64 (M).pen, .int .i64 (M).chg, .int .i64 (M).prov, .int .i64 (M).loss, .int .i64 (M).rcv, .int .i64 ((M).tm).me, .int .i64 ((M).tm).pr, .int .i64 ((M).tm).ppm, .int .i64 ((M).tm).stt, .int .i64 ((M).tm).ev, .int .i64 ((M).tm).ct, .int .i64 ((M).tm).ba, .int .i64 ((M).tm).mo, .int .i64 ((M).tm).pen, .int .i64 ((M).tm).fe, .string ((M).tm).cal, .string ((M).tm).cur, .slice da1 (M).ds.length dk1, .slice ca1 (M).cs.length ck1]) w4.heap.size _ 27 := Blk_setRow_same Bk.Blk.nw10
   have cw5 := bl2 hX cw4
   replace k0 := k0.later hX
   replace ka := ka.later hX
   replace kc := kc.later hX
   replace hd := hd.later hX
   replace hd1 := hd1.later hX
   replace hc1 := hc1.later hX
   replace hp1 := hp1.later hX
   clear hX cw4
   generalize ((w4.alloc (.cells _ 27)).setRow w4.heap.size _) = w5 at *
   generalize w4.heap.size = gb5 at *
   have l0 := ka.c0
   have l1 := ka.c1
   have l2 := ka.c2
   go_wp2_with (first | (refine wpList_load_row rfl 27 _ rfl _ rfl _ _ _ _ k0 Tryz.underlying27 rfl (by kernel_rfl) ?_) | (refine load_guarded 27 _ rfl rfl _ rfl _ _ _ _ k0 Tryz.underlying27 rfl (by kernel_rfl) ?_) | (refine wpList_load_row rfl 44 _ rfl _ rfl _ _ _ _ kc Tryz.underlying44 rfl (by kernel_rfl) ?_) | (refine load_guarded 44 _ rfl rfl _ rfl _ _ _ _ kc Tryz.underlying44 rfl (by kernel_rfl) ?_))
   clear l0 l1 l2
   refine (H2.out _ hd (HC.out _ cw5) (HCL.out _ cw5)).mono ?_
   clear H2
   rintro e w6 ⟨da2, dk2, ca2, ck2, pa2, pc2, rfl, hd2, hc2, hp2, hb⟩
   have cw6 := bl2 hb cw5
   replace k5 := k5.later hb
   replace hd1 := hd1.later hb
   replace hc1 := hc1.later hb
   replace hp1 := hp1.later hb
   clear hb cw5 k0 ka kc hd
   go_upto_region 5 with (refine wpList_store_row rfl 27 _ _ rfl _ _ rfl rfl _ _ Bk.Blk.nw10 (by kernel_rfl) rfl (by simp [Value.oneCell', denc]) ?_)
   have hX : Below w6.heap.size w6 ((w6.alloc (.cells #[.int .i64 0, .int .i64 0, .int .i64 0, .int .i64 0, .int .i64 0, .int .i64 0, .int .i64 0, .int .i64 0, .int .i64 0, .int .i64 0, .int .i64 0, .int .i64 0, .int .i64 0, .int .i64 0, .int .i64 0, .int .i64 0, .int .i64 0, .int .i64 0, .int .i64 0, .int .i64 0, .int .i64 0, .string { data := #[] }, .string { data := #[] }, .slice none 0 0, .slice none 0 0] 27)).setRow w6.heap.size #[.int .i64 (M).id, .int .i64 (M).ac, .int .i64 (M).st, .int .i64 (M).pp, .int .i64 (M).pi, .int .i64 (M).fee, .int .i64 (M).pen, .int .i64 (M).chg, .int .i64 (M).prov, .int .i64 (M).loss, .int .i64 (M).rcv, .int .i64 ((M).tm).me, .int .i64 ((M).tm).pr, .int .i64 ((M).tm).ppm, .int .i64 ((M).tm).stt, .int .i64 ((M).tm).ev, .int .i64 ((M).tm).ct, .int .i64 ((M).tm).ba, .int .i64 ((M).tm).mo, .int .i64 ((M).tm).pen, .int .i64 ((M).tm).fe, .string ((M).tm).cal, .string ((M).tm).cur, .slice da2 (M).ds.length dk2, .slice ca2 (M).cs.length ck2]) := Below_setRow ((Below.refl _ _).alloc (Nat.le_refl _) _) (Nat.le_refl _) _
   have k6 : Bk.Blk ((w6.alloc (.cells #[.int .i64 0, .int .i64 0, .int .i64 0, .int .i64 0, .int .i64 0, .int .i64 0, .int .i64 0, .int .i64 0, .int .i64 0, .int .i64 0, .int .i64 0, .int .i64 0, .int .i64 0, .int .i64 0, .int .i64 0, .int .i64 0, .int .i64 0, .int .i64 0, .int .i64 0, .int .i64 0, .int .i64 0, .string { data := #[] }, .string { data := #[] }, .slice none 0 0, .slice none 0 0] 27)).setRow w6.heap.size #[.int .i64 (M).id, .int .i64 (M).ac, .int .i64 (M).st, .int .i64 (M).pp, .int .i64 (M).pi, .int .i64 (M).fee, .int .i64 (M).pen, .int .i64 (M).chg, .int .i64 (M).prov, .int .i64 (M).loss, .int .i64 (M).rcv, .int .i64 ((M).tm).me, .int .i64 ((M).tm).pr, .int .i64 ((M).tm).ppm, .int .i64 ((M).tm).stt, .int .i64 ((M).tm).ev, .int .i64 ((M).tm).ct, .int .i64 ((M).tm).ba, .int .i64 ((M).tm).mo, .int .i64 ((M).tm).pen, .int .i64 ((M).tm).fe, .string ((M).tm).cal, .string ((M).tm).cur, .slice da2 (M).ds.length dk2, .slice ca2 (M).cs.length ck2]) w6.heap.size _ 27 := Blk_setRow_same Bk.Blk.nw10
   have cw7 := bl2 hX cw6
   replace k5 := k5.later hX
   replace hd1 := hd1.later hX
   replace hc1 := hc1.later hX
   replace hp1 := hp1.later hX
   replace hd2 := hd2.later hX
   replace hc2 := hc2.later hX
   replace hp2 := hp2.later hX
   clear hX cw6
   generalize ((w6.alloc (.cells _ 27)).setRow w6.heap.size _) = w7 at *
   generalize w6.heap.size = gb6 at *
   go_wp2_with (first | (refine wpList_load_row rfl 27 _ rfl _ rfl _ _ _ _ k5 Tryz.underlying27 rfl (by kernel_rfl) ?_) | (refine load_guarded 27 _ rfl rfl _ rfl _ _ _ _ k5 Tryz.underlying27 rfl (by kernel_rfl) ?_) | (refine wpList_load_row rfl 27 _ rfl _ rfl _ _ _ _ k6 Tryz.underlying27 rfl (by kernel_rfl) ?_) | (refine load_guarded 27 _ rfl rfl _ rfl _ _ _ _ k6 Tryz.underlying27 rfl (by kernel_rfl) ?_))
   refine (Ln.same_any M da1 ca1 da2 ca2 dk1 ck1 dk2 ck2 _ hd1.row hd2.row hc1 hc2 hml hmc).mono ?_
   rintro e w8 ⟨rfl, hb⟩
   have cw8 := bl2 hb cw7
   replace hp1 := hp1.later hb
   replace hp2 := hp2.later hb
   clear hb cw7
   go_wp2_with fail
   refine (Ln.sameparts_any pa1 pa2 pc1 pc2 ps _ hp1 hp2 hmp).mono ?_
   rintro e w9 ⟨rfl, hb⟩
   have cw9 := bl2 hb cw8
   clear hb cw8
   go_wp2_with fail
   refine (live35_any _ (HST.out _ cw9)).mono ?_
   rintro e wz ⟨rfl, hb⟩
   have cwz := bl2 hb cw9
   clear hb
   go_wp2_with fail
   go_ret
   exact ⟨rfl, cwz⟩
  ·go_wp2_with fail
   refine (live35_any _ (HST.out _ cw3)).mono ?_
   rintro e wz ⟨rfl, hb⟩
   have cwz := bl2 hb cw3
   clear hb
   go_wp2_with fail
   go_ret
   exact ⟨rfl, cwz⟩
 ·go_wp2_with fail
  refine (live35_any _ (HST.out _ cw2)).mono ?_
  rintro e wz ⟨rfl, hb⟩
  have cwz := bl2 hb cw2
  clear hb
  go_wp2_with fail
  go_ret
  exact ⟨rfl, cwz⟩
end Go.Proofs.YtaanicginfjgdaaGreatDoor.Pp
