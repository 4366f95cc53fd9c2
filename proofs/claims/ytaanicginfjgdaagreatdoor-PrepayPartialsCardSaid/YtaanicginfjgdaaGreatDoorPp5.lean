/-
 Prepay: a loan that is settled.
-/
import Derived.Test.YtaanicginfjgdaaGreatDoorPpa
namespace Go.Proofs.YtaanicginfjgdaaGreatDoor.Pp
open Go Go.RowKit
open Go.Proofs.YtaanicginfjgdaaGreatDoor
open Go.Proofs.YtaanicginfjgdaaGreatDoor.Ln (Tm Ch Du Lo Pa sum prs its P I due chk Ok ok_iff wrap_in wrap_add powed zLo LoIn DuesIn RowIn OwnR denc denc_len cenc cenc_len penc penc_len tenc flat flat_len Dok dues_of_row bl2 SB SB.mono SQ SQ.mono take_at one_at two_at call_at call_wp call_one call_pv value_wp yields_load_row Blk_setRow_same Blk_setRow_ne Below_setRow dues_setRow row_row one25 load_guarded results2_cell dues_lt rowc_lt rangeAt_later tk ts z0 z1 z3 z4 z5)
open Go.Proofs.YtaanicginfjgdaaGreatDoor.Ln (row_put flat_mem denc_one key2_of)
open Go.Proofs.YtaanicginfjgdaaGreatDoor.Sr (GV DV app_due grown_blk grown_below)
open Go.Proofs.YtaanicginfjgdaaGreatDoor.Rd (gd pcV pcE Stp)
open Go.Proofs.YtaanicginfjgdaaGreatDoor.Kl (Cl CalIn skE)
set_option linter.unusedSimpArgs false
set_option linter.unusedVariables false
set_option maxRecDepth 100000

def FuO (l : Lo) (day : Int) (w : World) (e : Ending) (w' : World) : Prop := ∃ da dk ca ck pa pc, e = .returned (.tuple #[(.agg #[.int .i64 ((fuL l day)).id, .int .i64 ((fuL l day)).ac, .int .i64 ((fuL l day)).st, .int .i64 ((fuL l day)).pp, .int .i64 ((fuL l day)).pi, .int .i64 ((fuL l day)).fee, .int .i64 ((fuL l day)).pen, .int .i64 ((fuL l day)).chg, .int .i64 ((fuL l day)).prov, .int .i64 ((fuL l day)).loss, .int .i64 ((fuL l day)).rcv, .int .i64 (((fuL l day)).tm).me, .int .i64 (((fuL l day)).tm).pr, .int .i64 (((fuL l day)).tm).ppm, .int .i64 (((fuL l day)).tm).stt, .int .i64 (((fuL l day)).tm).ev, .int .i64 (((fuL l day)).tm).ct, .int .i64 (((fuL l day)).tm).ba, .int .i64 (((fuL l day)).tm).mo, .int .i64 (((fuL l day)).tm).pen, .int .i64 (((fuL l day)).tm).fe, .string (((fuL l day)).tm).cal, .string (((fuL l day)).tm).cur, .slice da ((fuL l day)).ds.length dk, .slice ca ((fuL l day)).cs.length ck]), .slice pa (fuP l day).length pc, .int .i64 (fuE l day)]) ∧ DuesIn w' da (fuL l day).ds ∧ RowIn cenc w' ca (fuL l day).cs ∧ RowIn penc w' pa (fuP l day) ∧ Below w.heap.size w w'
theorem fuo_no {l : Lo} {day E : Int} {w w' : World} (h : fuE l day = E) (h0 : E ≠ 0) (hb : Below w.heap.size w w') : FuO l day w (.returned (.tuple #[.agg #[.int .i64 0, .int .i64 0, .int .i64 0, .int .i64 0, .int .i64 0, .int .i64 0, .int .i64 0, .int .i64 0, .int .i64 0, .int .i64 0, .int .i64 0, .int .i64 0, .int .i64 0, .int .i64 0, .int .i64 0, .int .i64 0, .int .i64 0, .int .i64 0, .int .i64 0, .int .i64 0, .int .i64 0, .string { data := #[] }, .string { data := #[] }, .slice none 0 0, .slice none 0 0], .slice none 0 0, .int .i64 E])) w' := by
 have hl : fuL l day = zLo := if_neg (by rw [h]; exact h0)
 have hp : fuP l day = [] := if_neg (by rw [h]; exact h0)
 refine ⟨none, 0, none, 0, none, 0, ?_, ?_, ?_, ?_, hb⟩
 ·rw [hl, h, hp]; rfl
 ·rw [hl]; exact ⟨by decide, fun h => by simp [zLo] at h⟩
 ·rw [hl]; exact fun h => by simp [zLo] at h
 ·rw [hp]; exact fun h => by simp at h
theorem fuo_ok {l : Lo} {day : Int} {w w' : World} {da ca pa : Option Addr} {dk ck pc : Nat} {ds : List Du} {ps : List Pa} (h : fuE l day = 0) (hds : fuD l day = ds) (hps : fuQ l day = ps) (hd : DuesIn w' da ds) (hc : RowIn cenc w' ca l.cs) (hp : RowIn penc w' pa ps) (hb : Below w.heap.size w w') : FuO l day w (.returned (.tuple #[.agg #[.int .i64 l.id, .int .i64 l.ac, .int .i64 2, .int .i64 (P ds), .int .i64 (I ds), .int .i64 0, .int .i64 0, .int .i64 l.chg, .int .i64 l.prov, .int .i64 l.loss, .int .i64 l.rcv, .int .i64 (l.tm).me, .int .i64 (l.tm).pr, .int .i64 (l.tm).ppm, .int .i64 (l.tm).stt, .int .i64 (l.tm).ev, .int .i64 (l.tm).ct, .int .i64 (l.tm).ba, .int .i64 (l.tm).mo, .int .i64 (l.tm).pen, .int .i64 (l.tm).fe, .string (l.tm).cal, .string (l.tm).cur, .slice da ds.length dk, .slice ca l.cs.length ck], .slice pa ps.length pc, .int .i64 0])) w' := by
 subst hds hps
 have hl : fuL l day = fuO l day := if_pos h
 have hq : fuP l day = fuQ l day := if_pos h
 refine ⟨da, dk, ca, ck, pa, pc, ?_, ?_, ?_, ?_, hb⟩
 ·rw [hl, h, hq]; rfl
 ·rw [hl]; exact hd
 ·rw [hl]; exact hc
 ·rw [hq]; exact hp
theorem fuE_1 {l : Lo} {day : Int} (h : qtE l day ≠ 0) : fuE l day = qtE l day := if_pos h
theorem fuE_2 {l : Lo} {day : Int} (h : qtE l day = 0) (h2 : atN l day < l.ds.length) (h3 : ¬ (gd (one1 l day).pr ∧ gd (one1 l day).it)) : fuE l day = 6 := (if_neg (fun e => e h)).trans (if_pos ⟨h2, h3⟩)
theorem fuE_0 {l : Lo} {day : Int} (h : qtE l day = 0) (h3 : atN l day < l.ds.length → (gd (one1 l day).pr ∧ gd (one1 l day).it)) : fuE l day = 0 := (if_neg (fun e => e h)).trans (if_neg (fun e => e.2 (h3 e.1)))
set_option maxHeartbeats 32000000 in
theorem full_any (l : Lo) (da ca : Option Addr) (dk ck : Nat) (day : Int) (w : World) (h : DuesIn w da l.ds) (hc : RowIn cenc w ca l.cs) (hdk : l.ds.length ≤ dk) (hcn : l.cs.length ≤ 100000) (hS : Stp w) : Calls Tryz.prog 12 #[(.agg #[.int .i64 (l).id, .int .i64 (l).ac, .int .i64 (l).st, .int .i64 (l).pp, .int .i64 (l).pi, .int .i64 (l).fee, .int .i64 (l).pen, .int .i64 (l).chg, .int .i64 (l).prov, .int .i64 (l).loss, .int .i64 (l).rcv, .int .i64 ((l).tm).me, .int .i64 ((l).tm).pr, .int .i64 ((l).tm).ppm, .int .i64 ((l).tm).stt, .int .i64 ((l).tm).ev, .int .i64 ((l).tm).ct, .int .i64 ((l).tm).ba, .int .i64 ((l).tm).mo, .int .i64 ((l).tm).pen, .int .i64 ((l).tm).fe, .string ((l).tm).cal, .string ((l).tm).cur, .slice da (l).ds.length dk, .slice ca (l).cs.length ck]), .int .i64 day] w (FuO l day w) := by
 have cw : Below w.heap.size w ((w.alloc (.cells #[.int .i64 (l).id, .int .i64 (l).ac, .int .i64 (l).st, .int .i64 (l).pp, .int .i64 (l).pi, .int .i64 (l).fee, .int .i64 (l).pen, .int .i64 (l).chg, .int .i64 (l).prov, .int .i64 (l).loss, .int .i64 (l).rcv, .int .i64 ((l).tm).me, .int .i64 ((l).tm).pr, .int .i64 ((l).tm).ppm, .int .i64 ((l).tm).stt, .int .i64 ((l).tm).ev, .int .i64 ((l).tm).ct, .int .i64 ((l).tm).ba, .int .i64 ((l).tm).mo, .int .i64 ((l).tm).pen, .int .i64 ((l).tm).fe, .string ((l).tm).cal, .string ((l).tm).cur, .slice da (l).ds.length dk, .slice ca (l).cs.length ck] 27)).alloc (.cells #[.int .i64 0, .int .i64 0, .int .i64 0, .int .i64 0, .int .i64 0, .int .i64 0, .int .i64 0, .int .i64 0, .int .i64 0, .int .i64 0, .int .i64 0, .int .i64 0, .int .i64 0, .int .i64 0, .int .i64 0, .int .i64 0, .int .i64 0, .int .i64 0, .int .i64 0, .int .i64 0, .int .i64 0, .string { data := #[] }, .string { data := #[] }, .slice none 0 0, .slice none 0 0] 27)) := ((Below.refl _ _).alloc (Nat.le_refl _) _).alloc (by simp) _
 have k0 : Bk.Blk ((w.alloc (.cells #[.int .i64 (l).id, .int .i64 (l).ac, .int .i64 (l).st, .int .i64 (l).pp, .int .i64 (l).pi, .int .i64 (l).fee, .int .i64 (l).pen, .int .i64 (l).chg, .int .i64 (l).prov, .int .i64 (l).loss, .int .i64 (l).rcv, .int .i64 ((l).tm).me, .int .i64 ((l).tm).pr, .int .i64 ((l).tm).ppm, .int .i64 ((l).tm).stt, .int .i64 ((l).tm).ev, .int .i64 ((l).tm).ct, .int .i64 ((l).tm).ba, .int .i64 ((l).tm).mo, .int .i64 ((l).tm).pen, .int .i64 ((l).tm).fe, .string ((l).tm).cal, .string ((l).tm).cur, .slice da (l).ds.length dk, .slice ca (l).cs.length ck] 27)).alloc (.cells #[.int .i64 0, .int .i64 0, .int .i64 0, .int .i64 0, .int .i64 0, .int .i64 0, .int .i64 0, .int .i64 0, .int .i64 0, .int .i64 0, .int .i64 0, .int .i64 0, .int .i64 0, .int .i64 0, .int .i64 0, .int .i64 0, .int .i64 0, .int .i64 0, .int .i64 0, .int .i64 0, .int .i64 0, .string { data := #[] }, .string { data := #[] }, .slice none 0 0, .slice none 0 0] 27)) w.heap.size _ 27 := Bk.Blk.nw20
 have kz : Bk.Blk ((w.alloc (.cells #[.int .i64 (l).id, .int .i64 (l).ac, .int .i64 (l).st, .int .i64 (l).pp, .int .i64 (l).pi, .int .i64 (l).fee, .int .i64 (l).pen, .int .i64 (l).chg, .int .i64 (l).prov, .int .i64 (l).loss, .int .i64 (l).rcv, .int .i64 ((l).tm).me, .int .i64 ((l).tm).pr, .int .i64 ((l).tm).ppm, .int .i64 ((l).tm).stt, .int .i64 ((l).tm).ev, .int .i64 ((l).tm).ct, .int .i64 ((l).tm).ba, .int .i64 ((l).tm).mo, .int .i64 ((l).tm).pen, .int .i64 ((l).tm).fe, .string ((l).tm).cal, .string ((l).tm).cur, .slice da (l).ds.length dk, .slice ca (l).cs.length ck] 27)).alloc (.cells #[.int .i64 0, .int .i64 0, .int .i64 0, .int .i64 0, .int .i64 0, .int .i64 0, .int .i64 0, .int .i64 0, .int .i64 0, .int .i64 0, .int .i64 0, .int .i64 0, .int .i64 0, .int .i64 0, .int .i64 0, .int .i64 0, .int .i64 0, .int .i64 0, .int .i64 0, .int .i64 0, .int .i64 0, .string { data := #[] }, .string { data := #[] }, .slice none 0 0, .slice none 0 0] 27)) (w.heap.size + 1) _ 27 := Bk.Blk.nw21
 have hd := h.later cw
 have hS1 := hS.of cw
 have HC := Lib.hid (fun W (hW : Below w.heap.size w W) => hc.later hW)
 clear h hS hc
 go_enter Tryz.func12, Tryz.ntmps12
 go_upto_region 1 with fail
 generalize ((w.alloc (.cells _ 27)).alloc (.cells _ 27)) = w1 at *
 have cw1 := cw
 clear cw
 go_wp2_with (refine wpList_load_row rfl 27 _ rfl _ rfl _ _ _ _ (k0) Tryz.underlying27 rfl (by kernel_rfl) ?_)
 refine (quote_any l da ca dk ck day _ hd hdk hS1).mono ?_
 rintro e w2 ⟨cs, rfl, h27, h1c, hvw, hb⟩
 have hgz := kz.lt
 replace k0 := k0.later hb
 replace kz := kz.later hb
 have hd2 := hd.later hb
 have cw2 := bl2 hb cw1
 clear hb cw1 hd hS1
 go_upto_region 2 with (refine wpList_store_row rfl 56 _ _ rfl _ _ rfl rfl _ _ Bk.Blk.nw10 (by rw [h27]; kernel_rfl) h27.symm h1c ?_)
 have hbv : Below w2.heap.size w2 ((w2.alloc (.cells #[.int .i64 0, .int .i64 0, .int .i64 0, .int .i64 0, .int .i64 0, .int .i64 0, .int .i64 0, .int .i64 0, .int .i64 0, .int .i64 0, .int .i64 0, .int .i64 0, .int .i64 0, .int .i64 0, .int .i64 0, .int .i64 0, .int .i64 0, .int .i64 0, .int .i64 0, .int .i64 0, .int .i64 0, .string { data := #[] }, .string { data := #[] }, .slice none 0 0, .slice none 0 0, .slice none 0 0, .slice none 0 0] 56)).setRow w2.heap.size cs) := Below_setRow ((Below.refl _ _).alloc (Nat.le_refl _) _) (Nat.le_refl _) _
 have kv : Bk.Blk ((w2.alloc (.cells #[.int .i64 0, .int .i64 0, .int .i64 0, .int .i64 0, .int .i64 0, .int .i64 0, .int .i64 0, .int .i64 0, .int .i64 0, .int .i64 0, .int .i64 0, .int .i64 0, .int .i64 0, .int .i64 0, .int .i64 0, .int .i64 0, .int .i64 0, .int .i64 0, .int .i64 0, .int .i64 0, .int .i64 0, .string { data := #[] }, .string { data := #[] }, .slice none 0 0, .slice none 0 0, .slice none 0 0, .slice none 0 0] 56)).setRow w2.heap.size cs) w2.heap.size cs 56 := Blk_setRow_same Bk.Blk.nw10
 have hg2 := kz.lt
 have cw3 := bl2 hbv cw2
 replace k0 := k0.later hbv
 replace kz := kz.later hbv
 replace hd2 := hd2.later hbv
 clear hbv cw2 hgz
 generalize ((w2.alloc (.cells _ 56)).setRow w2.heap.size cs) = w3 at *
 generalize w2.heap.size = gv at *
 by_cases he : qtE l day = 0
 ·have hgv3 := kv.lt
  have HE := Lib.hid he
  obtain ⟨a2, k2, rfl, hsn⟩ := hvw he
  have HSN := Lib.hid hsn
  obtain ⟨ho, hday, hst, hgl, hgn⟩ := qt_parts he
  have hvw2 := view ho day
  have hl := lat_bd ho day
  have hfe := fe_ok ho (a := lat l day) hl.1 hgl.2
  rw [show qtF l day = feV l (lat l day) from if_pos he]
  have g1 : (qtE l day != 0) = false := by rw [he]; rfl
  clear he h27 h1c hsn hvw
  generalize qtV l day = N at *
  generalize qtE l day = E at g1 ⊢
  have HDA := Lib.hid (fun W (hW : Below w3.heap.size w3 W) => hd2.later hW)
  have HD2 := Lib.hid (fun W (hW : Below w3.heap.size w3 W) => HSN.out W (hd2.later hW))
  have HC3 := Lib.hid (fun W (hW : Below w3.heap.size w3 W) => HC.out W (bl2 hW cw3))
  obtain ⟨F, hF⟩ : ∃ F, F = feV l (lat l day) := ⟨_, rfl⟩
  rw [← hF]
  rw [← hF] at hfe
  have HFF := Lib.hid hF
  clear hF hd2
  have HIN := Lib.hid (fun W (hW : SB w3 W) => inter_any l da ca dk ck da a2 dk k2 day W ho (dues_fst (HDA.out _ hW) _) (HD2.out _ hW))
  have HOU := Lib.hid (fun W (hW : SB w3 W) => Ln.out_any l da ca dk ck W (HDA.out _ hW))
  have hga := gd_amt ho
  have hpp := ho.pp
  have hpp' := ho.pp'
  have hpi := ho.pi
  have hpi' := ho.pi'
  have v1 := hvw2.P2
  rw [show wrap64 (P l.ds - l.pp) = P l.ds - l.pp by unfold wrap64; omega] at HOU
  have s1 : IntKind.i64.wrap (l.fee + F) = l.fee + F := by unfold gd at hgl; rw [IntKind.wrap_i64]; omega
  have HQ := Lib.hid (show fuQ l day = ppz [⟨1, l.fee + F⟩, ⟨2, l.pen⟩, ⟨3, itn l day⟩, ⟨4, P l.ds - l.pp⟩] by rw [HFF.out]; rfl)
  obtain ⟨T, hT⟩ : ∃ T, T = itn l day := ⟨_, rfl⟩
  obtain ⟨O, hO⟩ : ∃ O, O = P l.ds - l.pp := ⟨_, rfl⟩
  rw [← hT] at HIN HQ
  rw [← hO] at HOU HQ
  clear hT hO
  go_upto_region 4 with fail
  have hS0 : SB w3 w3.drew := (Below.refl _ _).drew
  refine wp_region_held_drew (S := SB w3) (by kernel_rfl) hS0 (fun hS => ?_)
  clear hS0
  refine tk 0 (by decide) ?_ hS (by kernel_rfl) (by kernel_rfl) (by kernel_rfl) (by rfl) (fun _ _ _ h => h) ?_ ?_
  rotate_left
  ·intro W hW
   clear hW
   simp only [z0, z1]
   go_simp
   first | done | with_reducible rfl
  simp only [z0, z1, Act.put, z3, z4, z5]
  refine tk 2 (by decide) ?_ hS (by kernel_rfl) (by kernel_rfl) (by kernel_rfl) (by rfl) (fun _ _ _ h => h) ?_ ?_
  rotate_left
  ·intro W hW
   clear hW
   simp only [z0, z1]
   go_simp
   first | done | with_reducible rfl
  simp only [z0, z1, Act.put, z3, z4, z5]
  refine tk 5 (by decide) ?_ hS (by kernel_rfl) (by kernel_rfl) (by kernel_rfl) (by rfl) (fun _ _ _ h => h) ?_ ?_
  rotate_left
  ·intro W hW
   clear hW
   simp only [z0, z1]
   go_simp
   first | done | with_reducible rfl
  simp only [z0, z1, Act.put, z3, z4, z5]
  refine take_at 8 (by decide) (by kernel_rfl) (by kernel_rfl) (by kernel_rfl) (fun _ _ _ h => h) hS (yields_load_row (by rfl) 56 (.tmp 7) rfl gv rfl _ _ _ _ (fun W hW => (kv.later hW)) Tryz.underlying56 rfl (by kernel_rfl)) ?_
  simp only [z0, z1, Act.put, z3, z4, z5]
  refine take_at 11 (by decide) (by kernel_rfl) (by kernel_rfl) (by kernel_rfl) (fun _ _ _ h => h) hS (yields_load_row (by rfl) 27 (.tmp 2) rfl w.heap.size rfl _ _ _ _ (fun W hW => (k0.later hW)) Tryz.underlying27 rfl (by kernel_rfl)) ?_
  simp only [z0, z1, Act.put, z3, z4, z5]
  refine tk 1 (by decide) ?_ hS (by kernel_rfl) (by kernel_rfl) (by kernel_rfl) (by rfl) (fun _ _ _ h => h) ?_ ?_
  rotate_left
  ·intro W hW
   have q := (k0.later hW).c5
   clear hW
   simp only [z0, z1]
   go_simp
   first | done | with_reducible rfl
  simp only [z0, z1, Act.put, z3, z4, z5]
  refine tk 6 (by decide) ?_ hS (by kernel_rfl) (by kernel_rfl) (by kernel_rfl) (by rfl) (fun _ _ _ h => h) ?_ ?_
  rotate_left
  ·intro W hW
   have q := (k0.later hW).c6
   clear hW
   simp only [z0, z1]
   go_simp
   first | done | with_reducible rfl
  simp only [z0, z1, Act.put, z3, z4, z5]
  refine tk 3 (by decide) ?_ hS (by kernel_rfl) (by kernel_rfl) (by kernel_rfl) (by rfl) (fun _ _ _ h => h) ?_ ?_
  rotate_left
  ·intro W hW
   clear hW
   simp only [z0, z1]
   go_simp
   first | done | with_reducible rfl
  simp only [z0, z1, Act.put, z3, z4, z5]
  refine tk 7 (by decide) ?_ hS (by kernel_rfl) (by kernel_rfl) (by kernel_rfl) (by rfl) (fun _ _ _ h => h) ?_ ?_
  rotate_left
  ·intro W hW
   clear hW
   simp only [z0, z1]
   go_simp
   first | done | with_reducible rfl
  simp only [z0, z1, Act.put, z3, z4, z5]
  refine tk 4 (by decide) ?_ hS (by kernel_rfl) (by kernel_rfl) (by kernel_rfl) (by rfl) (fun _ _ _ h => h) ?_ ?_
  rotate_left
  ·intro W hW
   clear hW
   simp only [z0, z1]
   go_simp
   first | done | with_reducible rfl
  simp only [z0, z1, Act.put, z3, z4, z5]
  refine call_at 9 (by decide) (Pi := (fun v _ => v = .int .i64 T)) (by kernel_rfl) (by rfl) (by simp only [z0, z1]; go_simp; first | done | rfl | exact ⟨rfl, rfl⟩) (call_one SB.mono hS (HIN.out _ hS)) ?_
  clear hS
  rintro u1 u hS rfl
  simp only [z0, z1, Act.put, z3, z4, z5]
  refine tk 10 (by decide) ?_ hS (by kernel_rfl) (by kernel_rfl) (by kernel_rfl) (by rfl) (fun _ _ _ h => h) ?_ ?_
  rotate_left
  ·intro W hW
   clear hW
   simp only [z0, z1]
   go_simp
   first | done | with_reducible rfl
  simp only [z0, z1, Act.put, z3, z4, z5]
  refine call_at 12 (by decide) (Pi := (fun v _ => v = .int .i64 O)) (by kernel_rfl) (by rfl) (by simp only [z0, z1]; go_simp; first | done | rfl | exact ⟨rfl, rfl⟩) (call_one SB.mono hS (HOU.out _ hS)) ?_
  clear hS
  rintro u2 u hS rfl
  simp only [z0, z1, Act.put, z3, z4, z5]
  refine tk 13 (by decide) ?_ hS (by kernel_rfl) (by kernel_rfl) (by kernel_rfl) (by rfl) (fun _ _ _ h => h) ?_ ?_
  rotate_left
  ·intro W hW
   clear hW
   simp only [z0, z1]
   go_simp
   first | done | with_reducible rfl
  simp only [z0, z1, Act.put, z3, z4, z5]
  refine one_at 14 (by decide) (by kernel_rfl) (by rfl) (fun K hK => ?_)
  refine value_wp (by simp only [z0, z1]; go_simp; first | done | rfl | exact ⟨rfl, rfl⟩) ?_
  have hb4 : Below u2.heap.size u2 (u2.alloc (.cells #[.int .i64 1, .int .i64 (l.fee + F), .int .i64 2, .int .i64 l.pen, .int .i64 3, .int .i64 T, .int .i64 4, .int .i64 O] 65)) := (Below.refl _ _).alloc (Nat.le_refl _) _
  have hn4 : RowIn penc (u2.alloc (.cells #[.int .i64 1, .int .i64 (l.fee + F), .int .i64 2, .int .i64 l.pen, .int .i64 3, .int .i64 T, .int .i64 4, .int .i64 O] 65)) (some ⟨u2.heap.size, 0, none⟩) [⟨1, l.fee + F⟩, ⟨2, l.pen⟩, ⟨3, T⟩, ⟨4, O⟩] := row_cells Bk.Blk.nw10
  have hT := SB.mono _ _ hS hb4
  refine hK.out _ _ hT (fun hT' => ?_)
  clear hT' hb4 hK hS
  have hS := hT
  clear hT
  simp only [z0, z1, Act.put, z3, z4, z5]
  generalize (u2.alloc (.cells _ 65)) = u3 at *
  generalize u2.heap.size = gq at *
  refine one_at 15 (by decide) (by kernel_rfl) (by rfl) (fun K hK => ?_)
  refine call_wp (by simp only [z0, z1]; go_simp; first | done | rfl | exact ⟨rfl, rfl⟩) ((parts_any [⟨1, l.fee + F⟩, ⟨2, l.pen⟩, ⟨3, T⟩, ⟨4, O⟩] (some ⟨gq, 0, none⟩) 4 u3 hn4 (by simp) (by simp)).mono ?_)
  rintro e u4 ⟨gp, pc, rfl, hp, hgp, hb⟩
  have hT := SB.mono _ _ hS hb
  have hgp3 : w3.heap.size ≤ gp := Nat.le_trans hS.size hgp
  refine ⟨_, rfl, hK.out _ _ hT (fun hT' => ?_)⟩
  clear hT' hS hK hb hn4 hgp
  have hS := hT
  clear hT
  simp only [z0, z1, Act.put, z3, z4, z5]
  refine tk 16 (by decide) ?_ hS (by kernel_rfl) (by kernel_rfl) (by kernel_rfl) (by rfl) (fun _ _ _ h => h) ?_ ?_
  rotate_left
  ·intro W hW
   clear hW
   simp only [z0, z1]
   go_simp
   first | done | with_reducible rfl
  simp only [z0, z1, Act.put, z3, z4, z5]
  refine wpAnyH_done (by kernel_rfl) ?_ _
  have cw4 := bl2 hS cw3
  have d4 : Below w3.heap.size w3 u4 := hS
  replace k0 := k0.later hS
  replace kz := kz.later hS
  replace kv := kv.later hS
  rw [← HQ.out] at hp ⊢
  obtain ⟨ps, hps⟩ : ∃ ps, ps = fuQ l day := ⟨_, rfl⟩
  rw [← hps] at hp ⊢
  have HPS := Lib.hid hps.symm
  clear hps HQ HIN HOU hS cw3 s1
  have hg3 := kv.lt
  have hfl0 := fst_len l day
  have HFL := Lib.hid hfl0
  clear hfl0
  have hal := at_le l day
  have hn2 := ho.n2
  have HSL := Lib.hid (snd_len l day)
  have l25 := kv.c25
  go_wp2_with fail
  clear l25
  refine (cloned_gv da dk (fst l day) _ (dues_fst (HDA.out _ d4) _) (by have := HFL.out; omega)).mono ?_
  rintro e u5 ⟨v, rfl, hv, d5⟩
  obtain ⟨av, cv, rfl⟩ := hv.len
  have cw5 := bl2 d5 cw4
  have l26 := (kv.later d5).c26
  have HVW := Lib.hid hvw2
  clear hvw2
  by_cases hs : 0 < (snd l day).length
  ·have hz : (0 : Int) < ((snd l day).length : Int) := by omega
   go_wp2_with fail
   clear l26
   refine (Kl.stotal_any a2 k2 (snd l day) _ (HD2.out _ (bl2 d5 d4))).mono ?_
   rintro e u6 ⟨rfl, hb⟩
   have d6 := bl2 hb d5
   replace hv := hv.later hb
   have l25 := (kv.later d6).c25
   clear hb d5 cw5
   go_wp2_with fail
   clear l25
   refine (Kl.stotal_any da dk (fst l day) _ (dues_fst (HDA.out _ (bl2 d6 d4)) _)).mono ?_
   rintro e u7 ⟨rfl, hb⟩
   have d7 := bl2 hb d6
   replace hv := hv.later hb
   clear hb d6
   have w1 := HVW.out.i0
   have w2 := HVW.out.i1
   have w3 := HVW.out.x1
   have w4 := HVW.out.x0
   have i2 := HVW.out.I2
   have hsub : IntKind.i64.wrap (l.pi - I (fst l day)) = l.pi - I (fst l day) := by rw [IntKind.wrap_i64]; omega
   have hadd : IntKind.i64.wrap (((fst l day).length : Int) + 1) = ((fst l day).length : Int) + 1 := by have := HFL.out; rw [IntKind.wrap_i64]; omega
   have hfd : ∀ (a b c d : Int) (W : World), (Instr.field 53 (.agg #[.int .i64 a, .int .i64 b, .int .i64 c, .int .i64 d]) 3).run Tryz.prog W = .ok (.int .i64 d) W := fun a b c d W => by kernel_rfl
   have HNX := Lib.hid (fun W (hW : SB u7 W) => next_any l da ca dk ck da a2 dk k2 day W (HD2.out _ (bl2 (bl2 hW d7) d4)))
   have hO1 : one1 l day = ⟨((fst l day).length : Int) + 1, day, P (snd l day), max (nx l day).it (l.pi - I (fst l day))⟩ := by rw [HFL.out]; rfl
   have HO1 := Lib.hid hO1
   clear hO1
   have hlt : atN l day < l.ds.length := by have := HSL.out; omega
   generalize nx l day = d at *
   obtain ⟨M, hM⟩ : ∃ M, M = max d.it (l.pi - I (fst l day)) := ⟨_, rfl⟩
   rw [← hM] at HO1
   have HM := Lib.hid hM
   clear hM
   have hS0 : SB u7 u7.drew := (Below.refl _ _).drew
   have k07 := k0.later d7
   have kv7 := kv.later d7
   go_upto_region 9 with fail
   apply key2_of (fun (W : World) (g17 : Nat) => SB u7 W ∧ Bk.Blk W g17 #[.int .i64 (((fst l day).length : Int) + 1), .int .i64 day, .int .i64 (P (snd l day)), .int .i64 M] 53)
   ·intro KEY
    refine wp_region_held_drew (S := SB u7) (by kernel_rfl) hS0 (fun hS => ?_)
    refine tk 0 (by decide) ?_ hS (by kernel_rfl) (by kernel_rfl) (by kernel_rfl) (by rfl) (fun _ _ _ h => h) ?_ ?_
    rotate_left
    ·intro W hW
     clear hW
     simp only [z0, z1]
     go_simp
     first | done | with_reducible rfl
    simp only [z0, z1, Act.put, z3, z4, z5]
    refine tk 3 (by decide) ?_ hS (by kernel_rfl) (by kernel_rfl) (by kernel_rfl) (by rfl) (fun _ _ _ h => h) ?_ ?_
    rotate_left
    ·intro W hW
     clear hW
     simp only [z0, z1]
     go_simp
     first | done | with_reducible rfl
    simp only [z0, z1, Act.put, z3, z4, z5]
    refine tk 4 (by decide) ?_ hS (by kernel_rfl) (by kernel_rfl) (by kernel_rfl) (by rfl) (fun _ _ _ h => h) ?_ ?_
    rotate_left
    ·intro W hW
     clear hW
     simp only [z0, z1]
     go_simp
     first | done | with_reducible rfl
    simp only [z0, z1, Act.put, z3, z4, z5]
    refine take_at 5 (by decide) (by kernel_rfl) (by kernel_rfl) (by kernel_rfl) (fun _ _ _ h => h) hS (yields_load_row (by rfl) 56 (.tmp 7) rfl gv rfl _ _ _ _ (fun W hW => (kv7.later hW)) Tryz.underlying56 rfl (by kernel_rfl)) ?_
    simp only [z0, z1, Act.put, z3, z4, z5]
    refine tk 8 (by decide) ?_ hS (by kernel_rfl) (by kernel_rfl) (by kernel_rfl) (by rfl) (fun _ _ _ h => h) ?_ ?_
    rotate_left
    ·intro W hW
     clear hW
     simp only [z0, z1]
     go_simp
     first | done | with_reducible rfl
    simp only [z0, z1, Act.put, z3, z4, z5]
    refine tk 10 (by decide) ?_ hS (by kernel_rfl) (by kernel_rfl) (by kernel_rfl) (by rfl) (fun _ _ _ h => h) ?_ ?_
    rotate_left
    ·intro W hW
     clear hW
     simp only [z0, z1]
     go_simp
     first | done | with_reducible rfl
    simp only [z0, z1, Act.put, z3, z4, z5]
    refine tk 1 (by decide) ?_ hS (by kernel_rfl) (by kernel_rfl) (by kernel_rfl) (by rfl) (fun _ _ _ h => h) ?_ ?_
    rotate_left
    ·intro W hW
     clear hW
     simp only [z0, z1]
     go_simp
     first | done | with_reducible rfl
    simp only [z0, z1, Act.put, z3, z4, z5]
    refine tk 9 (by decide) ?_ hS (by kernel_rfl) (by kernel_rfl) (by kernel_rfl) (by rfl) (fun _ _ _ h => h) ?_ ?_
    rotate_left
    ·intro W hW
     have q := (k07.later hW).c4
     clear hW
     simp only [z0, z1]
     go_simp
     first | done | with_reducible rfl
    simp only [z0, z1, Act.put, z3, z4, z5]
    refine tk 2 (by decide) ?_ hS (by kernel_rfl) (by kernel_rfl) (by kernel_rfl) (by rfl) (fun _ _ _ h => h) ?_ ?_
    rotate_left
    ·intro W hW
     clear hW
     simp only [z0, z1]
     go_simp
     first | done | with_reducible rfl
    simp only [z0, z1, Act.put, z3, z4, z5]
    refine tk 11 (by decide) ?_ hS (by kernel_rfl) (by kernel_rfl) (by kernel_rfl) (by rfl) (fun _ _ _ h => h) ?_ ?_
    rotate_left
    ·intro W hW
     clear hW
     simp only [z0, z1]
     go_simp
     first | done | with_reducible rfl
    simp only [z0, z1, Act.put, z3, z4, z5]
    refine two_at 6 14 (by decide) (by decide) (by kernel_rfl) (by rfl) (by rfl) (fun K hK => ?_) (fun K hK => ?_)
    ·refine call_wp (by simp only [z0, z1]; go_simp; first | done | rfl | exact ⟨rfl, rfl⟩) ((HNX.out _ hS).mono ?_)
     rintro e u0 ⟨rfl, hb⟩
     have hT := SB.mono _ _ hS hb
     refine ⟨_, rfl, hK.out _ _ hT (fun hT' => ?_)⟩
     clear hT' hS hK hb
     have hS := hT
     clear hT
     simp only [z0, z1, Act.put, z3, z4, z5]
     refine tk 7 (by decide) ?_ hS (by kernel_rfl) (by kernel_rfl) (by kernel_rfl) (by rfl) (fun _ _ _ h => h) ?_ ?_
     rotate_left
     ·intro W hW
      clear hW
      simp only [z0, z1]
      go_simp
      first | done | with_reducible rfl
     simp only [z0, z1, Act.put, z3, z4, z5]
     refine tk 12 (by decide) ?_ hS (by kernel_rfl) (by kernel_rfl) (by kernel_rfl) (by rfl) (fun _ _ _ h => h) ?_ ?_
     rotate_left
     ·intro W hW
      have hM' := HM.out.symm
      clear hW
      simp only [z0, z1]
      go_simp
      first | done | with_reducible rfl
     simp only [z0, z1, Act.put, z3, z4, z5]
     refine tk 13 (by decide) ?_ hS (by kernel_rfl) (by kernel_rfl) (by kernel_rfl) (by rfl) (fun _ _ _ h => h) ?_ ?_
     rotate_left
     ·intro W hW
      clear hW
      simp only [z0, z1]
      go_simp
      first | done | with_reducible rfl
     simp only [z0, z1, Act.put, z3, z4, z5]
     refine one_at 14 (by decide) (by kernel_rfl) (by rfl) (fun K hK => ?_)
     refine value_wp (by simp only [z0, z1]; go_simp; first | done | rfl | exact ⟨rfl, rfl⟩) ?_
     have hX : Below u0.heap.size u0 (u0.alloc (.cells #[.int .i64 0, .int .i64 0, .int .i64 0, .int .i64 0] 53)) := (Below.refl _ _).alloc (Nat.le_refl _) _
     have hT : SB u7 (u0.alloc (.cells #[.int .i64 0, .int .i64 0, .int .i64 0, .int .i64 0] 53)) := SB.mono _ _ hS hX
     have hN : Bk.Blk (u0.alloc (.cells #[.int .i64 0, .int .i64 0, .int .i64 0, .int .i64 0] 53)) u0.heap.size _ 53 := Bk.Blk.nw10
     have hg : u7.heap.size ≤ u0.heap.size := Below.size hS
     have hlt := hN.lt
     refine hK.out _ _ hT (fun hT' => ?_)
     clear hT' hS hK hX
     have hS := hT
     clear hT
     simp only [z0, z1, Act.put, z3, z4, z5]
     generalize (u0.alloc (.cells _ 53)) = v1 at *
     obtain ⟨ga1, eg⟩ : ∃ g, g = u0.heap.size := ⟨_, rfl⟩
     rw [← eg] at hN hlt ⊢
     replace hg : u7.heap.size ≤ ga1 := by omega
     clear eg
     refine one_at 15 (by decide) (by kernel_rfl) (by rfl) (fun K hK => ?_)
     simp only [z0, z1]
     refine wp_store_row 53 _ _ rfl ga1 _ rfl rfl _ _ hN (by kernel_rfl) rfl (by simp [Value.oneCell']) ?_
     have hT : SB u7 (v1.setRow ga1 #[.int .i64 (((fst l day).length : Int) + 1), .int .i64 day, .int .i64 (P (snd l day)), .int .i64 M]) := Below_setRow hS hg _
     have hz17 : Bk.Blk (v1.setRow ga1 #[.int .i64 (((fst l day).length : Int) + 1), .int .i64 day, .int .i64 (P (snd l day)), .int .i64 M]) ga1 _ 53 := Blk_setRow_same hN
     refine hK.out _ _ hT (fun hT' => ?_)
     clear hT' hS hK
     have hS := hT
     clear hT
     simp only [z0, z1, Act.put, z3, z4, z5]
     generalize (v1.setRow ga1 #[.int .i64 (((fst l day).length : Int) + 1), .int .i64 day, .int .i64 (P (snd l day)), .int .i64 M]) = ws at *
     refine wpAnyH_done (by kernel_rfl) ?_ _
     exact KEY ws ga1 ⟨hS, hz17⟩
    ·refine value_wp (by simp only [z0, z1]; go_simp; first | done | rfl | exact ⟨rfl, rfl⟩) ?_
     have hT : SB u7 ((u7.alloc (.cells #[.int .i64 0, .int .i64 0, .int .i64 0, .int .i64 0] 53)).drew) := ((Below.refl _ _).alloc (Nat.le_refl _) _).drew
     have hX := hT
     have hN : Bk.Blk ((u7.alloc (.cells #[.int .i64 0, .int .i64 0, .int .i64 0, .int .i64 0] 53)).drew) u7.heap.size _ 53 := Bk.Blk.drew Bk.Blk.nw10
     have hg : u7.heap.size ≤ u7.heap.size := Nat.le_refl _
     have hlt := hN.lt
     refine hK.out _ _ hT (fun hT' => ?_)
     clear hT' hS hK hX
     have hS := hT
     clear hT
     simp only [z0, z1, Act.put, z3, z4, z5]
     generalize ((u7.alloc (.cells _ 53)).drew) = v0 at *
     obtain ⟨ga0, eg⟩ : ∃ g, g = u7.heap.size := ⟨_, rfl⟩
     rw [← eg] at hN hlt ⊢
     replace hg : u7.heap.size ≤ ga0 := by omega
     clear eg
     refine one_at 6 (by decide) (by kernel_rfl) (by rfl) (fun K hK => ?_)
     refine call_wp (by simp only [z0, z1]; go_simp; first | done | rfl | exact ⟨rfl, rfl⟩) ((HNX.out _ hS).mono ?_)
     rintro e u1 ⟨rfl, hb⟩
     have hT := SB.mono _ _ hS hb
     replace hN := hN.later hb
     refine ⟨_, rfl, hK.out _ _ hT (fun hT' => ?_)⟩
     clear hT' hS hK hb
     have hS := hT
     clear hT
     simp only [z0, z1, Act.put, z3, z4, z5]
     refine tk 7 (by decide) ?_ hS (by kernel_rfl) (by kernel_rfl) (by kernel_rfl) (by rfl) (fun _ _ _ h => h) ?_ ?_
     rotate_left
     ·intro W hW
      clear hW
      simp only [z0, z1]
      go_simp
      first | done | with_reducible rfl
     simp only [z0, z1, Act.put, z3, z4, z5]
     refine tk 12 (by decide) ?_ hS (by kernel_rfl) (by kernel_rfl) (by kernel_rfl) (by rfl) (fun _ _ _ h => h) ?_ ?_
     rotate_left
     ·intro W hW
      have hM' := HM.out.symm
      clear hW
      simp only [z0, z1]
      go_simp
      first | done | with_reducible rfl
     simp only [z0, z1, Act.put, z3, z4, z5]
     refine tk 13 (by decide) ?_ hS (by kernel_rfl) (by kernel_rfl) (by kernel_rfl) (by rfl) (fun _ _ _ h => h) ?_ ?_
     rotate_left
     ·intro W hW
      clear hW
      simp only [z0, z1]
      go_simp
      first | done | with_reducible rfl
     simp only [z0, z1, Act.put, z3, z4, z5]
     refine one_at 15 (by decide) (by kernel_rfl) (by rfl) (fun K hK => ?_)
     simp only [z0, z1]
     refine wp_store_row 53 _ _ rfl ga0 _ rfl rfl _ _ hN (by kernel_rfl) rfl (by simp [Value.oneCell']) ?_
     have hT : SB u7 (u1.setRow ga0 #[.int .i64 (((fst l day).length : Int) + 1), .int .i64 day, .int .i64 (P (snd l day)), .int .i64 M]) := Below_setRow hS hg _
     have hz17 : Bk.Blk (u1.setRow ga0 #[.int .i64 (((fst l day).length : Int) + 1), .int .i64 day, .int .i64 (P (snd l day)), .int .i64 M]) ga0 _ 53 := Blk_setRow_same hN
     refine hK.out _ _ hT (fun hT' => ?_)
     clear hT' hS hK
     have hS := hT
     clear hT
     simp only [z0, z1, Act.put, z3, z4, z5]
     generalize (u1.setRow ga0 #[.int .i64 (((fst l day).length : Int) + 1), .int .i64 day, .int .i64 (P (snd l day)), .int .i64 M]) = ws at *
     refine wpAnyH_done (by kernel_rfl) ?_ _
     exact KEY ws ga0 ⟨hS, hz17⟩
   ·intro u8 g17 ⟨hS8, k17⟩
    have d8 := bl2 hS8 d7
    replace hv := hv.later hS8
    clear hS8 d7 HNX hS0 k07 kv7 HM hfd hsub
    have q2 := k17.c2
    go_wp2_with fail
    clear q2
    refine (mval_any (P (snd l day)) _).mono ?_
    rintro e u9 ⟨rfl, hb⟩
    have d9 := bl2 hb d8
    replace hv := hv.later hb
    replace k17 := k17.later hb
    clear hb d8
    by_cases hg1 : gd (P (snd l day))
    ·rw [decide_eq_true hg1]
     have q3 := k17.c3
     go_wp2_with fail
     clear q3
     refine (mval_any M _).mono ?_
     rintro e ua ⟨rfl, hb⟩
     have da1 := bl2 hb d9
     replace hv := hv.later hb
     replace k17 := k17.later hb
     clear hb d9
     by_cases hg2 : gd M
     ·rw [decide_eq_true hg2]
      have HF0 := Lib.hid (fuE_0 HE.out (fun _ => by rw [HO1.out]; exact ⟨hg1, hg2⟩))
      have HD0 := Lib.hid (show fuD l day = fst l day ++ [⟨((fst l day).length : Int) + 1, day, P (snd l day), M⟩] by rw [← HO1.out]; exact if_pos hlt)
      have hza := Below.size da1
      clear hg1 hg2 hz
      go_wp2_with (first | (refine wpList_load_row rfl 53 _ rfl _ rfl _ _ _ _ k17 Tryz.underlying53 rfl (by kernel_rfl) ?_) | (at_builtin; refine app_due ⟨((fst l day).length : Int) + 1, day, P (snd l day), M⟩ rfl _ _ rfl rfl hv rfl (by have := HFL.out; omega) hza ?_))
      intro v' ub hv2 hgr hat
      have dub := grown_below da1 hv hgr
      clear hgr hat hv da1 hza k17
      have hv := hv2
      clear hv2
      obtain ⟨ds, hds⟩ : ∃ d, d = (fst l day ++ [(⟨((fst l day).length : Int) + 1, day, P (snd l day), M⟩ : Du)]) := ⟨_, rfl⟩
      rw [← hds] at hv
      have HDS := Lib.hid hds
      clear hds
      obtain ⟨a7, c7, hve, hr7, hf7⟩ := hv.row
      subst hve
      clear hv
      have hn7 : ds.length ≤ 1000 := by rw [HDS.out]; rw [List.length_append]; show (fst l day).length + 1 ≤ 1000; have := HFL.out; omega
      have hg4 : w.heap.size + 2 ≤ u4.heap.size := by have := (kz.lt); omega
      have l24 := (k0.later dub).c24
      go_upto_region 13 with fail
      go_wp2_with fail
      clear l24
      refine (clonec_row ca ck l.cs _ (HC3.out _ (bl2 dub d4)) hcn).mono ?_
      rintro e v1 ⟨a8, c8, rfl, hr8, hf8, hb⟩
      have dv1 := bl2 hb dub
      have cv1 := bl2 dv1 cw4
      have hr7 := hr7.later hb
      have kb := k0.later dv1
      have hpz := hp.later dv1
      have hf8' : ∀ ad, a8 = some ad → u4.heap.size ≤ ad.block := fun ad had => by have := hf8 ad had; have := Below.size dub; omega
      have hfp : ∀ ad, (some ⟨gp, 0, none⟩ : Option Addr) = some ad → w.heap.size + 2 ≤ ad.block := fun ad had => by cases had; show w.heap.size + 2 ≤ gp; have := hgp3; have := hgv3; have := hg2; omega
      have kzz := kz.later dv1
      clear hb k0 kv hp kz hf8 HDA HD2 HC3
      have kz := kzz
      clear kzz dv1 dub
      generalize u4.heap.size = g4 at *
      have x23 := kb.c23
      have y23 := kb.f23
      have x24 := kb.c24
      have y24 := kb.f24
      go_upto_region 14 with fail
      clear x23 y23 x24 y24
      have kb2 : Bk.Blk ((v1.setCell ⟨w.heap.size, 23, none⟩ (.slice a7 (ds).length c7)).setCell ⟨w.heap.size, 24, none⟩ (.slice a8 l.cs.length c8)) w.heap.size #[.int .i64 l.id, .int .i64 l.ac, .int .i64 l.st, .int .i64 l.pp, .int .i64 l.pi, .int .i64 l.fee, .int .i64 l.pen, .int .i64 l.chg, .int .i64 l.prov, .int .i64 l.loss, .int .i64 l.rcv, .int .i64 l.tm.me, .int .i64 l.tm.pr, .int .i64 l.tm.ppm, .int .i64 l.tm.stt, .int .i64 l.tm.ev, .int .i64 l.tm.ct, .int .i64 l.tm.ba, .int .i64 l.tm.mo, .int .i64 l.tm.pen, .int .i64 l.tm.fe, .string l.tm.cal, .string l.tm.cur, .slice a7 (ds).length c7, .slice a8 l.cs.length c8] 27 := ((kb.set_same (i := 23) (u := .slice a7 (ds).length c7)).set_same (i := 24) (u := .slice a8 l.cs.length c8)).conv rfl
      have kz2 : Bk.Blk ((v1.setCell ⟨w.heap.size, 23, none⟩ (.slice a7 (ds).length c7)).setCell ⟨w.heap.size, 24, none⟩ (.slice a8 l.cs.length c8)) (w.heap.size + 1) #[.int .i64 0, .int .i64 0, .int .i64 0, .int .i64 0, .int .i64 0, .int .i64 0, .int .i64 0, .int .i64 0, .int .i64 0, .int .i64 0, .int .i64 0, .int .i64 0, .int .i64 0, .int .i64 0, .int .i64 0, .int .i64 0, .int .i64 0, .int .i64 0, .int .i64 0, .int .i64 0, .int .i64 0, .string { data := #[] }, .string { data := #[] }, .slice none 0 0, .slice none 0 0] 27 := (Bk.Blk.set_ne (Bk.Blk.set_ne kz (g' := w.heap.size) (j := 23) (u := .slice a7 (ds).length c7) (by omega)) (g' := w.heap.size) (j := 24) (u := .slice a8 l.cs.length c8) (by omega))
      have cv2 : Below w.heap.size w ((v1.setCell ⟨w.heap.size, 23, none⟩ (.slice a7 (ds).length c7)).setCell ⟨w.heap.size, 24, none⟩ (.slice a8 l.cs.length c8)) := (Below.setCell (Below.setCell cv1 (p := ⟨w.heap.size, 23, none⟩) (Nat.le_refl _) _) (p := ⟨w.heap.size, 24, none⟩) (Nat.le_refl _) _)
      have hr72 := (row_put (ad0 := ⟨w.heap.size, 24, none⟩) (u := .slice a8 l.cs.length c8) (row_put (ad0 := ⟨w.heap.size, 23, none⟩) (u := .slice a7 (ds).length c7) hr7 (fun ad had => by have := hf7 ad had; show ad.block ≠ w.heap.size; omega)) (fun ad had => by have := hf7 ad had; show ad.block ≠ w.heap.size; omega))
      have hr82 := (row_put (ad0 := ⟨w.heap.size, 24, none⟩) (u := .slice a8 l.cs.length c8) (row_put (ad0 := ⟨w.heap.size, 23, none⟩) (u := .slice a7 (ds).length c7) hr8 (fun ad had => by have := hf8' ad had; show ad.block ≠ w.heap.size; omega)) (fun ad had => by have := hf8' ad had; show ad.block ≠ w.heap.size; omega))
      have hpz2 := (row_put (ad0 := ⟨w.heap.size, 24, none⟩) (u := .slice a8 l.cs.length c8) (row_put (ad0 := ⟨w.heap.size, 23, none⟩) (u := .slice a7 (ds).length c7) hpz (fun ad had => by have := hfp ad had; show ad.block ≠ w.heap.size; omega)) (fun ad had => by have := hfp ad had; show ad.block ≠ w.heap.size; omega))
      clear kb kz cv1 hr7 hr8 hpz
      have kb := kb2
      have kz := kz2
      have hr7 := hr72
      have hr8 := hr82
      have hpz := hpz2
      clear kb2 kz2 hr72 hr82 hpz2
      generalize ((v1.setCell ⟨w.heap.size, 23, none⟩ (.slice a7 (ds).length c7)).setCell ⟨w.heap.size, 24, none⟩ (.slice a8 l.cs.length c8)) = v2 at *
      go_wp2_with fail
      refine (Kl.stotal_any a7 c7 ds _ (dues_of_row (by omega) hr7)).mono ?_
      rintro e v3 ⟨rfl, hb⟩
      have cv3 := bl2 hb cv2
      replace kb := kb.later hb
      replace kz := kz.later hb
      replace hr7 := hr7.later hb
      replace hr8 := hr8.later hb
      replace hpz := hpz.later hb
      clear hb cv2
      obtain ⟨PP, hPP⟩ : ∃ p, p = P ds := ⟨_, rfl⟩
      obtain ⟨II, hII⟩ : ∃ p, p = I ds := ⟨_, rfl⟩
      rw [← hPP, ← hII]
      have HPP := Lib.hid hPP
      have HII := Lib.hid hII
      clear hPP hII
      have x3 := kb.c3
      have y3 := kb.f3
      have x4 := kb.c4
      have y4 := kb.f4
      go_upto_region 15 with fail
      clear x3 y3 x4 y4
      have kb2 : Bk.Blk ((v3.setCell ⟨w.heap.size, 3, none⟩ (.int .i64 PP)).setCell ⟨w.heap.size, 4, none⟩ (.int .i64 II)) w.heap.size #[.int .i64 l.id, .int .i64 l.ac, .int .i64 l.st, .int .i64 PP, .int .i64 II, .int .i64 l.fee, .int .i64 l.pen, .int .i64 l.chg, .int .i64 l.prov, .int .i64 l.loss, .int .i64 l.rcv, .int .i64 l.tm.me, .int .i64 l.tm.pr, .int .i64 l.tm.ppm, .int .i64 l.tm.stt, .int .i64 l.tm.ev, .int .i64 l.tm.ct, .int .i64 l.tm.ba, .int .i64 l.tm.mo, .int .i64 l.tm.pen, .int .i64 l.tm.fe, .string l.tm.cal, .string l.tm.cur, .slice a7 (ds).length c7, .slice a8 l.cs.length c8] 27 := ((kb.set_same (i := 3) (u := .int .i64 PP)).set_same (i := 4) (u := .int .i64 II)).conv rfl
      have kz2 : Bk.Blk ((v3.setCell ⟨w.heap.size, 3, none⟩ (.int .i64 PP)).setCell ⟨w.heap.size, 4, none⟩ (.int .i64 II)) (w.heap.size + 1) #[.int .i64 0, .int .i64 0, .int .i64 0, .int .i64 0, .int .i64 0, .int .i64 0, .int .i64 0, .int .i64 0, .int .i64 0, .int .i64 0, .int .i64 0, .int .i64 0, .int .i64 0, .int .i64 0, .int .i64 0, .int .i64 0, .int .i64 0, .int .i64 0, .int .i64 0, .int .i64 0, .int .i64 0, .string { data := #[] }, .string { data := #[] }, .slice none 0 0, .slice none 0 0] 27 := (Bk.Blk.set_ne (Bk.Blk.set_ne kz (g' := w.heap.size) (j := 3) (u := .int .i64 PP) (by omega)) (g' := w.heap.size) (j := 4) (u := .int .i64 II) (by omega))
      have cv4 : Below w.heap.size w ((v3.setCell ⟨w.heap.size, 3, none⟩ (.int .i64 PP)).setCell ⟨w.heap.size, 4, none⟩ (.int .i64 II)) := (Below.setCell (Below.setCell cv3 (p := ⟨w.heap.size, 3, none⟩) (Nat.le_refl _) _) (p := ⟨w.heap.size, 4, none⟩) (Nat.le_refl _) _)
      have hr72 := (row_put (ad0 := ⟨w.heap.size, 4, none⟩) (u := .int .i64 II) (row_put (ad0 := ⟨w.heap.size, 3, none⟩) (u := .int .i64 PP) hr7 (fun ad had => by have := hf7 ad had; show ad.block ≠ w.heap.size; omega)) (fun ad had => by have := hf7 ad had; show ad.block ≠ w.heap.size; omega))
      have hr82 := (row_put (ad0 := ⟨w.heap.size, 4, none⟩) (u := .int .i64 II) (row_put (ad0 := ⟨w.heap.size, 3, none⟩) (u := .int .i64 PP) hr8 (fun ad had => by have := hf8' ad had; show ad.block ≠ w.heap.size; omega)) (fun ad had => by have := hf8' ad had; show ad.block ≠ w.heap.size; omega))
      have hpz2 := (row_put (ad0 := ⟨w.heap.size, 4, none⟩) (u := .int .i64 II) (row_put (ad0 := ⟨w.heap.size, 3, none⟩) (u := .int .i64 PP) hpz (fun ad had => by have := hfp ad had; show ad.block ≠ w.heap.size; omega)) (fun ad had => by have := hfp ad had; show ad.block ≠ w.heap.size; omega))
      clear kb kz cv3 hr7 hr8 hpz
      have kb := kb2
      have kz := kz2
      have hr7 := hr72
      have hr8 := hr82
      have hpz := hpz2
      clear kb2 kz2 hr72 hr82 hpz2
      generalize ((v3.setCell ⟨w.heap.size, 3, none⟩ (.int .i64 PP)).setCell ⟨w.heap.size, 4, none⟩ (.int .i64 II)) = v4 at *
      have x5 := kb.c5
      have y5 := kb.f5
      have x6 := kb.c6
      have y6 := kb.f6
      have x2 := kb.c2
      have y2 := kb.f2
      go_upto_region 16 with fail
      clear x5 y5 x6 y6 x2 y2
      have kb2 : Bk.Blk (((v4.setCell ⟨w.heap.size, 5, none⟩ (.int .i64 0)).setCell ⟨w.heap.size, 6, none⟩ (.int .i64 0)).setCell ⟨w.heap.size, 2, none⟩ (.int .i64 2)) w.heap.size #[.int .i64 l.id, .int .i64 l.ac, .int .i64 2, .int .i64 PP, .int .i64 II, .int .i64 0, .int .i64 0, .int .i64 l.chg, .int .i64 l.prov, .int .i64 l.loss, .int .i64 l.rcv, .int .i64 l.tm.me, .int .i64 l.tm.pr, .int .i64 l.tm.ppm, .int .i64 l.tm.stt, .int .i64 l.tm.ev, .int .i64 l.tm.ct, .int .i64 l.tm.ba, .int .i64 l.tm.mo, .int .i64 l.tm.pen, .int .i64 l.tm.fe, .string l.tm.cal, .string l.tm.cur, .slice a7 (ds).length c7, .slice a8 l.cs.length c8] 27 := (((kb.set_same (i := 5) (u := .int .i64 0)).set_same (i := 6) (u := .int .i64 0)).set_same (i := 2) (u := .int .i64 2)).conv rfl
      have kz2 : Bk.Blk (((v4.setCell ⟨w.heap.size, 5, none⟩ (.int .i64 0)).setCell ⟨w.heap.size, 6, none⟩ (.int .i64 0)).setCell ⟨w.heap.size, 2, none⟩ (.int .i64 2)) (w.heap.size + 1) #[.int .i64 0, .int .i64 0, .int .i64 0, .int .i64 0, .int .i64 0, .int .i64 0, .int .i64 0, .int .i64 0, .int .i64 0, .int .i64 0, .int .i64 0, .int .i64 0, .int .i64 0, .int .i64 0, .int .i64 0, .int .i64 0, .int .i64 0, .int .i64 0, .int .i64 0, .int .i64 0, .int .i64 0, .string { data := #[] }, .string { data := #[] }, .slice none 0 0, .slice none 0 0] 27 := (Bk.Blk.set_ne (Bk.Blk.set_ne (Bk.Blk.set_ne kz (g' := w.heap.size) (j := 5) (u := .int .i64 0) (by omega)) (g' := w.heap.size) (j := 6) (u := .int .i64 0) (by omega)) (g' := w.heap.size) (j := 2) (u := .int .i64 2) (by omega))
      have cv5 : Below w.heap.size w (((v4.setCell ⟨w.heap.size, 5, none⟩ (.int .i64 0)).setCell ⟨w.heap.size, 6, none⟩ (.int .i64 0)).setCell ⟨w.heap.size, 2, none⟩ (.int .i64 2)) := (Below.setCell (Below.setCell (Below.setCell cv4 (p := ⟨w.heap.size, 5, none⟩) (Nat.le_refl _) _) (p := ⟨w.heap.size, 6, none⟩) (Nat.le_refl _) _) (p := ⟨w.heap.size, 2, none⟩) (Nat.le_refl _) _)
      have hr72 := (row_put (ad0 := ⟨w.heap.size, 2, none⟩) (u := .int .i64 2) (row_put (ad0 := ⟨w.heap.size, 6, none⟩) (u := .int .i64 0) (row_put (ad0 := ⟨w.heap.size, 5, none⟩) (u := .int .i64 0) hr7 (fun ad had => by have := hf7 ad had; show ad.block ≠ w.heap.size; omega)) (fun ad had => by have := hf7 ad had; show ad.block ≠ w.heap.size; omega)) (fun ad had => by have := hf7 ad had; show ad.block ≠ w.heap.size; omega))
      have hr82 := (row_put (ad0 := ⟨w.heap.size, 2, none⟩) (u := .int .i64 2) (row_put (ad0 := ⟨w.heap.size, 6, none⟩) (u := .int .i64 0) (row_put (ad0 := ⟨w.heap.size, 5, none⟩) (u := .int .i64 0) hr8 (fun ad had => by have := hf8' ad had; show ad.block ≠ w.heap.size; omega)) (fun ad had => by have := hf8' ad had; show ad.block ≠ w.heap.size; omega)) (fun ad had => by have := hf8' ad had; show ad.block ≠ w.heap.size; omega))
      have hpz2 := (row_put (ad0 := ⟨w.heap.size, 2, none⟩) (u := .int .i64 2) (row_put (ad0 := ⟨w.heap.size, 6, none⟩) (u := .int .i64 0) (row_put (ad0 := ⟨w.heap.size, 5, none⟩) (u := .int .i64 0) hpz (fun ad had => by have := hfp ad had; show ad.block ≠ w.heap.size; omega)) (fun ad had => by have := hfp ad had; show ad.block ≠ w.heap.size; omega)) (fun ad had => by have := hfp ad had; show ad.block ≠ w.heap.size; omega))
      clear kb kz cv4 hr7 hr8 hpz
      have kb := kb2
      have kz := kz2
      have hr7 := hr72
      have hr8 := hr82
      have hpz := hpz2
      clear kb2 kz2 hr72 hr82 hpz2
      generalize (((v4.setCell ⟨w.heap.size, 5, none⟩ (.int .i64 0)).setCell ⟨w.heap.size, 6, none⟩ (.int .i64 0)).setCell ⟨w.heap.size, 2, none⟩ (.int .i64 2)) = v5 at *
      go_wp2_with (first | (refine wpList_load_row rfl 27 _ rfl _ rfl _ _ _ _ kb Tryz.underlying27 rfl (by kernel_rfl) ?_) | (refine wpList_store_row rfl 27 _ _ rfl _ _ rfl rfl _ _ kz (by kernel_rfl) rfl (by simp [Value.oneCell']) ?_))
      (try simp only [Exit.inBlock, Exit.then])
      refine bodyPost_ret (results3_cell' Tryz.results12 _ _ _ _ _ _ _ rfl (Blk_setRow_same kz) Tryz.underlying27 rfl (by kernel_rfl)) rfl ?_
      rw [HPP.out, HII.out]
      exact fuo_ok HF0.out (HD0.out.trans HDS.out.symm) HPS.out (dues_setRow (dues_of_row (by omega) hr7) (fun ad had => by have := hf7 ad had; omega)) (row_row hr8 (fun ad had => by have := hf8' ad had; omega)) (row_row hpz (fun ad had => by have := hfp ad had; omega)) (Below_setRow cv5 (by omega) _)
     ·have HF := Lib.hid (fuE_2 HE.out hlt (by rw [HO1.out]; exact fun e => hg2 e.2))
      rw [decide_eq_false hg2]
      have kzz := kz.later da1
      clear hg2 kz
      have kz := kzz
      clear kzz
      go_wp2_with (refine wpList_store_row rfl 27 _ _ rfl _ _ rfl rfl _ _ kz (by kernel_rfl) rfl (by simp [Value.oneCell']) ?_)
      (try simp only [Exit.inBlock, Exit.then])
      refine bodyPost_ret (results3_cell' Tryz.results12 _ _ _ _ _ _ _ rfl (Blk_setRow_same kz) Tryz.underlying27 rfl (by kernel_rfl)) rfl ?_
      exact fuo_no HF.out (by decide) (Below_setRow (bl2 da1 cw4) (by omega) _)
    ·have HF := Lib.hid (fuE_2 HE.out hlt (by rw [HO1.out]; exact fun e => hg1 e.1))
     rw [decide_eq_false hg1]
     have kzz := kz.later d9
     clear hg1 kz
     have kz := kzz
     clear kzz
     go_wp2_with (refine wpList_store_row rfl 27 _ _ rfl _ _ rfl rfl _ _ kz (by kernel_rfl) rfl (by simp [Value.oneCell']) ?_)
     (try simp only [Exit.inBlock, Exit.then])
     refine bodyPost_ret (results3_cell' Tryz.results12 _ _ _ _ _ _ _ rfl (Blk_setRow_same kz) Tryz.underlying27 rfl (by kernel_rfl)) rfl ?_
     exact fuo_no HF.out (by decide) (Below_setRow (bl2 d9 cw4) (by omega) _)
  ·have hm0 : (snd l day).length = 0 := by omega
   have HF0 := Lib.hid (fuE_0 HE.out (fun e => absurd e (by have := HFL.out; have := HSL.out; omega)))
   have HD0 := Lib.hid (show fuD l day = fst l day from if_neg (by have := HFL.out; have := HSL.out; omega))
   rw [hm0] at l26 ⊢
   clear hm0 hs
   obtain ⟨ds, hds⟩ : ∃ d, d = (fst l day) := ⟨_, rfl⟩
   rw [← hds] at hv ⊢
   have HDS := Lib.hid hds
   clear hds
   obtain ⟨a7, c7, hve, hr7, hf7⟩ := hv.row
   obtain ⟨e1, e2⟩ : av = a7 ∧ cv = c7 := by simpa using hve
   obtain rfl := e1.symm
   obtain rfl := e2.symm
   clear hve
   clear hv
   have hn7 : ds.length ≤ 1000 := by rw [HDS.out]; have := HFL.out; omega
   have hg4 : w.heap.size + 2 ≤ u4.heap.size := by have := (kz.lt); omega
   have l24 := (k0.later d5).c24
   go_upto_region 13 with fail
   clear l26
   go_wp2_with fail
   clear l24
   refine (clonec_row ca ck l.cs _ (HC3.out _ (bl2 d5 d4)) hcn).mono ?_
   rintro e v1 ⟨a8, c8, rfl, hr8, hf8, hb⟩
   have dv1 := bl2 hb d5
   have cv1 := bl2 dv1 cw4
   have hr7 := hr7.later hb
   have kb := k0.later dv1
   have hpz := hp.later dv1
   have hf8' : ∀ ad, a8 = some ad → u4.heap.size ≤ ad.block := fun ad had => by have := hf8 ad had; have := Below.size d5; omega
   have hfp : ∀ ad, (some ⟨gp, 0, none⟩ : Option Addr) = some ad → w.heap.size + 2 ≤ ad.block := fun ad had => by cases had; show w.heap.size + 2 ≤ gp; have := hgp3; have := hgv3; have := hg2; omega
   have kzz := kz.later dv1
   clear hb k0 kv hp kz hf8 HDA HD2 HC3
   have kz := kzz
   clear kzz dv1 d5
   generalize u4.heap.size = g4 at *
   have x23 := kb.c23
   have y23 := kb.f23
   have x24 := kb.c24
   have y24 := kb.f24
   go_upto_region 14 with fail
   clear x23 y23 x24 y24
   have kb2 : Bk.Blk ((v1.setCell ⟨w.heap.size, 23, none⟩ (.slice a7 (ds).length c7)).setCell ⟨w.heap.size, 24, none⟩ (.slice a8 l.cs.length c8)) w.heap.size #[.int .i64 l.id, .int .i64 l.ac, .int .i64 l.st, .int .i64 l.pp, .int .i64 l.pi, .int .i64 l.fee, .int .i64 l.pen, .int .i64 l.chg, .int .i64 l.prov, .int .i64 l.loss, .int .i64 l.rcv, .int .i64 l.tm.me, .int .i64 l.tm.pr, .int .i64 l.tm.ppm, .int .i64 l.tm.stt, .int .i64 l.tm.ev, .int .i64 l.tm.ct, .int .i64 l.tm.ba, .int .i64 l.tm.mo, .int .i64 l.tm.pen, .int .i64 l.tm.fe, .string l.tm.cal, .string l.tm.cur, .slice a7 (ds).length c7, .slice a8 l.cs.length c8] 27 := ((kb.set_same (i := 23) (u := .slice a7 (ds).length c7)).set_same (i := 24) (u := .slice a8 l.cs.length c8)).conv rfl
   have kz2 : Bk.Blk ((v1.setCell ⟨w.heap.size, 23, none⟩ (.slice a7 (ds).length c7)).setCell ⟨w.heap.size, 24, none⟩ (.slice a8 l.cs.length c8)) (w.heap.size + 1) #[.int .i64 0, .int .i64 0, .int .i64 0, .int .i64 0, .int .i64 0, .int .i64 0, .int .i64 0, .int .i64 0, .int .i64 0, .int .i64 0, .int .i64 0, .int .i64 0, .int .i64 0, .int .i64 0, .int .i64 0, .int .i64 0, .int .i64 0, .int .i64 0, .int .i64 0, .int .i64 0, .int .i64 0, .string { data := #[] }, .string { data := #[] }, .slice none 0 0, .slice none 0 0] 27 := (Bk.Blk.set_ne (Bk.Blk.set_ne kz (g' := w.heap.size) (j := 23) (u := .slice a7 (ds).length c7) (by omega)) (g' := w.heap.size) (j := 24) (u := .slice a8 l.cs.length c8) (by omega))
   have cv2 : Below w.heap.size w ((v1.setCell ⟨w.heap.size, 23, none⟩ (.slice a7 (ds).length c7)).setCell ⟨w.heap.size, 24, none⟩ (.slice a8 l.cs.length c8)) := (Below.setCell (Below.setCell cv1 (p := ⟨w.heap.size, 23, none⟩) (Nat.le_refl _) _) (p := ⟨w.heap.size, 24, none⟩) (Nat.le_refl _) _)
   have hr72 := (row_put (ad0 := ⟨w.heap.size, 24, none⟩) (u := .slice a8 l.cs.length c8) (row_put (ad0 := ⟨w.heap.size, 23, none⟩) (u := .slice a7 (ds).length c7) hr7 (fun ad had => by have := hf7 ad had; show ad.block ≠ w.heap.size; omega)) (fun ad had => by have := hf7 ad had; show ad.block ≠ w.heap.size; omega))
   have hr82 := (row_put (ad0 := ⟨w.heap.size, 24, none⟩) (u := .slice a8 l.cs.length c8) (row_put (ad0 := ⟨w.heap.size, 23, none⟩) (u := .slice a7 (ds).length c7) hr8 (fun ad had => by have := hf8' ad had; show ad.block ≠ w.heap.size; omega)) (fun ad had => by have := hf8' ad had; show ad.block ≠ w.heap.size; omega))
   have hpz2 := (row_put (ad0 := ⟨w.heap.size, 24, none⟩) (u := .slice a8 l.cs.length c8) (row_put (ad0 := ⟨w.heap.size, 23, none⟩) (u := .slice a7 (ds).length c7) hpz (fun ad had => by have := hfp ad had; show ad.block ≠ w.heap.size; omega)) (fun ad had => by have := hfp ad had; show ad.block ≠ w.heap.size; omega))
   clear kb kz cv1 hr7 hr8 hpz
   have kb := kb2
   have kz := kz2
   have hr7 := hr72
   have hr8 := hr82
   have hpz := hpz2
   clear kb2 kz2 hr72 hr82 hpz2
   generalize ((v1.setCell ⟨w.heap.size, 23, none⟩ (.slice a7 (ds).length c7)).setCell ⟨w.heap.size, 24, none⟩ (.slice a8 l.cs.length c8)) = v2 at *
   go_wp2_with fail
   refine (Kl.stotal_any a7 c7 ds _ (dues_of_row (by omega) hr7)).mono ?_
   rintro e v3 ⟨rfl, hb⟩
   have cv3 := bl2 hb cv2
   replace kb := kb.later hb
   replace kz := kz.later hb
   replace hr7 := hr7.later hb
   replace hr8 := hr8.later hb
   replace hpz := hpz.later hb
   clear hb cv2
   obtain ⟨PP, hPP⟩ : ∃ p, p = P ds := ⟨_, rfl⟩
   obtain ⟨II, hII⟩ : ∃ p, p = I ds := ⟨_, rfl⟩
   rw [← hPP, ← hII]
   have HPP := Lib.hid hPP
   have HII := Lib.hid hII
   clear hPP hII
   have x3 := kb.c3
   have y3 := kb.f3
   have x4 := kb.c4
   have y4 := kb.f4
   go_upto_region 15 with fail
   clear x3 y3 x4 y4
   have kb2 : Bk.Blk ((v3.setCell ⟨w.heap.size, 3, none⟩ (.int .i64 PP)).setCell ⟨w.heap.size, 4, none⟩ (.int .i64 II)) w.heap.size #[.int .i64 l.id, .int .i64 l.ac, .int .i64 l.st, .int .i64 PP, .int .i64 II, .int .i64 l.fee, .int .i64 l.pen, .int .i64 l.chg, .int .i64 l.prov, .int .i64 l.loss, .int .i64 l.rcv, .int .i64 l.tm.me, .int .i64 l.tm.pr, .int .i64 l.tm.ppm, .int .i64 l.tm.stt, .int .i64 l.tm.ev, .int .i64 l.tm.ct, .int .i64 l.tm.ba, .int .i64 l.tm.mo, .int .i64 l.tm.pen, .int .i64 l.tm.fe, .string l.tm.cal, .string l.tm.cur, .slice a7 (ds).length c7, .slice a8 l.cs.length c8] 27 := ((kb.set_same (i := 3) (u := .int .i64 PP)).set_same (i := 4) (u := .int .i64 II)).conv rfl
   have kz2 : Bk.Blk ((v3.setCell ⟨w.heap.size, 3, none⟩ (.int .i64 PP)).setCell ⟨w.heap.size, 4, none⟩ (.int .i64 II)) (w.heap.size + 1) #[.int .i64 0, .int .i64 0, .int .i64 0, .int .i64 0, .int .i64 0, .int .i64 0, .int .i64 0, .int .i64 0, .int .i64 0, .int .i64 0, .int .i64 0, .int .i64 0, .int .i64 0, .int .i64 0, .int .i64 0, .int .i64 0, .int .i64 0, .int .i64 0, .int .i64 0, .int .i64 0, .int .i64 0, .string { data := #[] }, .string { data := #[] }, .slice none 0 0, .slice none 0 0] 27 := (Bk.Blk.set_ne (Bk.Blk.set_ne kz (g' := w.heap.size) (j := 3) (u := .int .i64 PP) (by omega)) (g' := w.heap.size) (j := 4) (u := .int .i64 II) (by omega))
   have cv4 : Below w.heap.size w ((v3.setCell ⟨w.heap.size, 3, none⟩ (.int .i64 PP)).setCell ⟨w.heap.size, 4, none⟩ (.int .i64 II)) := (Below.setCell (Below.setCell cv3 (p := ⟨w.heap.size, 3, none⟩) (Nat.le_refl _) _) (p := ⟨w.heap.size, 4, none⟩) (Nat.le_refl _) _)
   have hr72 := (row_put (ad0 := ⟨w.heap.size, 4, none⟩) (u := .int .i64 II) (row_put (ad0 := ⟨w.heap.size, 3, none⟩) (u := .int .i64 PP) hr7 (fun ad had => by have := hf7 ad had; show ad.block ≠ w.heap.size; omega)) (fun ad had => by have := hf7 ad had; show ad.block ≠ w.heap.size; omega))
   have hr82 := (row_put (ad0 := ⟨w.heap.size, 4, none⟩) (u := .int .i64 II) (row_put (ad0 := ⟨w.heap.size, 3, none⟩) (u := .int .i64 PP) hr8 (fun ad had => by have := hf8' ad had; show ad.block ≠ w.heap.size; omega)) (fun ad had => by have := hf8' ad had; show ad.block ≠ w.heap.size; omega))
   have hpz2 := (row_put (ad0 := ⟨w.heap.size, 4, none⟩) (u := .int .i64 II) (row_put (ad0 := ⟨w.heap.size, 3, none⟩) (u := .int .i64 PP) hpz (fun ad had => by have := hfp ad had; show ad.block ≠ w.heap.size; omega)) (fun ad had => by have := hfp ad had; show ad.block ≠ w.heap.size; omega))
   clear kb kz cv3 hr7 hr8 hpz
   have kb := kb2
   have kz := kz2
   have hr7 := hr72
   have hr8 := hr82
   have hpz := hpz2
   clear kb2 kz2 hr72 hr82 hpz2
   generalize ((v3.setCell ⟨w.heap.size, 3, none⟩ (.int .i64 PP)).setCell ⟨w.heap.size, 4, none⟩ (.int .i64 II)) = v4 at *
   have x5 := kb.c5
   have y5 := kb.f5
   have x6 := kb.c6
   have y6 := kb.f6
   have x2 := kb.c2
   have y2 := kb.f2
   go_upto_region 16 with fail
   clear x5 y5 x6 y6 x2 y2
   have kb2 : Bk.Blk (((v4.setCell ⟨w.heap.size, 5, none⟩ (.int .i64 0)).setCell ⟨w.heap.size, 6, none⟩ (.int .i64 0)).setCell ⟨w.heap.size, 2, none⟩ (.int .i64 2)) w.heap.size #[.int .i64 l.id, .int .i64 l.ac, .int .i64 2, .int .i64 PP, .int .i64 II, .int .i64 0, .int .i64 0, .int .i64 l.chg, .int .i64 l.prov, .int .i64 l.loss, .int .i64 l.rcv, .int .i64 l.tm.me, .int .i64 l.tm.pr, .int .i64 l.tm.ppm, .int .i64 l.tm.stt, .int .i64 l.tm.ev, .int .i64 l.tm.ct, .int .i64 l.tm.ba, .int .i64 l.tm.mo, .int .i64 l.tm.pen, .int .i64 l.tm.fe, .string l.tm.cal, .string l.tm.cur, .slice a7 (ds).length c7, .slice a8 l.cs.length c8] 27 := (((kb.set_same (i := 5) (u := .int .i64 0)).set_same (i := 6) (u := .int .i64 0)).set_same (i := 2) (u := .int .i64 2)).conv rfl
   have kz2 : Bk.Blk (((v4.setCell ⟨w.heap.size, 5, none⟩ (.int .i64 0)).setCell ⟨w.heap.size, 6, none⟩ (.int .i64 0)).setCell ⟨w.heap.size, 2, none⟩ (.int .i64 2)) (w.heap.size + 1) #[.int .i64 0, .int .i64 0, .int .i64 0, .int .i64 0, .int .i64 0, .int .i64 0, .int .i64 0, .int .i64 0, .int .i64 0, .int .i64 0, .int .i64 0, .int .i64 0, .int .i64 0, .int .i64 0, .int .i64 0, .int .i64 0, .int .i64 0, .int .i64 0, .int .i64 0, .int .i64 0, .int .i64 0, .string { data := #[] }, .string { data := #[] }, .slice none 0 0, .slice none 0 0] 27 := (Bk.Blk.set_ne (Bk.Blk.set_ne (Bk.Blk.set_ne kz (g' := w.heap.size) (j := 5) (u := .int .i64 0) (by omega)) (g' := w.heap.size) (j := 6) (u := .int .i64 0) (by omega)) (g' := w.heap.size) (j := 2) (u := .int .i64 2) (by omega))
   have cv5 : Below w.heap.size w (((v4.setCell ⟨w.heap.size, 5, none⟩ (.int .i64 0)).setCell ⟨w.heap.size, 6, none⟩ (.int .i64 0)).setCell ⟨w.heap.size, 2, none⟩ (.int .i64 2)) := (Below.setCell (Below.setCell (Below.setCell cv4 (p := ⟨w.heap.size, 5, none⟩) (Nat.le_refl _) _) (p := ⟨w.heap.size, 6, none⟩) (Nat.le_refl _) _) (p := ⟨w.heap.size, 2, none⟩) (Nat.le_refl _) _)
   have hr72 := (row_put (ad0 := ⟨w.heap.size, 2, none⟩) (u := .int .i64 2) (row_put (ad0 := ⟨w.heap.size, 6, none⟩) (u := .int .i64 0) (row_put (ad0 := ⟨w.heap.size, 5, none⟩) (u := .int .i64 0) hr7 (fun ad had => by have := hf7 ad had; show ad.block ≠ w.heap.size; omega)) (fun ad had => by have := hf7 ad had; show ad.block ≠ w.heap.size; omega)) (fun ad had => by have := hf7 ad had; show ad.block ≠ w.heap.size; omega))
   have hr82 := (row_put (ad0 := ⟨w.heap.size, 2, none⟩) (u := .int .i64 2) (row_put (ad0 := ⟨w.heap.size, 6, none⟩) (u := .int .i64 0) (row_put (ad0 := ⟨w.heap.size, 5, none⟩) (u := .int .i64 0) hr8 (fun ad had => by have := hf8' ad had; show ad.block ≠ w.heap.size; omega)) (fun ad had => by have := hf8' ad had; show ad.block ≠ w.heap.size; omega)) (fun ad had => by have := hf8' ad had; show ad.block ≠ w.heap.size; omega))
   have hpz2 := (row_put (ad0 := ⟨w.heap.size, 2, none⟩) (u := .int .i64 2) (row_put (ad0 := ⟨w.heap.size, 6, none⟩) (u := .int .i64 0) (row_put (ad0 := ⟨w.heap.size, 5, none⟩) (u := .int .i64 0) hpz (fun ad had => by have := hfp ad had; show ad.block ≠ w.heap.size; omega)) (fun ad had => by have := hfp ad had; show ad.block ≠ w.heap.size; omega)) (fun ad had => by have := hfp ad had; show ad.block ≠ w.heap.size; omega))
   clear kb kz cv4 hr7 hr8 hpz
   have kb := kb2
   have kz := kz2
   have hr7 := hr72
   have hr8 := hr82
   have hpz := hpz2
   clear kb2 kz2 hr72 hr82 hpz2
   generalize (((v4.setCell ⟨w.heap.size, 5, none⟩ (.int .i64 0)).setCell ⟨w.heap.size, 6, none⟩ (.int .i64 0)).setCell ⟨w.heap.size, 2, none⟩ (.int .i64 2)) = v5 at *
   go_wp2_with (first | (refine wpList_load_row rfl 27 _ rfl _ rfl _ _ _ _ kb Tryz.underlying27 rfl (by kernel_rfl) ?_) | (refine wpList_store_row rfl 27 _ _ rfl _ _ rfl rfl _ _ kz (by kernel_rfl) rfl (by simp [Value.oneCell']) ?_))
   (try simp only [Exit.inBlock, Exit.then])
   refine bodyPost_ret (results3_cell' Tryz.results12 _ _ _ _ _ _ _ rfl (Blk_setRow_same kz) Tryz.underlying27 rfl (by kernel_rfl)) rfl ?_
   rw [HPP.out, HII.out]
   exact fuo_ok HF0.out (HD0.out.trans HDS.out.symm) HPS.out (dues_setRow (dues_of_row (by omega) hr7) (fun ad had => by have := hf7 ad had; omega)) (row_row hr8 (fun ad had => by have := hf8' ad had; omega)) (row_row hpz (fun ad had => by have := hfp ad had; omega)) (Below_setRow cv5 (by omega) _)
 ·have HF := Lib.hid (fuE_1 he)
  have HN := Lib.hid he
  have g1 : (qtE l day != 0) = true := by simpa using he
  clear he hvw h27 h1c
  generalize qtV l day = N at *
  generalize qtF l day = F at *
  generalize qtE l day = E at HF HN g1 ⊢
  go_wp2_with (refine wpList_store_row rfl 27 _ _ rfl _ _ rfl rfl _ _ kz (by kernel_rfl) rfl (by simp [Value.oneCell']) ?_)
  (try simp only [Exit.inBlock, Exit.then])
  refine bodyPost_ret (results3_cell' Tryz.results12 _ _ _ _ _ _ _ rfl (Blk_setRow_same kz) Tryz.underlying27 rfl (by kernel_rfl)) rfl ?_
  exact fuo_no HF.out HN.out (Below_setRow cw3 (by omega) _)
end Go.Proofs.YtaanicginfjgdaaGreatDoor.Pp
