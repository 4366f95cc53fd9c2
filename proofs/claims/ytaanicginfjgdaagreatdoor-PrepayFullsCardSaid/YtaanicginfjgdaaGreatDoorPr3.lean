/-
 The reference's Full.
-/
import Derived.Test.YtaanicginfjgdaaGreatDoorPp5
import Derived.Test.YtaanicginfjgdaaGreatDoorPr1
namespace Go.Proofs.YtaanicginfjgdaaGreatDoor.Pp
open Go Go.RowKit
open Go.Proofs.YtaanicginfjgdaaGreatDoor
open Go.Proofs.YtaanicginfjgdaaGreatDoor.Ln (Tm Ch Du Lo Pa sum prs its P I due chk Ok ok_iff wrap_in wrap_add powed zLo LoIn DuesIn RowIn OwnR denc denc_len cenc cenc_len penc penc_len tenc flat flat_len Dok dues_of_row bl2 SB SB.mono SQ SQ.mono take_at one_at two_at call_at call_wp call_one call_pv value_wp yields_load_row Blk_setRow_same Blk_setRow_ne Below_setRow dues_setRow row_row one25 load_guarded results2_cell dues_lt rowc_lt rangeAt_later tk ts z0 z1 z3 z4 z5)
open Go.Proofs.YtaanicginfjgdaaGreatDoor.Sr (GV DV gv_made parts_wp dues_wp blk_low gv_low)
open Go.Proofs.YtaanicginfjgdaaGreatDoor.Ln (row_put)
open Go.Proofs.YtaanicginfjgdaaGreatDoor.Rd (gd pcV pcE Stp)
open Go.Proofs.YtaanicginfjgdaaGreatDoor.Kl (Cl CalIn skE)
set_option linter.unusedSimpArgs false
set_option linter.unusedVariables false
set_option maxRecDepth 100000

def wd (l : Lo) (ds : List Du) : Lo := ⟨l.id, l.ac, l.st, l.pp, l.pi, l.fee, l.pen, l.chg, l.prov, l.loss, l.rcv, l.tm, ds, l.cs⟩
theorem putL_ppz (ps : List Pa) (k a : Int) : putL ps k a = ps ++ ppz [⟨k, a⟩] := by
 unfold putL ppz
 by_cases h : a = 0
 ·rw [if_pos h, List.filter_cons_of_neg (by simp [h])]
  rfl
 ·rw [if_neg h, List.filter_cons_of_pos (by simpa using h)]
  rfl
theorem putL_len (ps : List Pa) (k a : Int) : (putL ps k a).length ≤ ps.length + 1 := by
 unfold putL
 split
 ·simp
 ·simp
theorem fuQ_put (l : Lo) (day : Int) : fuQ l day = putL (putL (putL (putL [] 1 (l.fee + feV l (lat l day))) 2 l.pen) 3 (itn l day)) 4 (P l.ds - l.pp) := by
 simp only [putL_ppz]
 show ppz ([⟨1, l.fee + feV l (lat l day)⟩] ++ [⟨2, l.pen⟩] ++ [⟨3, itn l day⟩] ++ [⟨4, P l.ds - l.pp⟩]) = _
 unfold ppz
 rw [List.filter_append, List.filter_append, List.filter_append]
 rfl
set_option maxHeartbeats 32000000 in
theorem rfull35_any (l : Lo) (da ca : Option Addr) (dk ck : Nat) (day : Int) (w : World) (h : DuesIn w da l.ds) (hcs : RowIn cenc w ca l.cs) (hk : Dok l.ds) (hdk : l.ds.length ≤ dk) : Calls Tryz.prog 13 #[(.agg #[.int .i64 (l).id, .int .i64 (l).ac, .int .i64 (l).st, .int .i64 (l).pp, .int .i64 (l).pi, .int .i64 (l).fee, .int .i64 (l).pen, .int .i64 (l).chg, .int .i64 (l).prov, .int .i64 (l).loss, .int .i64 (l).rcv, .int .i64 ((l).tm).me, .int .i64 ((l).tm).pr, .int .i64 ((l).tm).ppm, .int .i64 ((l).tm).stt, .int .i64 ((l).tm).ev, .int .i64 ((l).tm).ct, .int .i64 ((l).tm).ba, .int .i64 ((l).tm).mo, .int .i64 ((l).tm).pen, .int .i64 ((l).tm).fe, .string ((l).tm).cal, .string ((l).tm).cur, .slice da (l).ds.length dk, .slice ca (l).cs.length ck]), .int .i64 day] w (FuO l day w) := by
 have cw1 : Below w.heap.size w ((w.alloc (.cells #[.int .i64 (l).id, .int .i64 (l).ac, .int .i64 (l).st, .int .i64 (l).pp, .int .i64 (l).pi, .int .i64 (l).fee, .int .i64 (l).pen, .int .i64 (l).chg, .int .i64 (l).prov, .int .i64 (l).loss, .int .i64 (l).rcv, .int .i64 ((l).tm).me, .int .i64 ((l).tm).pr, .int .i64 ((l).tm).ppm, .int .i64 ((l).tm).stt, .int .i64 ((l).tm).ev, .int .i64 ((l).tm).ct, .int .i64 ((l).tm).ba, .int .i64 ((l).tm).mo, .int .i64 ((l).tm).pen, .int .i64 ((l).tm).fe, .string ((l).tm).cal, .string ((l).tm).cur, .slice da (l).ds.length dk, .slice ca (l).cs.length ck] 27)).alloc (.cells #[.int .i64 0, .int .i64 0, .int .i64 0, .int .i64 0, .int .i64 0, .int .i64 0, .int .i64 0, .int .i64 0, .int .i64 0, .int .i64 0, .int .i64 0, .int .i64 0, .int .i64 0, .int .i64 0, .int .i64 0, .int .i64 0, .int .i64 0, .int .i64 0, .int .i64 0, .int .i64 0, .int .i64 0, .string { data := #[] }, .string { data := #[] }, .slice none 0 0, .slice none 0 0] 27)) := ((Below.refl _ _).alloc (Nat.le_refl _) _).alloc (by simp) _
 have k0 : Bk.Blk ((w.alloc (.cells #[.int .i64 (l).id, .int .i64 (l).ac, .int .i64 (l).st, .int .i64 (l).pp, .int .i64 (l).pi, .int .i64 (l).fee, .int .i64 (l).pen, .int .i64 (l).chg, .int .i64 (l).prov, .int .i64 (l).loss, .int .i64 (l).rcv, .int .i64 ((l).tm).me, .int .i64 ((l).tm).pr, .int .i64 ((l).tm).ppm, .int .i64 ((l).tm).stt, .int .i64 ((l).tm).ev, .int .i64 ((l).tm).ct, .int .i64 ((l).tm).ba, .int .i64 ((l).tm).mo, .int .i64 ((l).tm).pen, .int .i64 ((l).tm).fe, .string ((l).tm).cal, .string ((l).tm).cur, .slice da (l).ds.length dk, .slice ca (l).cs.length ck] 27)).alloc (.cells #[.int .i64 0, .int .i64 0, .int .i64 0, .int .i64 0, .int .i64 0, .int .i64 0, .int .i64 0, .int .i64 0, .int .i64 0, .int .i64 0, .int .i64 0, .int .i64 0, .int .i64 0, .int .i64 0, .int .i64 0, .int .i64 0, .int .i64 0, .int .i64 0, .int .i64 0, .int .i64 0, .int .i64 0, .string { data := #[] }, .string { data := #[] }, .slice none 0 0, .slice none 0 0] 27)) w.heap.size #[.int .i64 (l).id, .int .i64 (l).ac, .int .i64 (l).st, .int .i64 (l).pp, .int .i64 (l).pi, .int .i64 (l).fee, .int .i64 (l).pen, .int .i64 (l).chg, .int .i64 (l).prov, .int .i64 (l).loss, .int .i64 (l).rcv, .int .i64 ((l).tm).me, .int .i64 ((l).tm).pr, .int .i64 ((l).tm).ppm, .int .i64 ((l).tm).stt, .int .i64 ((l).tm).ev, .int .i64 ((l).tm).ct, .int .i64 ((l).tm).ba, .int .i64 ((l).tm).mo, .int .i64 ((l).tm).pen, .int .i64 ((l).tm).fe, .string ((l).tm).cal, .string ((l).tm).cur, .slice da (l).ds.length dk, .slice ca (l).cs.length ck] 27 := Bk.Blk.nw20
 have kz : Bk.Blk ((w.alloc (.cells #[.int .i64 (l).id, .int .i64 (l).ac, .int .i64 (l).st, .int .i64 (l).pp, .int .i64 (l).pi, .int .i64 (l).fee, .int .i64 (l).pen, .int .i64 (l).chg, .int .i64 (l).prov, .int .i64 (l).loss, .int .i64 (l).rcv, .int .i64 ((l).tm).me, .int .i64 ((l).tm).pr, .int .i64 ((l).tm).ppm, .int .i64 ((l).tm).stt, .int .i64 ((l).tm).ev, .int .i64 ((l).tm).ct, .int .i64 ((l).tm).ba, .int .i64 ((l).tm).mo, .int .i64 ((l).tm).pen, .int .i64 ((l).tm).fe, .string ((l).tm).cal, .string ((l).tm).cur, .slice da (l).ds.length dk, .slice ca (l).cs.length ck] 27)).alloc (.cells #[.int .i64 0, .int .i64 0, .int .i64 0, .int .i64 0, .int .i64 0, .int .i64 0, .int .i64 0, .int .i64 0, .int .i64 0, .int .i64 0, .int .i64 0, .int .i64 0, .int .i64 0, .int .i64 0, .int .i64 0, .int .i64 0, .int .i64 0, .int .i64 0, .int .i64 0, .int .i64 0, .int .i64 0, .string { data := #[] }, .string { data := #[] }, .slice none 0 0, .slice none 0 0] 27)) (w.heap.size + 1) #[.int .i64 0, .int .i64 0, .int .i64 0, .int .i64 0, .int .i64 0, .int .i64 0, .int .i64 0, .int .i64 0, .int .i64 0, .int .i64 0, .int .i64 0, .int .i64 0, .int .i64 0, .int .i64 0, .int .i64 0, .int .i64 0, .int .i64 0, .int .i64 0, .int .i64 0, .int .i64 0, .int .i64 0, .string { data := #[] }, .string { data := #[] }, .slice none 0 0, .slice none 0 0] 27 := Bk.Blk.nw21
 have HD := Lib.hid (fun W (hW : Below w.heap.size w W) => h.later hW)
 have HC := Lib.hid (fun W (hW : Below w.heap.size w W) => hcs.later hW)
 have HDK := Lib.hid hk
 clear h hcs hk
 go_enter Tryz.func13, Tryz.ntmps13
 go_upto_region 1 with fail
 generalize ((w.alloc (.cells #[.int .i64 (l).id, .int .i64 (l).ac, .int .i64 (l).st, .int .i64 (l).pp, .int .i64 (l).pi, .int .i64 (l).fee, .int .i64 (l).pen, .int .i64 (l).chg, .int .i64 (l).prov, .int .i64 (l).loss, .int .i64 (l).rcv, .int .i64 ((l).tm).me, .int .i64 ((l).tm).pr, .int .i64 ((l).tm).ppm, .int .i64 ((l).tm).stt, .int .i64 ((l).tm).ev, .int .i64 ((l).tm).ct, .int .i64 ((l).tm).ba, .int .i64 ((l).tm).mo, .int .i64 ((l).tm).pen, .int .i64 ((l).tm).fe, .string ((l).tm).cal, .string ((l).tm).cur, .slice da (l).ds.length dk, .slice ca (l).cs.length ck] 27)).alloc (.cells #[.int .i64 0, .int .i64 0, .int .i64 0, .int .i64 0, .int .i64 0, .int .i64 0, .int .i64 0, .int .i64 0, .int .i64 0, .int .i64 0, .int .i64 0, .int .i64 0, .int .i64 0, .int .i64 0, .int .i64 0, .int .i64 0, .int .i64 0, .int .i64 0, .int .i64 0, .int .i64 0, .int .i64 0, .string { data := #[] }, .string { data := #[] }, .slice none 0 0, .slice none 0 0] 27)) = w1 at *
 have hz1 := kz.lt
 go_wp2_with (first | (refine wpList_load_row rfl 27 _ rfl _ rfl _ _ _ _ k0 Tryz.underlying27 rfl (by kernel_rfl) ?_) | (refine load_guarded 27 _ rfl rfl _ rfl _ _ _ _ k0 Tryz.underlying27 rfl (by kernel_rfl) ?_))
 refine (rquote35_any l da ca dk ck day _ (HD.out _ cw1) HDK.out).mono ?_
 rintro e w2 ⟨rfl, hb⟩
 have cw2 := bl2 hb cw1
 replace k0 := k0.later hb
 replace kz := kz.later hb
 clear hb cw1
 by_cases he : qtE l day = 0
 ·have HE := Lib.hid he
  obtain ⟨ho, hday, hst, hgl, hgn⟩ := qt_parts he
  have HST := Lib.hid hst
  clear hst
  have hv := view ho day
  have hl := lat_bd ho day
  have hfe := fe_ok ho (a := lat l day) hl.1 hgl.2
  have ho' := ord_iff.1 ho.ord
  have hn2 := ho.n2
  have hal := at_le l day
  have HGL := Lib.hid hgl
  clear hgn
  have g1 : (qtE l day != 0) = false := by rw [he]; rfl
  clear he
  generalize qtV l day = N at *
  generalize qtE l day = E at g1 ⊢
  have HX1 := Lib.hid (fun W (hW : SB w2 W) => notdue_any l da ca dk ck day W (HD.out _ (bl2 hW cw2)) ho)
  have HX2 := Lib.hid (fun W (_ : SB w2 W) => rfee35_any l da ca dk ck (lat l day) W (by unfold Wm.I64; unfold gd at hgl; omega) (fe_i64 ho))
  rw [hfe.1] at HX2
  obtain ⟨LT, hLT⟩ : ∃ x, x = lat l day := ⟨_, rfl⟩
  obtain ⟨F, hF⟩ : ∃ F, F = feV l (lat l day) := ⟨_, rfl⟩
  rw [← hF] at hfe HX2
  rw [← hLT] at HX1 HX2
  have HFF := Lib.hid hF
  clear hF hLT
  have hS0 : SB w2 w2.drew := (Below.refl _ _).drew
  go_upto_region 4 with fail
  refine wp_region_held_drew (S := SB w2) (by kernel_rfl) hS0 (fun hS => ?_)
  clear hS0
  refine take_at 0 (by decide) (by kernel_rfl) (by kernel_rfl) (by kernel_rfl) (fun _ _ _ h => h) hS (yields_load_row (by rfl) 27 (.tmp 2) rfl w.heap.size rfl _ _ _ _ (fun W hW => (k0.later hW)) Tryz.underlying27 rfl (by kernel_rfl)) ?_
  simp only [z0, z1, Act.put, z3, z4, z5]
  refine take_at 1 (by decide) (by kernel_rfl) (by kernel_rfl) (by kernel_rfl) (fun _ _ _ h => h) hS (yields_load_row (by rfl) 27 (.tmp 2) rfl w.heap.size rfl _ _ _ _ (fun W hW => (k0.later hW)) Tryz.underlying27 rfl (by kernel_rfl)) ?_
  simp only [z0, z1, Act.put, z3, z4, z5]
  refine tk 2 (by decide) ?_ hS (by kernel_rfl) (by kernel_rfl) (by kernel_rfl) (by rfl) (fun _ _ _ h => h) ?_ ?_
  rotate_left
  ·intro W hW
   clear hW
   simp only [z0, z1]
   go_simp
   first | done | with_reducible rfl
  simp only [z0, z1, Act.put, z3, z4, z5]
  refine call_at 3 (by decide) (Pi := (fun v _ => v = .int .i64 LT)) (by kernel_rfl) (by rfl) (by simp only [z0, z1]; go_simp; first | done | rfl | exact ⟨rfl, rfl⟩) (call_one SB.mono hS (HX1.out _ hS)) ?_
  clear hS
  rintro w3 u hS rfl
  simp only [z0, z1, Act.put, z3, z4, z5]
  refine call_at 4 (by decide) (Pi := (fun v _ => v = (.tuple #[.int .i64 F, .int .i64 0]))) (by kernel_rfl) (by rfl) (by simp only [z0, z1]; go_simp; first | done | rfl | exact ⟨rfl, rfl⟩) (call_one SB.mono hS (HX2.out _ hS)) ?_
  clear hS
  rintro w4 u hS rfl
  simp only [z0, z1, Act.put, z3, z4, z5]
  refine tk 5 (by decide) ?_ hS (by kernel_rfl) (by kernel_rfl) (by kernel_rfl) (by rfl) (fun _ _ _ h => h) ?_ ?_
  rotate_left
  ·intro W hW
   clear hW
   simp only [z0, z1]
   go_simp
   first | done | with_reducible rfl
  simp only [z0, z1, Act.put, z3, z4, z5]
  refine tk 6 (by decide) ?_ hS (by kernel_rfl) (by kernel_rfl) (by kernel_rfl) (by rfl) (fun _ _ _ h => h) ?_ ?_
  rotate_left
  ·intro W hW
   clear hW
   simp only [z0, z1]
   go_simp
   first | done | with_reducible rfl
  simp only [z0, z1, Act.put, z3, z4, z5]
  refine tk 7 (by decide) ?_ hS (by kernel_rfl) (by kernel_rfl) (by kernel_rfl) (by rfl) (fun _ _ _ h => h) ?_ ?_
  rotate_left
  ·intro W hW
   clear hW
   simp only [z0, z1]
   go_simp
   first | done | with_reducible rfl
  simp only [z0, z1, Act.put, z3, z4, z5]
  refine tk 8 (by decide) ?_ hS (by kernel_rfl) (by kernel_rfl) (by kernel_rfl) (by rfl) (fun _ _ _ h => h) ?_ ?_
  rotate_left
  ·intro W hW
   clear hW
   simp only [z0, z1]
   go_simp
   first | done | with_reducible rfl
  simp only [z0, z1, Act.put, z3, z4, z5]
  refine tk 9 (by decide) ?_ hS (by kernel_rfl) (by kernel_rfl) (by kernel_rfl) (by rfl) (fun _ _ _ h => h) ?_ ?_
  rotate_left
  ·intro W hW
   clear hW
   simp only [z0, z1]
   go_simp
   first | done | with_reducible rfl
  simp only [z0, z1, Act.put, z3, z4, z5]
  refine wpAnyH_done (by kernel_rfl) ?_ _
  have cw4 := bl2 hS cw2
  replace k0 := k0.later hS
  replace kz := kz.later hS
  clear hS cw2 HX1 HX2
  have hga := gd_amt ho
  have hpp := ho.pp
  have hpp' := ho.pp'
  have hpi := ho.pi
  have hpi' := ho.pi'
  have v1 := hv.P2
  have s1 : IntKind.i64.wrap (l.fee + F) = l.fee + F := by unfold gd at hgl; rw [IntKind.wrap_i64]; omega
  have HQ := Lib.hid (show fuQ l day = putL (putL (putL (putL [] 1 (l.fee + F)) 2 l.pen) 3 (itn l day)) 4 (P l.ds - l.pp) by rw [fuQ_put, ← HFF.out])
  obtain ⟨T, hT⟩ : ∃ T, T = itn l day := ⟨_, rfl⟩
  obtain ⟨O, hO⟩ : ∃ O, O = P l.ds - l.pp := ⟨_, rfl⟩
  have HIN := Lib.hid (fun W (hW : Below w.heap.size w W) => rinter35_any l da ca dk ck day W (HD.out _ hW) ho)
  have HOU := Lib.hid (fun W (hW : Below w.heap.size w W) => Ln.rout_any l da ca dk ck W (HD.out _ hW) HDK.out)
  rw [show wrap64 (P l.ds - l.pp) = P l.ds - l.pp by unfold wrap64; omega] at HOU
  rw [← hT] at HQ HIN
  rw [← hO] at HQ HOU
  clear hT hO hgl
  have l5 := k0.c5
  have hb0 : Below w4.heap.size w4 (w4.alloc (.cells #[] 65)) := (Below.refl _ _).alloc (Nat.le_refl _) _
  have k0x := k0.later hb0
  have l5x := k0x.c5
  go_wp2_with fail
  clear l5 l5x k0x s1
  refine (put_any (some ⟨w4.heap.size, 0, none⟩) 0 [] 1 (l.fee + F) _ (fun h => by simp at h) (by decide)).mono ?_
  rintro e w5 ⟨gp1, pc1, rfl, hp1, _, _, hb⟩
  have hb := bl2 hb hb0
  have cw5 := bl2 hb cw4
  replace k0 := k0.later hb
  replace kz := kz.later hb
  clear hb hb0 cw4
  obtain ⟨p1, hp1e⟩ : ∃ p, p = putL [] 1 (l.fee + F) := ⟨_, rfl⟩
  rw [← hp1e] at hp1 HQ ⊢
  have hn1 : p1.length ≤ 1 := by rw [hp1e]; exact putL_len _ _ _
  clear hp1e
  have l6 := k0.c6
  go_wp2_with fail
  clear l6
  refine (put_any (some ⟨gp1, 0, none⟩) pc1 p1 2 l.pen _ hp1 (by omega)).mono ?_
  rintro e w6 ⟨gp2, pc2, rfl, hp2, _, _, hb⟩
  have cw6 := bl2 hb cw5
  replace k0 := k0.later hb
  replace kz := kz.later hb
  clear hb cw5 hp1
  obtain ⟨p2, hp2e⟩ : ∃ p, p = putL p1 2 l.pen := ⟨_, rfl⟩
  rw [← hp2e] at hp2 HQ ⊢
  have hn2' : p2.length ≤ 2 := by rw [hp2e]; exact Nat.le_trans (putL_len _ _ _) (by omega)
  clear hp2e
  go_wp2_with (first | (refine wpList_load_row rfl 27 _ rfl _ rfl _ _ _ _ k0 Tryz.underlying27 rfl (by kernel_rfl) ?_) | (refine load_guarded 27 _ rfl rfl _ rfl _ _ _ _ k0 Tryz.underlying27 rfl (by kernel_rfl) ?_))
  refine (HIN.out _ cw6).mono ?_
  rintro e w7 ⟨rfl, hb⟩
  have cw7 := bl2 hb cw6
  replace k0 := k0.later hb
  replace kz := kz.later hb
  replace hp2 := hp2.later hb
  clear hb cw6
  go_wp2_with fail
  refine (put_any (some ⟨gp2, 0, none⟩) pc2 p2 3 T _ hp2 (by omega)).mono ?_
  rintro e w8 ⟨gp3, pc3, rfl, hp3, _, _, hb⟩
  have cw8 := bl2 hb cw7
  replace k0 := k0.later hb
  replace kz := kz.later hb
  clear hb cw7 hp2
  obtain ⟨p3, hp3e⟩ : ∃ p, p = putL p2 3 T := ⟨_, rfl⟩
  rw [← hp3e] at hp3 HQ ⊢
  have hn3 : p3.length ≤ 3 := by rw [hp3e]; exact Nat.le_trans (putL_len _ _ _) (by omega)
  clear hp3e
  go_wp2_with (first | (refine wpList_load_row rfl 27 _ rfl _ rfl _ _ _ _ k0 Tryz.underlying27 rfl (by kernel_rfl) ?_) | (refine load_guarded 27 _ rfl rfl _ rfl _ _ _ _ k0 Tryz.underlying27 rfl (by kernel_rfl) ?_))
  refine (HOU.out _ cw8).mono ?_
  rintro e w9 ⟨rfl, hb⟩
  have cw9 := bl2 hb cw8
  replace k0 := k0.later hb
  replace kz := kz.later hb
  replace hp3 := hp3.later hb
  clear hb cw8
  go_wp2_with fail
  have hz9 := kz.lt
  refine (put_any (some ⟨gp3, 0, none⟩) pc3 p3 4 O _ hp3 (by omega)).mono ?_
  rintro e w10 ⟨gp, pc, rfl, hp, hgp, hgpB0, hb⟩
  have cw10 := bl2 hb cw9
  replace k0 := k0.later hb
  replace kz := kz.later hb
  have hgpz : w.heap.size + 1 < gp := by omega
  clear hb cw9 hp3 hgp hz9
  obtain ⟨ps, hpse⟩ : ∃ p, p = putL p3 4 O := ⟨_, rfl⟩
  rw [← hpse] at hp HQ ⊢
  clear hpse hn1 hn2' hn3 HIN HOU
  go_wp2_with (first | (refine wpList_load_row rfl 27 _ rfl _ rfl _ _ _ _ k0 Tryz.underlying27 rfl (by kernel_rfl) ?_) | (refine load_guarded 27 _ rfl rfl _ rfl _ _ _ _ k0 Tryz.underlying27 rfl (by kernel_rfl) ?_))
  refine (first35_any l da ca dk ck day _ (HD.out _ cw10) ho' (by omega)).mono ?_
  rintro e w11 ⟨rfl, hb⟩
  replace hgpB0 : gp < w11.heap.size := Nat.lt_of_lt_of_le hgpB0 (Below.size hb)
  have cw11 := bl2 hb cw10
  replace k0 := k0.later hb
  replace kz := kz.later hb
  replace hp := hp.later hb
  clear hb cw10
  have hfl := fst_len l day
  have hsl := snd_len l day
  obtain ⟨k, hk⟩ : ∃ k, k = atN l day := ⟨_, rfl⟩
  have HKK := Lib.hid hk
  rw [← hk] at hal hfl hsl ⊢
  clear hk
  have hsT := slice_to da l.ds.length dk k (by omega)
  have HFL := Lib.hid hfl
  have HSL := Lib.hid hsl
  clear hfl hsl
  have l23 := k0.c23
  have hz11 := kz.lt
  have hb0 : Below w11.heap.size w11 (w11.alloc (.cells #[] 53)) := (Below.refl _ _).alloc (Nat.le_refl _) _
  have l23x := (k0.later hb0).c23
  have hr0 : RowIn denc (w11.alloc (.cells #[] 53)) da (fst l day) := by
   rw [show fst l day = l.ds.take k by rw [HKK.out]; rfl]
   exact (dues_fst (HD.out _ (bl2 hb0 cw11)) k).row
  have hv0 : DV (w11.alloc (.cells #[] 53)) w11.heap.size (.slice (some ⟨w11.heap.size, 0, none⟩) 0 0) [] := gv_made w11 (Nat.le_refl _)
  have hzB0 : w11.heap.size ≤ (w11.alloc (.cells #[] 53)).heap.size := Below.size hb0
  go_upto_region 11 with (at_builtin; refine wpList_plain rfl fun K hK => dues_wp (B := w11.heap.size) (fst l day) rfl _ _ rfl rfl hv0 da dk (congrArg (fun n => Value.slice da n dk) HFL.out.symm) hr0 (by have := HFL.out; simp; omega) hzB0 ?_; intro g2 c2 w12 hv2 hb2 _; refine hK _ _ ?_)
  rw [List.nil_append] at hv2
  have hg2lt : g2 < w12.heap.size := (hv2.lt g2 rfl).1
  have hgpB : gp < w11.heap.size := hgpB0
  clear hgpB0
  have cb : Below w11.heap.size w11 w12 := Below.trans hb0 hb2
  have cw12 := bl2 cb cw11
  replace k0 := k0.later cb
  replace kz := kz.later cb
  replace hp := hp.later cb
  have hz12 : w11.heap.size ≤ w12.heap.size := Below.size cb
  clear l23 l23x hb0 hr0 hv0 hzB0 hb2 cb cw11 hsT
  go_wp2_with (first | (refine wpList_load_row rfl 27 _ rfl _ rfl _ _ _ _ k0 Tryz.underlying27 rfl (by kernel_rfl) ?_) | (refine load_guarded 27 _ rfl rfl _ rfl _ _ _ _ k0 Tryz.underlying27 rfl (by kernel_rfl) ?_))
  refine (sums35_any l da ca dk ck k _ (HD.out _ cw12) hal (by omega)).mono ?_
  rintro e w13 ⟨rfl, hb⟩
  rw [show l.ds.take k = fst l day by rw [HKK.out]; rfl]
  have cw13 := bl2 hb cw12
  replace k0 := k0.later hb
  replace kz := kz.later hb
  replace hp := hp.later hb
  replace hv2 := hv2.later hb
  have hz13 : w11.heap.size ≤ w13.heap.size := Nat.le_trans hz12 (Below.size hb)
  replace hg2lt : g2 < w13.heap.size := Nat.lt_of_lt_of_le hg2lt (Below.size hb)
  clear hb cw12 hz12
  have q0 := hv.i0
  have q1 := hv.i1
  have q2 := hv.p0
  have q3 := hv.p1
  have q4 := hv.x0
  have q5 := hv.x1
  have q6 := hv.P
  have q7 := hv.I2
  have q8 := hv.s0
  have HO1 := Lib.hid (show one1 l day = ⟨(k : Int) + 1, day, P (snd l day), max (nx l day).it (l.pi - I (fst l day))⟩ by rw [HKK.out]; rfl)
  have HNX := Lib.hid (show nx l day = if k < l.ds.length then l.ds[k]! else ⟨0, 0, 0, 0⟩ by rw [HKK.out]; rfl)
  clear hv
  obtain ⟨PF, hPF⟩ : ∃ p, p = P (fst l day) := ⟨_, rfl⟩
  obtain ⟨IF, hIF⟩ : ∃ p, p = I (fst l day) := ⟨_, rfl⟩
  obtain ⟨PS, hPS⟩ : ∃ p, p = P (snd l day) := ⟨_, rfl⟩
  rw [← hPF, ← hIF]
  rw [← hPF] at q2 q3 q6
  rw [← hIF] at q0 q1 HO1
  rw [← hPS] at q6 q8 HO1
  have HPS := Lib.hid hPS
  clear hPF hIF hPS
  have l23 := k0.c23
  by_cases hlt : k < l.ds.length
  ·have hlt' : (k : Int) < (l.ds.length : Int) := by omega
   go_wp2_with (first | (refine wpList_load_row rfl 27 _ rfl _ rfl _ _ _ _ k0 Tryz.underlying27 rfl (by kernel_rfl) ?_) | (refine load_guarded 27 _ rfl rfl _ rfl _ _ _ _ k0 Tryz.underlying27 rfl (by kernel_rfl) ?_))
   clear hlt' l23
   refine (sums35_any l da ca dk ck l.ds.length _ (HD.out _ cw13) (Nat.le_refl _) (by omega)).mono ?_
   rintro e w14 ⟨rfl, hb⟩
   rw [List.take_length]
   have cw14 := bl2 hb cw13
   replace k0 := k0.later hb
   replace kz := kz.later hb
   replace hp := hp.later hb
   replace hv2 := hv2.later hb
   have hz14 : w11.heap.size ≤ w14.heap.size := Nat.le_trans hz13 (Below.size hb)
   replace hg2lt : g2 < w14.heap.size := Nat.lt_of_lt_of_le hg2lt (Below.size hb)
   clear hb cw13 hz13
   have hx : nx l day = l.ds[k]! := HNX.out.trans (if_pos hlt)
   obtain ⟨b, off, rfl, hc⟩ := ((HD.out _ cw14).row).mid denc_len (by omega)
   have q3c : w14.cell? ⟨b, off + k * 4 + 3, none⟩ = some (.int .i64 (l.ds[k]!).it) := hc k hlt 3 _ rfl
   clear hc
   rw [← hx] at q3c
   clear hx
   obtain ⟨X, hX⟩ : ∃ X, X = (nx l day).it := ⟨_, rfl⟩
   rw [← hX] at q3c q4 q5 HO1
   clear hX
   have s2 : IntKind.i64.wrap (P l.ds - PF) = PS := by rw [IntKind.wrap_i64]; omega
   have s3 : IntKind.i64.wrap ((k : Int) + 1) = (k : Int) + 1 := by rw [IntKind.wrap_i64]; omega
   have HQ6 := Lib.hid q6
   clear q6
   have l23 := k0.c23
   go_upto_region 15 with (refine wpList_store_row rfl 53 _ _ rfl _ _ rfl rfl _ _ Bk.Blk.nw10 (by kernel_rfl) rfl (by simp [Value.oneCell', denc]) ?_)
   clear l23 s2 s3
   have hbx : Below w14.heap.size w14 ((w14.alloc (.cells #[.int .i64 0, .int .i64 0, .int .i64 0, .int .i64 0] 53)).setRow w14.heap.size #[.int .i64 ((k : Int) + 1), .int .i64 day, .int .i64 PS, .int .i64 X]) := Below_setRow ((Below.refl _ _).alloc (Nat.le_refl _) _) (Nat.le_refl _) _
   have kx : Bk.Blk ((w14.alloc (.cells #[.int .i64 0, .int .i64 0, .int .i64 0, .int .i64 0] 53)).setRow w14.heap.size #[.int .i64 ((k : Int) + 1), .int .i64 day, .int .i64 PS, .int .i64 X]) w14.heap.size #[.int .i64 ((k : Int) + 1), .int .i64 day, .int .i64 PS, .int .i64 X] 53 := Blk_setRow_same Bk.Blk.nw10
   have cw15 := bl2 hbx cw14
   have hgx0 := kz.lt
   replace k0 := k0.later hbx
   replace kz := kz.later hbx
   replace hp := hp.later hbx
   replace hv2 := hv2.later hbx
   have hz15 : w11.heap.size ≤ ((w14.alloc (.cells #[.int .i64 0, .int .i64 0, .int .i64 0, .int .i64 0] 53)).setRow w14.heap.size #[.int .i64 ((k : Int) + 1), .int .i64 day, .int .i64 PS, .int .i64 X]).heap.size := Nat.le_trans hz14 (Below.size hbx)
   have hgx : w11.heap.size ≤ w14.heap.size := hz14
   clear hbx cw14 hz14 q3c
   generalize ((w14.alloc (.cells #[.int .i64 0, .int .i64 0, .int .i64 0, .int .i64 0] 53)).setRow w14.heap.size #[.int .i64 ((k : Int) + 1), .int .i64 day, .int .i64 PS, .int .i64 X]) = w15 at *
   generalize w14.heap.size = gx at *
   have s4 : IntKind.i64.wrap (l.pi - IF) = l.pi - IF := by rw [IntKind.wrap_i64]; omega
   have l4 := k0.c4
   have l3x := kx.c3
   by_cases hgt : X < l.pi - IF
   ·have f3x := kx.f3
    go_upto_region 17 with fail
    clear l4 l3x f3x s4
    have HMM0 : l.pi - IF = max X (l.pi - IF) := by omega
    have kx2 : Bk.Blk (w15.setCell ⟨gx, 3, none⟩ (.int .i64 (l.pi - IF))) gx #[.int .i64 ((k : Int) + 1), .int .i64 day, .int .i64 PS, .int .i64 (l.pi - IF)] 53 := (kx.set_same (i := 3) (u := .int .i64 (l.pi - IF))).conv rfl
    have k02 := k0.set_ne (g' := gx) (j := 3) (u := .int .i64 (l.pi - IF)) (by omega)
    have kz2 := kz.set_ne (g' := gx) (j := 3) (u := .int .i64 (l.pi - IF)) (by omega)
    have hp2 := row_put (ad0 := ⟨gx, 3, none⟩) (u := .int .i64 (l.pi - IF)) hp (fun ad had => by cases had; show gp ≠ gx; omega)
    have hbs : Below gx w15 (w15.setCell ⟨gx, 3, none⟩ (.int .i64 (l.pi - IF))) := (Below.refl _ _).setCell (p := ⟨gx, 3, none⟩) (Nat.le_refl _) _
    have hv22 := gv_low hv2 hbs (fun j hj => by cases hj; omega)
    have cw16 : Below w.heap.size w (w15.setCell ⟨gx, 3, none⟩ (.int .i64 (l.pi - IF))) := cw15.setCell (p := ⟨gx, 3, none⟩) (show w.heap.size ≤ gx by omega) _
    have hz16 : w11.heap.size ≤ (w15.setCell ⟨gx, 3, none⟩ (.int .i64 (l.pi - IF))).heap.size := Nat.le_trans hz15 (Below.size hbs)
    clear kx k0 kz hp hv2 cw15 hz15 hbs
    have kx := kx2
    have k0 := k02
    have kz := kz2
    have hp := hp2
    have hv2 := hv22
    clear kx2 k02 kz2 hp2 hv22
    generalize (w15.setCell ⟨gx, 3, none⟩ (.int .i64 (l.pi - IF))) = w16 at *
    obtain ⟨M, hM⟩ : ∃ M, M = l.pi - IF := ⟨_, rfl⟩
    rw [← hM] at kx HMM0
    have HMM := Lib.hid (show M = max X (l.pi - IF) by rw [← hM]; exact HMM0)
    clear HMM0 hM hgt
    have q := kx.c2
    go_wp2_with fail
    clear q
    refine (rgd_any PS _).mono ?_
    rintro e w20 ⟨rfl, hb⟩
    have cw20 := bl2 hb cw16
    replace k0 := k0.later hb
    replace kz := kz.later hb
    replace kx := kx.later hb
    replace hp := hp.later hb
    replace hv2 := hv2.later hb
    have hz20 : w11.heap.size ≤ w20.heap.size := Nat.le_trans hz16 (Below.size hb)
    clear hb cw16 hz16
    by_cases hg1 : gd PS
    ·rw [decide_eq_true hg1]
     have q := kx.c3
     go_wp2_with fail
     clear q
     refine (rgd_any M _).mono ?_
     rintro e w21 ⟨rfl, hb⟩
     have cw21 := bl2 hb cw20
     replace k0 := k0.later hb
     replace kz := kz.later hb
     replace kx := kx.later hb
     replace hp := hp.later hb
     replace hv2 := hv2.later hb
     have hz21 : w11.heap.size ≤ w21.heap.size := Nat.le_trans hz20 (Below.size hb)
     clear hb cw20 hz20
     by_cases hg2 : gd M
     ·rw [decide_eq_true hg2]
      have HF0 := Lib.hid (fuE_0 HE.out (fun _ => by rw [HO1.out, ← HMM.out]; exact ⟨hg1, hg2⟩))
      have HDD := Lib.hid (show fuD l day = fst l day ++ [(⟨(k : Int) + 1, day, PS, M⟩ : Du)] by rw [HMM.out, ← HO1.out]; exact if_pos (by rw [← HKK.out]; exact hlt))
      clear hg1 hg2 hlt
      have hb1 : Below w21.heap.size w21 (w21.alloc (.cells #[.int .i64 ((k : Int) + 1), .int .i64 day, .int .i64 PS, .int .i64 M] 53)) := (Below.refl _ _).alloc (Nat.le_refl _) _
      have hv3 := hv2.later hb1
      have hr1 : RowIn denc (w21.alloc (.cells #[.int .i64 ((k : Int) + 1), .int .i64 day, .int .i64 PS, .int .i64 M] 53)) (some ⟨w21.heap.size, 0, none⟩) [(⟨(k : Int) + 1, day, PS, M⟩ : Du)] := row_of_blk (xs := [(⟨(k : Int) + 1, day, PS, M⟩ : Du)]) Bk.Blk.nw10
      have hzB1 : w11.heap.size ≤ (w21.alloc (.cells #[.int .i64 ((k : Int) + 1), .int .i64 day, .int .i64 PS, .int .i64 M] 53)).heap.size := Nat.le_trans hz21 (Below.size hb1)
      have k0y := k0.later hb1
      have hpy := hp.later hb1
      have kzy := kz.later hb1
      have cy := bl2 hb1 cw21
      have hgz1 := kz.lt
      go_upto_region 20 with (first | (refine wpList_load_row rfl 53 _ rfl _ rfl _ _ _ _ kx Tryz.underlying53 rfl (by kernel_rfl) ?_) | (at_builtin; refine wpList_plain rfl fun K hK => dues_wp (B := w11.heap.size) [(⟨(k : Int) + 1, day, PS, M⟩ : Du)] rfl _ _ rfl rfl hv3 _ _ rfl hr1 (by have := HFL.out; simp; omega) hzB1 ?_; intro gt ct w22 hvt hb2 _; obtain ⟨ds, hds⟩ : ∃ d, d = fst l day ++ [(⟨(k : Int) + 1, day, PS, M⟩ : Du)] := ⟨_, rfl⟩; rw [← hds] at hvt ⊢; have HDS := Lib.hid hds; clear hds; refine hK _ _ ?_))
      have cw22 : Below w.heap.size w w22 := Below.trans cy (hb2.mono (by omega))
      replace k0 := blk_low k0y (by omega) hb2
      replace kz := blk_low kzy (by omega) hb2
      replace hp := hpy.blk (fun ad had => hb2.block _ (by cases had; exact hgpB))
      clear k0y kzy hpy cy hb1 hv3 hr1 hzB1 hb2 hv2 kx cw21 hz21 hgz1
      have hn7 : ds.length ≤ 1000 := by
       rw [HDS.out]
       have := HFL.out
       first | omega | (rw [List.length_append]; show (fst l day).length + 1 ≤ 1000; omega)
      obtain ⟨a7, c7, hve, hr7, hf7⟩ := hvt.row
      obtain ⟨e1, e2⟩ : (some ⟨gt, 0, none⟩ : Option Addr) = a7 ∧ ct = c7 := by simpa using hve
      subst e1 e2
      have hf7' : ∀ ad, (some ⟨gt, 0, none⟩ : Option Addr) = some ad → w.heap.size + 1 < ad.block := fun ad had => by have := hf7 ad had; omega
      have hfp : ∀ ad, (some ⟨gp, 0, none⟩ : Option Addr) = some ad → w.heap.size + 1 < ad.block := fun ad had => by cases had; exact hgpz
      clear hve hvt hf7
      have kb := k0
      clear k0
      have x23 := kb.c23
      have y23 := kb.f23
      go_upto_region 21 with fail
      clear x23 y23
      have kb2 : Bk.Blk (w22.setCell ⟨w.heap.size, 23, none⟩ (.slice (some ⟨gt, 0, none⟩) ds.length ct)) w.heap.size #[.int .i64 l.id, .int .i64 l.ac, .int .i64 l.st, .int .i64 l.pp, .int .i64 l.pi, .int .i64 l.fee, .int .i64 l.pen, .int .i64 l.chg, .int .i64 l.prov, .int .i64 l.loss, .int .i64 l.rcv, .int .i64 l.tm.me, .int .i64 l.tm.pr, .int .i64 l.tm.ppm, .int .i64 l.tm.stt, .int .i64 l.tm.ev, .int .i64 l.tm.ct, .int .i64 l.tm.ba, .int .i64 l.tm.mo, .int .i64 l.tm.pen, .int .i64 l.tm.fe, .string l.tm.cal, .string l.tm.cur, .slice (some ⟨gt, 0, none⟩) ds.length ct, .slice ca l.cs.length ck] 27 := (kb.set_same (i := 23) (u := .slice (some ⟨gt, 0, none⟩) ds.length ct)).conv rfl
      have kz2 : Bk.Blk (w22.setCell ⟨w.heap.size, 23, none⟩ (.slice (some ⟨gt, 0, none⟩) ds.length ct)) (w.heap.size + 1) #[.int .i64 0, .int .i64 0, .int .i64 0, .int .i64 0, .int .i64 0, .int .i64 0, .int .i64 0, .int .i64 0, .int .i64 0, .int .i64 0, .int .i64 0, .int .i64 0, .int .i64 0, .int .i64 0, .int .i64 0, .int .i64 0, .int .i64 0, .int .i64 0, .int .i64 0, .int .i64 0, .int .i64 0, .string { data := #[] }, .string { data := #[] }, .slice none 0 0, .slice none 0 0] 27 := (Bk.Blk.set_ne kz (g' := w.heap.size) (j := 23) (u := .slice (some ⟨gt, 0, none⟩) ds.length ct) (by omega))
      have cv1_ : Below w.heap.size w (w22.setCell ⟨w.heap.size, 23, none⟩ (.slice (some ⟨gt, 0, none⟩) ds.length ct)) := (Below.setCell cw22 (p := ⟨w.heap.size, 23, none⟩) (Nat.le_refl _) _)
      have hr72 := (row_put (ad0 := ⟨w.heap.size, 23, none⟩) (u := .slice (some ⟨gt, 0, none⟩) ds.length ct) hr7 (fun ad had => by have := hf7' ad had; show ad.block ≠ w.heap.size; omega))
      have hp2 := (row_put (ad0 := ⟨w.heap.size, 23, none⟩) (u := .slice (some ⟨gt, 0, none⟩) ds.length ct) hp (fun ad had => by have := hfp ad had; show ad.block ≠ w.heap.size; omega))
      clear kb kz cw22 hr7 hp
      have kb := kb2
      have kz := kz2
      have hr7 := hr72
      have hp := hp2
      clear kb2 kz2 hr72 hp2
      generalize (w22.setCell ⟨w.heap.size, 23, none⟩ (.slice (some ⟨gt, 0, none⟩) ds.length ct)) = v1_ at *
      have hdv := dues_of_row (by omega) hr7
      go_wp2_with (refine wpList_load_row rfl 27 _ rfl _ rfl _ _ _ _ kb Tryz.underlying27 rfl (by kernel_rfl) ?_)
      refine (sums35_any (wd l ds) (some ⟨gt, 0, none⟩) ca ct ck ds.length _ hdv (Nat.le_refl _) (show ds.length ≤ 100000 by omega)).mono ?_
      rintro e v3_ ⟨rfl, hb⟩
      rw [show (wd l ds).ds.take ds.length = ds from List.take_length]
      have cv3_ := bl2 hb cv1_
      replace kb := kb.later hb
      replace kz := kz.later hb
      replace hr7 := hr7.later hb
      replace hp := hp.later hb
      clear hb cv1_ hdv
      obtain ⟨PP, hPP⟩ : ∃ p, p = P ds := ⟨_, rfl⟩
      obtain ⟨II, hII⟩ : ∃ p, p = I ds := ⟨_, rfl⟩
      rw [← hPP, ← hII]
      have HPP := Lib.hid hPP
      have HII := Lib.hid hII
      clear hPP hII
      have x3 := kb.c3
      have y3 := kb.f3
      have x4 := kb.c4
      have y4 := kb.f4
      have x5 := kb.c5
      have y5 := kb.f5
      have x6 := kb.c6
      have y6 := kb.f6
      have x2 := kb.c2
      have y2 := kb.f2
      go_upto_region 23 with fail
      clear x3 y3 x4 y4 x5 y5 x6 y6 x2 y2
      have kb2 : Bk.Blk (((((v3_.setCell ⟨w.heap.size, 3, none⟩ (.int .i64 PP)).setCell ⟨w.heap.size, 4, none⟩ (.int .i64 II)).setCell ⟨w.heap.size, 5, none⟩ (.int .i64 0)).setCell ⟨w.heap.size, 6, none⟩ (.int .i64 0)).setCell ⟨w.heap.size, 2, none⟩ (.int .i64 2)) w.heap.size #[.int .i64 l.id, .int .i64 l.ac, .int .i64 2, .int .i64 PP, .int .i64 II, .int .i64 0, .int .i64 0, .int .i64 l.chg, .int .i64 l.prov, .int .i64 l.loss, .int .i64 l.rcv, .int .i64 l.tm.me, .int .i64 l.tm.pr, .int .i64 l.tm.ppm, .int .i64 l.tm.stt, .int .i64 l.tm.ev, .int .i64 l.tm.ct, .int .i64 l.tm.ba, .int .i64 l.tm.mo, .int .i64 l.tm.pen, .int .i64 l.tm.fe, .string l.tm.cal, .string l.tm.cur, .slice (some ⟨gt, 0, none⟩) ds.length ct, .slice ca l.cs.length ck] 27 := (((((kb.set_same (i := 3) (u := .int .i64 PP)).set_same (i := 4) (u := .int .i64 II)).set_same (i := 5) (u := .int .i64 0)).set_same (i := 6) (u := .int .i64 0)).set_same (i := 2) (u := .int .i64 2)).conv rfl
      have kz2 : Bk.Blk (((((v3_.setCell ⟨w.heap.size, 3, none⟩ (.int .i64 PP)).setCell ⟨w.heap.size, 4, none⟩ (.int .i64 II)).setCell ⟨w.heap.size, 5, none⟩ (.int .i64 0)).setCell ⟨w.heap.size, 6, none⟩ (.int .i64 0)).setCell ⟨w.heap.size, 2, none⟩ (.int .i64 2)) (w.heap.size + 1) #[.int .i64 0, .int .i64 0, .int .i64 0, .int .i64 0, .int .i64 0, .int .i64 0, .int .i64 0, .int .i64 0, .int .i64 0, .int .i64 0, .int .i64 0, .int .i64 0, .int .i64 0, .int .i64 0, .int .i64 0, .int .i64 0, .int .i64 0, .int .i64 0, .int .i64 0, .int .i64 0, .int .i64 0, .string { data := #[] }, .string { data := #[] }, .slice none 0 0, .slice none 0 0] 27 := (Bk.Blk.set_ne (Bk.Blk.set_ne (Bk.Blk.set_ne (Bk.Blk.set_ne (Bk.Blk.set_ne kz (g' := w.heap.size) (j := 3) (u := .int .i64 PP) (by omega)) (g' := w.heap.size) (j := 4) (u := .int .i64 II) (by omega)) (g' := w.heap.size) (j := 5) (u := .int .i64 0) (by omega)) (g' := w.heap.size) (j := 6) (u := .int .i64 0) (by omega)) (g' := w.heap.size) (j := 2) (u := .int .i64 2) (by omega))
      have cv4_ : Below w.heap.size w (((((v3_.setCell ⟨w.heap.size, 3, none⟩ (.int .i64 PP)).setCell ⟨w.heap.size, 4, none⟩ (.int .i64 II)).setCell ⟨w.heap.size, 5, none⟩ (.int .i64 0)).setCell ⟨w.heap.size, 6, none⟩ (.int .i64 0)).setCell ⟨w.heap.size, 2, none⟩ (.int .i64 2)) := (Below.setCell (Below.setCell (Below.setCell (Below.setCell (Below.setCell cv3_ (p := ⟨w.heap.size, 3, none⟩) (Nat.le_refl _) _) (p := ⟨w.heap.size, 4, none⟩) (Nat.le_refl _) _) (p := ⟨w.heap.size, 5, none⟩) (Nat.le_refl _) _) (p := ⟨w.heap.size, 6, none⟩) (Nat.le_refl _) _) (p := ⟨w.heap.size, 2, none⟩) (Nat.le_refl _) _)
      have hr72 := (row_put (ad0 := ⟨w.heap.size, 2, none⟩) (u := .int .i64 2) (row_put (ad0 := ⟨w.heap.size, 6, none⟩) (u := .int .i64 0) (row_put (ad0 := ⟨w.heap.size, 5, none⟩) (u := .int .i64 0) (row_put (ad0 := ⟨w.heap.size, 4, none⟩) (u := .int .i64 II) (row_put (ad0 := ⟨w.heap.size, 3, none⟩) (u := .int .i64 PP) hr7 (fun ad had => by have := hf7' ad had; show ad.block ≠ w.heap.size; omega)) (fun ad had => by have := hf7' ad had; show ad.block ≠ w.heap.size; omega)) (fun ad had => by have := hf7' ad had; show ad.block ≠ w.heap.size; omega)) (fun ad had => by have := hf7' ad had; show ad.block ≠ w.heap.size; omega)) (fun ad had => by have := hf7' ad had; show ad.block ≠ w.heap.size; omega))
      have hp2 := (row_put (ad0 := ⟨w.heap.size, 2, none⟩) (u := .int .i64 2) (row_put (ad0 := ⟨w.heap.size, 6, none⟩) (u := .int .i64 0) (row_put (ad0 := ⟨w.heap.size, 5, none⟩) (u := .int .i64 0) (row_put (ad0 := ⟨w.heap.size, 4, none⟩) (u := .int .i64 II) (row_put (ad0 := ⟨w.heap.size, 3, none⟩) (u := .int .i64 PP) hp (fun ad had => by have := hfp ad had; show ad.block ≠ w.heap.size; omega)) (fun ad had => by have := hfp ad had; show ad.block ≠ w.heap.size; omega)) (fun ad had => by have := hfp ad had; show ad.block ≠ w.heap.size; omega)) (fun ad had => by have := hfp ad had; show ad.block ≠ w.heap.size; omega)) (fun ad had => by have := hfp ad had; show ad.block ≠ w.heap.size; omega))
      clear kb kz cv3_ hr7 hp
      have kb := kb2
      have kz := kz2
      have hr7 := hr72
      have hp := hp2
      clear kb2 kz2 hr72 hp2
      generalize (((((v3_.setCell ⟨w.heap.size, 3, none⟩ (.int .i64 PP)).setCell ⟨w.heap.size, 4, none⟩ (.int .i64 II)).setCell ⟨w.heap.size, 5, none⟩ (.int .i64 0)).setCell ⟨w.heap.size, 6, none⟩ (.int .i64 0)).setCell ⟨w.heap.size, 2, none⟩ (.int .i64 2)) = v4_ at *
      go_wp2_with (first | (refine wpList_load_row rfl 27 _ rfl _ rfl _ _ _ _ kb Tryz.underlying27 rfl (by kernel_rfl) ?_) | (refine wpList_store_row rfl 27 _ _ rfl _ _ rfl rfl _ _ kz (by kernel_rfl) rfl (by simp [Value.oneCell', denc]) ?_))
      (try simp only [Exit.inBlock, Exit.then])
      refine bodyPost_ret (results3_cell' Tryz.results13 _ _ _ _ _ _ _ rfl (Blk_setRow_same kz) Tryz.underlying27 rfl (by kernel_rfl)) rfl ?_
      rw [HPP.out, HII.out]
      exact fuo_ok HF0.out (HDD.out.trans HDS.out.symm) HQ.out (dues_setRow (dues_of_row (by omega) hr7) (fun ad had => by have := hf7' ad had; omega)) (HC.out _ (Below_setRow cv4_ (by omega) _)) (row_row hp (fun ad had => by have := hfp ad had; omega)) (Below_setRow cv4_ (by omega) _)
     ·rw [decide_eq_false hg2]
      have HF := Lib.hid (fuE_2 HE.out (by rw [← HKK.out]; exact hlt) (by rw [HO1.out]; exact fun e => hg2 (by rw [HMM.out]; exact e.2)))
      clear hlt
      go_wp2_with (refine wpList_store_row rfl 27 _ _ rfl _ _ rfl rfl _ _ kz (by kernel_rfl) rfl (by simp [Value.oneCell', denc]) ?_)
      (try simp only [Exit.inBlock, Exit.then])
      refine bodyPost_ret (results3_cell' Tryz.results13 _ _ _ _ _ _ _ rfl (Blk_setRow_same kz) Tryz.underlying27 rfl (by kernel_rfl)) rfl ?_
      exact fuo_no HF.out (by decide) (Below_setRow cw21 (by omega) _)
    ·rw [decide_eq_false hg1]
     have HF := Lib.hid (fuE_2 HE.out (by rw [← HKK.out]; exact hlt) (by rw [HO1.out]; exact fun e => hg1 e.1))
     clear hlt
     go_wp2_with (refine wpList_store_row rfl 27 _ _ rfl _ _ rfl rfl _ _ kz (by kernel_rfl) rfl (by simp [Value.oneCell', denc]) ?_)
     (try simp only [Exit.inBlock, Exit.then])
     refine bodyPost_ret (results3_cell' Tryz.results13 _ _ _ _ _ _ _ rfl (Blk_setRow_same kz) Tryz.underlying27 rfl (by kernel_rfl)) rfl ?_
     exact fuo_no HF.out (by decide) (Below_setRow cw20 (by omega) _)
   ·have HMM := Lib.hid (show X = max X (l.pi - IF) by omega)
    go_upto_region 17 with fail
    clear l4 l3x s4 hgt
    have cw16 := cw15
    have hz16 := hz15
    clear cw15 hz15
    obtain ⟨M, hM⟩ : ∃ M, M = X := ⟨_, rfl⟩
    rw [← hM] at kx
    have HMM2 := Lib.hid (show M = max X (l.pi - IF) from hM.trans HMM.out)
    clear HMM hM
    have HMM := HMM2
    clear HMM2
    have q := kx.c2
    go_wp2_with fail
    clear q
    refine (rgd_any PS _).mono ?_
    rintro e w20 ⟨rfl, hb⟩
    have cw20 := bl2 hb cw16
    replace k0 := k0.later hb
    replace kz := kz.later hb
    replace kx := kx.later hb
    replace hp := hp.later hb
    replace hv2 := hv2.later hb
    have hz20 : w11.heap.size ≤ w20.heap.size := Nat.le_trans hz16 (Below.size hb)
    clear hb cw16 hz16
    by_cases hg1 : gd PS
    ·rw [decide_eq_true hg1]
     have q := kx.c3
     go_wp2_with fail
     clear q
     refine (rgd_any M _).mono ?_
     rintro e w21 ⟨rfl, hb⟩
     have cw21 := bl2 hb cw20
     replace k0 := k0.later hb
     replace kz := kz.later hb
     replace kx := kx.later hb
     replace hp := hp.later hb
     replace hv2 := hv2.later hb
     have hz21 : w11.heap.size ≤ w21.heap.size := Nat.le_trans hz20 (Below.size hb)
     clear hb cw20 hz20
     by_cases hg2 : gd M
     ·rw [decide_eq_true hg2]
      have HF0 := Lib.hid (fuE_0 HE.out (fun _ => by rw [HO1.out, ← HMM.out]; exact ⟨hg1, hg2⟩))
      have HDD := Lib.hid (show fuD l day = fst l day ++ [(⟨(k : Int) + 1, day, PS, M⟩ : Du)] by rw [HMM.out, ← HO1.out]; exact if_pos (by rw [← HKK.out]; exact hlt))
      clear hg1 hg2 hlt
      have hb1 : Below w21.heap.size w21 (w21.alloc (.cells #[.int .i64 ((k : Int) + 1), .int .i64 day, .int .i64 PS, .int .i64 M] 53)) := (Below.refl _ _).alloc (Nat.le_refl _) _
      have hv3 := hv2.later hb1
      have hr1 : RowIn denc (w21.alloc (.cells #[.int .i64 ((k : Int) + 1), .int .i64 day, .int .i64 PS, .int .i64 M] 53)) (some ⟨w21.heap.size, 0, none⟩) [(⟨(k : Int) + 1, day, PS, M⟩ : Du)] := row_of_blk (xs := [(⟨(k : Int) + 1, day, PS, M⟩ : Du)]) Bk.Blk.nw10
      have hzB1 : w11.heap.size ≤ (w21.alloc (.cells #[.int .i64 ((k : Int) + 1), .int .i64 day, .int .i64 PS, .int .i64 M] 53)).heap.size := Nat.le_trans hz21 (Below.size hb1)
      have k0y := k0.later hb1
      have hpy := hp.later hb1
      have kzy := kz.later hb1
      have cy := bl2 hb1 cw21
      have hgz1 := kz.lt
      go_upto_region 20 with (first | (refine wpList_load_row rfl 53 _ rfl _ rfl _ _ _ _ kx Tryz.underlying53 rfl (by kernel_rfl) ?_) | (at_builtin; refine wpList_plain rfl fun K hK => dues_wp (B := w11.heap.size) [(⟨(k : Int) + 1, day, PS, M⟩ : Du)] rfl _ _ rfl rfl hv3 _ _ rfl hr1 (by have := HFL.out; simp; omega) hzB1 ?_; intro gt ct w22 hvt hb2 _; obtain ⟨ds, hds⟩ : ∃ d, d = fst l day ++ [(⟨(k : Int) + 1, day, PS, M⟩ : Du)] := ⟨_, rfl⟩; rw [← hds] at hvt ⊢; have HDS := Lib.hid hds; clear hds; refine hK _ _ ?_))
      have cw22 : Below w.heap.size w w22 := Below.trans cy (hb2.mono (by omega))
      replace k0 := blk_low k0y (by omega) hb2
      replace kz := blk_low kzy (by omega) hb2
      replace hp := hpy.blk (fun ad had => hb2.block _ (by cases had; exact hgpB))
      clear k0y kzy hpy cy hb1 hv3 hr1 hzB1 hb2 hv2 kx cw21 hz21 hgz1
      have hn7 : ds.length ≤ 1000 := by
       rw [HDS.out]
       have := HFL.out
       first | omega | (rw [List.length_append]; show (fst l day).length + 1 ≤ 1000; omega)
      obtain ⟨a7, c7, hve, hr7, hf7⟩ := hvt.row
      obtain ⟨e1, e2⟩ : (some ⟨gt, 0, none⟩ : Option Addr) = a7 ∧ ct = c7 := by simpa using hve
      subst e1 e2
      have hf7' : ∀ ad, (some ⟨gt, 0, none⟩ : Option Addr) = some ad → w.heap.size + 1 < ad.block := fun ad had => by have := hf7 ad had; omega
      have hfp : ∀ ad, (some ⟨gp, 0, none⟩ : Option Addr) = some ad → w.heap.size + 1 < ad.block := fun ad had => by cases had; exact hgpz
      clear hve hvt hf7
      have kb := k0
      clear k0
      have x23 := kb.c23
      have y23 := kb.f23
      go_upto_region 21 with fail
      clear x23 y23
      have kb2 : Bk.Blk (w22.setCell ⟨w.heap.size, 23, none⟩ (.slice (some ⟨gt, 0, none⟩) ds.length ct)) w.heap.size #[.int .i64 l.id, .int .i64 l.ac, .int .i64 l.st, .int .i64 l.pp, .int .i64 l.pi, .int .i64 l.fee, .int .i64 l.pen, .int .i64 l.chg, .int .i64 l.prov, .int .i64 l.loss, .int .i64 l.rcv, .int .i64 l.tm.me, .int .i64 l.tm.pr, .int .i64 l.tm.ppm, .int .i64 l.tm.stt, .int .i64 l.tm.ev, .int .i64 l.tm.ct, .int .i64 l.tm.ba, .int .i64 l.tm.mo, .int .i64 l.tm.pen, .int .i64 l.tm.fe, .string l.tm.cal, .string l.tm.cur, .slice (some ⟨gt, 0, none⟩) ds.length ct, .slice ca l.cs.length ck] 27 := (kb.set_same (i := 23) (u := .slice (some ⟨gt, 0, none⟩) ds.length ct)).conv rfl
      have kz2 : Bk.Blk (w22.setCell ⟨w.heap.size, 23, none⟩ (.slice (some ⟨gt, 0, none⟩) ds.length ct)) (w.heap.size + 1) #[.int .i64 0, .int .i64 0, .int .i64 0, .int .i64 0, .int .i64 0, .int .i64 0, .int .i64 0, .int .i64 0, .int .i64 0, .int .i64 0, .int .i64 0, .int .i64 0, .int .i64 0, .int .i64 0, .int .i64 0, .int .i64 0, .int .i64 0, .int .i64 0, .int .i64 0, .int .i64 0, .int .i64 0, .string { data := #[] }, .string { data := #[] }, .slice none 0 0, .slice none 0 0] 27 := (Bk.Blk.set_ne kz (g' := w.heap.size) (j := 23) (u := .slice (some ⟨gt, 0, none⟩) ds.length ct) (by omega))
      have cv1_ : Below w.heap.size w (w22.setCell ⟨w.heap.size, 23, none⟩ (.slice (some ⟨gt, 0, none⟩) ds.length ct)) := (Below.setCell cw22 (p := ⟨w.heap.size, 23, none⟩) (Nat.le_refl _) _)
      have hr72 := (row_put (ad0 := ⟨w.heap.size, 23, none⟩) (u := .slice (some ⟨gt, 0, none⟩) ds.length ct) hr7 (fun ad had => by have := hf7' ad had; show ad.block ≠ w.heap.size; omega))
      have hp2 := (row_put (ad0 := ⟨w.heap.size, 23, none⟩) (u := .slice (some ⟨gt, 0, none⟩) ds.length ct) hp (fun ad had => by have := hfp ad had; show ad.block ≠ w.heap.size; omega))
      clear kb kz cw22 hr7 hp
      have kb := kb2
      have kz := kz2
      have hr7 := hr72
      have hp := hp2
      clear kb2 kz2 hr72 hp2
      generalize (w22.setCell ⟨w.heap.size, 23, none⟩ (.slice (some ⟨gt, 0, none⟩) ds.length ct)) = v1_ at *
      have hdv := dues_of_row (by omega) hr7
      go_wp2_with (refine wpList_load_row rfl 27 _ rfl _ rfl _ _ _ _ kb Tryz.underlying27 rfl (by kernel_rfl) ?_)
      refine (sums35_any (wd l ds) (some ⟨gt, 0, none⟩) ca ct ck ds.length _ hdv (Nat.le_refl _) (show ds.length ≤ 100000 by omega)).mono ?_
      rintro e v3_ ⟨rfl, hb⟩
      rw [show (wd l ds).ds.take ds.length = ds from List.take_length]
      have cv3_ := bl2 hb cv1_
      replace kb := kb.later hb
      replace kz := kz.later hb
      replace hr7 := hr7.later hb
      replace hp := hp.later hb
      clear hb cv1_ hdv
      obtain ⟨PP, hPP⟩ : ∃ p, p = P ds := ⟨_, rfl⟩
      obtain ⟨II, hII⟩ : ∃ p, p = I ds := ⟨_, rfl⟩
      rw [← hPP, ← hII]
      have HPP := Lib.hid hPP
      have HII := Lib.hid hII
      clear hPP hII
      have x3 := kb.c3
      have y3 := kb.f3
      have x4 := kb.c4
      have y4 := kb.f4
      have x5 := kb.c5
      have y5 := kb.f5
      have x6 := kb.c6
      have y6 := kb.f6
      have x2 := kb.c2
      have y2 := kb.f2
      go_upto_region 23 with fail
      clear x3 y3 x4 y4 x5 y5 x6 y6 x2 y2
      have kb2 : Bk.Blk (((((v3_.setCell ⟨w.heap.size, 3, none⟩ (.int .i64 PP)).setCell ⟨w.heap.size, 4, none⟩ (.int .i64 II)).setCell ⟨w.heap.size, 5, none⟩ (.int .i64 0)).setCell ⟨w.heap.size, 6, none⟩ (.int .i64 0)).setCell ⟨w.heap.size, 2, none⟩ (.int .i64 2)) w.heap.size #[.int .i64 l.id, .int .i64 l.ac, .int .i64 2, .int .i64 PP, .int .i64 II, .int .i64 0, .int .i64 0, .int .i64 l.chg, .int .i64 l.prov, .int .i64 l.loss, .int .i64 l.rcv, .int .i64 l.tm.me, .int .i64 l.tm.pr, .int .i64 l.tm.ppm, .int .i64 l.tm.stt, .int .i64 l.tm.ev, .int .i64 l.tm.ct, .int .i64 l.tm.ba, .int .i64 l.tm.mo, .int .i64 l.tm.pen, .int .i64 l.tm.fe, .string l.tm.cal, .string l.tm.cur, .slice (some ⟨gt, 0, none⟩) ds.length ct, .slice ca l.cs.length ck] 27 := (((((kb.set_same (i := 3) (u := .int .i64 PP)).set_same (i := 4) (u := .int .i64 II)).set_same (i := 5) (u := .int .i64 0)).set_same (i := 6) (u := .int .i64 0)).set_same (i := 2) (u := .int .i64 2)).conv rfl
      have kz2 : Bk.Blk (((((v3_.setCell ⟨w.heap.size, 3, none⟩ (.int .i64 PP)).setCell ⟨w.heap.size, 4, none⟩ (.int .i64 II)).setCell ⟨w.heap.size, 5, none⟩ (.int .i64 0)).setCell ⟨w.heap.size, 6, none⟩ (.int .i64 0)).setCell ⟨w.heap.size, 2, none⟩ (.int .i64 2)) (w.heap.size + 1) #[.int .i64 0, .int .i64 0, .int .i64 0, .int .i64 0, .int .i64 0, .int .i64 0, .int .i64 0, .int .i64 0, .int .i64 0, .int .i64 0, .int .i64 0, .int .i64 0, .int .i64 0, .int .i64 0, .int .i64 0, .int .i64 0, .int .i64 0, .int .i64 0, .int .i64 0, .int .i64 0, .int .i64 0, .string { data := #[] }, .string { data := #[] }, .slice none 0 0, .slice none 0 0] 27 := (Bk.Blk.set_ne (Bk.Blk.set_ne (Bk.Blk.set_ne (Bk.Blk.set_ne (Bk.Blk.set_ne kz (g' := w.heap.size) (j := 3) (u := .int .i64 PP) (by omega)) (g' := w.heap.size) (j := 4) (u := .int .i64 II) (by omega)) (g' := w.heap.size) (j := 5) (u := .int .i64 0) (by omega)) (g' := w.heap.size) (j := 6) (u := .int .i64 0) (by omega)) (g' := w.heap.size) (j := 2) (u := .int .i64 2) (by omega))
      have cv4_ : Below w.heap.size w (((((v3_.setCell ⟨w.heap.size, 3, none⟩ (.int .i64 PP)).setCell ⟨w.heap.size, 4, none⟩ (.int .i64 II)).setCell ⟨w.heap.size, 5, none⟩ (.int .i64 0)).setCell ⟨w.heap.size, 6, none⟩ (.int .i64 0)).setCell ⟨w.heap.size, 2, none⟩ (.int .i64 2)) := (Below.setCell (Below.setCell (Below.setCell (Below.setCell (Below.setCell cv3_ (p := ⟨w.heap.size, 3, none⟩) (Nat.le_refl _) _) (p := ⟨w.heap.size, 4, none⟩) (Nat.le_refl _) _) (p := ⟨w.heap.size, 5, none⟩) (Nat.le_refl _) _) (p := ⟨w.heap.size, 6, none⟩) (Nat.le_refl _) _) (p := ⟨w.heap.size, 2, none⟩) (Nat.le_refl _) _)
      have hr72 := (row_put (ad0 := ⟨w.heap.size, 2, none⟩) (u := .int .i64 2) (row_put (ad0 := ⟨w.heap.size, 6, none⟩) (u := .int .i64 0) (row_put (ad0 := ⟨w.heap.size, 5, none⟩) (u := .int .i64 0) (row_put (ad0 := ⟨w.heap.size, 4, none⟩) (u := .int .i64 II) (row_put (ad0 := ⟨w.heap.size, 3, none⟩) (u := .int .i64 PP) hr7 (fun ad had => by have := hf7' ad had; show ad.block ≠ w.heap.size; omega)) (fun ad had => by have := hf7' ad had; show ad.block ≠ w.heap.size; omega)) (fun ad had => by have := hf7' ad had; show ad.block ≠ w.heap.size; omega)) (fun ad had => by have := hf7' ad had; show ad.block ≠ w.heap.size; omega)) (fun ad had => by have := hf7' ad had; show ad.block ≠ w.heap.size; omega))
      have hp2 := (row_put (ad0 := ⟨w.heap.size, 2, none⟩) (u := .int .i64 2) (row_put (ad0 := ⟨w.heap.size, 6, none⟩) (u := .int .i64 0) (row_put (ad0 := ⟨w.heap.size, 5, none⟩) (u := .int .i64 0) (row_put (ad0 := ⟨w.heap.size, 4, none⟩) (u := .int .i64 II) (row_put (ad0 := ⟨w.heap.size, 3, none⟩) (u := .int .i64 PP) hp (fun ad had => by have := hfp ad had; show ad.block ≠ w.heap.size; omega)) (fun ad had => by have := hfp ad had; show ad.block ≠ w.heap.size; omega)) (fun ad had => by have := hfp ad had; show ad.block ≠ w.heap.size; omega)) (fun ad had => by have := hfp ad had; show ad.block ≠ w.heap.size; omega)) (fun ad had => by have := hfp ad had; show ad.block ≠ w.heap.size; omega))
      clear kb kz cv3_ hr7 hp
      have kb := kb2
      have kz := kz2
      have hr7 := hr72
      have hp := hp2
      clear kb2 kz2 hr72 hp2
      generalize (((((v3_.setCell ⟨w.heap.size, 3, none⟩ (.int .i64 PP)).setCell ⟨w.heap.size, 4, none⟩ (.int .i64 II)).setCell ⟨w.heap.size, 5, none⟩ (.int .i64 0)).setCell ⟨w.heap.size, 6, none⟩ (.int .i64 0)).setCell ⟨w.heap.size, 2, none⟩ (.int .i64 2)) = v4_ at *
      go_wp2_with (first | (refine wpList_load_row rfl 27 _ rfl _ rfl _ _ _ _ kb Tryz.underlying27 rfl (by kernel_rfl) ?_) | (refine wpList_store_row rfl 27 _ _ rfl _ _ rfl rfl _ _ kz (by kernel_rfl) rfl (by simp [Value.oneCell', denc]) ?_))
      (try simp only [Exit.inBlock, Exit.then])
      refine bodyPost_ret (results3_cell' Tryz.results13 _ _ _ _ _ _ _ rfl (Blk_setRow_same kz) Tryz.underlying27 rfl (by kernel_rfl)) rfl ?_
      rw [HPP.out, HII.out]
      exact fuo_ok HF0.out (HDD.out.trans HDS.out.symm) HQ.out (dues_setRow (dues_of_row (by omega) hr7) (fun ad had => by have := hf7' ad had; omega)) (HC.out _ (Below_setRow cv4_ (by omega) _)) (row_row hp (fun ad had => by have := hfp ad had; omega)) (Below_setRow cv4_ (by omega) _)
     ·rw [decide_eq_false hg2]
      have HF := Lib.hid (fuE_2 HE.out (by rw [← HKK.out]; exact hlt) (by rw [HO1.out]; exact fun e => hg2 (by rw [HMM.out]; exact e.2)))
      clear hlt
      go_wp2_with (refine wpList_store_row rfl 27 _ _ rfl _ _ rfl rfl _ _ kz (by kernel_rfl) rfl (by simp [Value.oneCell', denc]) ?_)
      (try simp only [Exit.inBlock, Exit.then])
      refine bodyPost_ret (results3_cell' Tryz.results13 _ _ _ _ _ _ _ rfl (Blk_setRow_same kz) Tryz.underlying27 rfl (by kernel_rfl)) rfl ?_
      exact fuo_no HF.out (by decide) (Below_setRow cw21 (by omega) _)
    ·rw [decide_eq_false hg1]
     have HF := Lib.hid (fuE_2 HE.out (by rw [← HKK.out]; exact hlt) (by rw [HO1.out]; exact fun e => hg1 e.1))
     clear hlt
     go_wp2_with (refine wpList_store_row rfl 27 _ _ rfl _ _ rfl rfl _ _ kz (by kernel_rfl) rfl (by simp [Value.oneCell', denc]) ?_)
     (try simp only [Exit.inBlock, Exit.then])
     refine bodyPost_ret (results3_cell' Tryz.results13 _ _ _ _ _ _ _ rfl (Blk_setRow_same kz) Tryz.underlying27 rfl (by kernel_rfl)) rfl ?_
     exact fuo_no HF.out (by decide) (Below_setRow cw20 (by omega) _)
  ·have HF0 := Lib.hid (fuE_0 HE.out (fun e => absurd e (by rw [← HKK.out]; exact hlt)))
   have HDD := Lib.hid (show fuD l day = fst l day from if_neg (by rw [← HKK.out]; exact hlt))
   obtain ⟨ds, hds⟩ : ∃ d, d = fst l day := ⟨_, rfl⟩
   have HDS := Lib.hid hds
   have HLE := Lib.hid (show ds.length = (fst l day).length by rw [hds])
   rw [← hds] at hv2
   go_upto_region 20 with fail
   rw [← hds]
   clear hds l23
   obtain ⟨gt, hgt⟩ : ∃ g, g = g2 := ⟨_, rfl⟩
   obtain ⟨ct, hct⟩ : ∃ g, g = c2 := ⟨_, rfl⟩
   rw [← hgt, ← hct] at hv2
   rw [← hgt, ← hct]
   clear hgt hct
   have hvt := hv2
   clear hv2
   have hn7 : ds.length ≤ 1000 := by
    rw [HDS.out]
    have := HFL.out
    first | omega | (rw [List.length_append]; show (fst l day).length + 1 ≤ 1000; omega)
   obtain ⟨a7, c7, hve, hr7, hf7⟩ := hvt.row
   obtain ⟨e1, e2⟩ : (some ⟨gt, 0, none⟩ : Option Addr) = a7 ∧ ct = c7 := by simpa using hve
   subst e1 e2
   have hf7' : ∀ ad, (some ⟨gt, 0, none⟩ : Option Addr) = some ad → w.heap.size + 1 < ad.block := fun ad had => by have := hf7 ad had; omega
   have hfp : ∀ ad, (some ⟨gp, 0, none⟩ : Option Addr) = some ad → w.heap.size + 1 < ad.block := fun ad had => by cases had; exact hgpz
   clear hve hvt hf7
   have kb := k0
   clear k0
   have x23 := kb.c23
   have y23 := kb.f23
   go_upto_region 21 with fail
   clear x23 y23
   have kb2 : Bk.Blk (w13.setCell ⟨w.heap.size, 23, none⟩ (.slice (some ⟨gt, 0, none⟩) ds.length ct)) w.heap.size #[.int .i64 l.id, .int .i64 l.ac, .int .i64 l.st, .int .i64 l.pp, .int .i64 l.pi, .int .i64 l.fee, .int .i64 l.pen, .int .i64 l.chg, .int .i64 l.prov, .int .i64 l.loss, .int .i64 l.rcv, .int .i64 l.tm.me, .int .i64 l.tm.pr, .int .i64 l.tm.ppm, .int .i64 l.tm.stt, .int .i64 l.tm.ev, .int .i64 l.tm.ct, .int .i64 l.tm.ba, .int .i64 l.tm.mo, .int .i64 l.tm.pen, .int .i64 l.tm.fe, .string l.tm.cal, .string l.tm.cur, .slice (some ⟨gt, 0, none⟩) ds.length ct, .slice ca l.cs.length ck] 27 := (kb.set_same (i := 23) (u := .slice (some ⟨gt, 0, none⟩) ds.length ct)).conv rfl
   have kz2 : Bk.Blk (w13.setCell ⟨w.heap.size, 23, none⟩ (.slice (some ⟨gt, 0, none⟩) ds.length ct)) (w.heap.size + 1) #[.int .i64 0, .int .i64 0, .int .i64 0, .int .i64 0, .int .i64 0, .int .i64 0, .int .i64 0, .int .i64 0, .int .i64 0, .int .i64 0, .int .i64 0, .int .i64 0, .int .i64 0, .int .i64 0, .int .i64 0, .int .i64 0, .int .i64 0, .int .i64 0, .int .i64 0, .int .i64 0, .int .i64 0, .string { data := #[] }, .string { data := #[] }, .slice none 0 0, .slice none 0 0] 27 := (Bk.Blk.set_ne kz (g' := w.heap.size) (j := 23) (u := .slice (some ⟨gt, 0, none⟩) ds.length ct) (by omega))
   have cv1_ : Below w.heap.size w (w13.setCell ⟨w.heap.size, 23, none⟩ (.slice (some ⟨gt, 0, none⟩) ds.length ct)) := (Below.setCell cw13 (p := ⟨w.heap.size, 23, none⟩) (Nat.le_refl _) _)
   have hr72 := (row_put (ad0 := ⟨w.heap.size, 23, none⟩) (u := .slice (some ⟨gt, 0, none⟩) ds.length ct) hr7 (fun ad had => by have := hf7' ad had; show ad.block ≠ w.heap.size; omega))
   have hp2 := (row_put (ad0 := ⟨w.heap.size, 23, none⟩) (u := .slice (some ⟨gt, 0, none⟩) ds.length ct) hp (fun ad had => by have := hfp ad had; show ad.block ≠ w.heap.size; omega))
   clear kb kz cw13 hr7 hp
   have kb := kb2
   have kz := kz2
   have hr7 := hr72
   have hp := hp2
   clear kb2 kz2 hr72 hp2
   generalize (w13.setCell ⟨w.heap.size, 23, none⟩ (.slice (some ⟨gt, 0, none⟩) ds.length ct)) = v1_ at *
   have hdv := dues_of_row (by omega) hr7
   go_wp2_with (refine wpList_load_row rfl 27 _ rfl _ rfl _ _ _ _ kb Tryz.underlying27 rfl (by kernel_rfl) ?_)
   refine (sums35_any (wd l ds) (some ⟨gt, 0, none⟩) ca ct ck ds.length _ hdv (Nat.le_refl _) (show ds.length ≤ 100000 by omega)).mono ?_
   rintro e v3_ ⟨rfl, hb⟩
   rw [show (wd l ds).ds.take ds.length = ds from List.take_length]
   have cv3_ := bl2 hb cv1_
   replace kb := kb.later hb
   replace kz := kz.later hb
   replace hr7 := hr7.later hb
   replace hp := hp.later hb
   clear hb cv1_ hdv
   obtain ⟨PP, hPP⟩ : ∃ p, p = P ds := ⟨_, rfl⟩
   obtain ⟨II, hII⟩ : ∃ p, p = I ds := ⟨_, rfl⟩
   rw [← hPP, ← hII]
   have HPP := Lib.hid hPP
   have HII := Lib.hid hII
   clear hPP hII
   have x3 := kb.c3
   have y3 := kb.f3
   have x4 := kb.c4
   have y4 := kb.f4
   have x5 := kb.c5
   have y5 := kb.f5
   have x6 := kb.c6
   have y6 := kb.f6
   have x2 := kb.c2
   have y2 := kb.f2
   go_upto_region 23 with fail
   clear x3 y3 x4 y4 x5 y5 x6 y6 x2 y2
   have kb2 : Bk.Blk (((((v3_.setCell ⟨w.heap.size, 3, none⟩ (.int .i64 PP)).setCell ⟨w.heap.size, 4, none⟩ (.int .i64 II)).setCell ⟨w.heap.size, 5, none⟩ (.int .i64 0)).setCell ⟨w.heap.size, 6, none⟩ (.int .i64 0)).setCell ⟨w.heap.size, 2, none⟩ (.int .i64 2)) w.heap.size #[.int .i64 l.id, .int .i64 l.ac, .int .i64 2, .int .i64 PP, .int .i64 II, .int .i64 0, .int .i64 0, .int .i64 l.chg, .int .i64 l.prov, .int .i64 l.loss, .int .i64 l.rcv, .int .i64 l.tm.me, .int .i64 l.tm.pr, .int .i64 l.tm.ppm, .int .i64 l.tm.stt, .int .i64 l.tm.ev, .int .i64 l.tm.ct, .int .i64 l.tm.ba, .int .i64 l.tm.mo, .int .i64 l.tm.pen, .int .i64 l.tm.fe, .string l.tm.cal, .string l.tm.cur, .slice (some ⟨gt, 0, none⟩) ds.length ct, .slice ca l.cs.length ck] 27 := (((((kb.set_same (i := 3) (u := .int .i64 PP)).set_same (i := 4) (u := .int .i64 II)).set_same (i := 5) (u := .int .i64 0)).set_same (i := 6) (u := .int .i64 0)).set_same (i := 2) (u := .int .i64 2)).conv rfl
   have kz2 : Bk.Blk (((((v3_.setCell ⟨w.heap.size, 3, none⟩ (.int .i64 PP)).setCell ⟨w.heap.size, 4, none⟩ (.int .i64 II)).setCell ⟨w.heap.size, 5, none⟩ (.int .i64 0)).setCell ⟨w.heap.size, 6, none⟩ (.int .i64 0)).setCell ⟨w.heap.size, 2, none⟩ (.int .i64 2)) (w.heap.size + 1) #[.int .i64 0, .int .i64 0, .int .i64 0, .int .i64 0, .int .i64 0, .int .i64 0, .int .i64 0, .int .i64 0, .int .i64 0, .int .i64 0, .int .i64 0, .int .i64 0, .int .i64 0, .int .i64 0, .int .i64 0, .int .i64 0, .int .i64 0, .int .i64 0, .int .i64 0, .int .i64 0, .int .i64 0, .string { data := #[] }, .string { data := #[] }, .slice none 0 0, .slice none 0 0] 27 := (Bk.Blk.set_ne (Bk.Blk.set_ne (Bk.Blk.set_ne (Bk.Blk.set_ne (Bk.Blk.set_ne kz (g' := w.heap.size) (j := 3) (u := .int .i64 PP) (by omega)) (g' := w.heap.size) (j := 4) (u := .int .i64 II) (by omega)) (g' := w.heap.size) (j := 5) (u := .int .i64 0) (by omega)) (g' := w.heap.size) (j := 6) (u := .int .i64 0) (by omega)) (g' := w.heap.size) (j := 2) (u := .int .i64 2) (by omega))
   have cv4_ : Below w.heap.size w (((((v3_.setCell ⟨w.heap.size, 3, none⟩ (.int .i64 PP)).setCell ⟨w.heap.size, 4, none⟩ (.int .i64 II)).setCell ⟨w.heap.size, 5, none⟩ (.int .i64 0)).setCell ⟨w.heap.size, 6, none⟩ (.int .i64 0)).setCell ⟨w.heap.size, 2, none⟩ (.int .i64 2)) := (Below.setCell (Below.setCell (Below.setCell (Below.setCell (Below.setCell cv3_ (p := ⟨w.heap.size, 3, none⟩) (Nat.le_refl _) _) (p := ⟨w.heap.size, 4, none⟩) (Nat.le_refl _) _) (p := ⟨w.heap.size, 5, none⟩) (Nat.le_refl _) _) (p := ⟨w.heap.size, 6, none⟩) (Nat.le_refl _) _) (p := ⟨w.heap.size, 2, none⟩) (Nat.le_refl _) _)
   have hr72 := (row_put (ad0 := ⟨w.heap.size, 2, none⟩) (u := .int .i64 2) (row_put (ad0 := ⟨w.heap.size, 6, none⟩) (u := .int .i64 0) (row_put (ad0 := ⟨w.heap.size, 5, none⟩) (u := .int .i64 0) (row_put (ad0 := ⟨w.heap.size, 4, none⟩) (u := .int .i64 II) (row_put (ad0 := ⟨w.heap.size, 3, none⟩) (u := .int .i64 PP) hr7 (fun ad had => by have := hf7' ad had; show ad.block ≠ w.heap.size; omega)) (fun ad had => by have := hf7' ad had; show ad.block ≠ w.heap.size; omega)) (fun ad had => by have := hf7' ad had; show ad.block ≠ w.heap.size; omega)) (fun ad had => by have := hf7' ad had; show ad.block ≠ w.heap.size; omega)) (fun ad had => by have := hf7' ad had; show ad.block ≠ w.heap.size; omega))
   have hp2 := (row_put (ad0 := ⟨w.heap.size, 2, none⟩) (u := .int .i64 2) (row_put (ad0 := ⟨w.heap.size, 6, none⟩) (u := .int .i64 0) (row_put (ad0 := ⟨w.heap.size, 5, none⟩) (u := .int .i64 0) (row_put (ad0 := ⟨w.heap.size, 4, none⟩) (u := .int .i64 II) (row_put (ad0 := ⟨w.heap.size, 3, none⟩) (u := .int .i64 PP) hp (fun ad had => by have := hfp ad had; show ad.block ≠ w.heap.size; omega)) (fun ad had => by have := hfp ad had; show ad.block ≠ w.heap.size; omega)) (fun ad had => by have := hfp ad had; show ad.block ≠ w.heap.size; omega)) (fun ad had => by have := hfp ad had; show ad.block ≠ w.heap.size; omega)) (fun ad had => by have := hfp ad had; show ad.block ≠ w.heap.size; omega))
   clear kb kz cv3_ hr7 hp
   have kb := kb2
   have kz := kz2
   have hr7 := hr72
   have hp := hp2
   clear kb2 kz2 hr72 hp2
   generalize (((((v3_.setCell ⟨w.heap.size, 3, none⟩ (.int .i64 PP)).setCell ⟨w.heap.size, 4, none⟩ (.int .i64 II)).setCell ⟨w.heap.size, 5, none⟩ (.int .i64 0)).setCell ⟨w.heap.size, 6, none⟩ (.int .i64 0)).setCell ⟨w.heap.size, 2, none⟩ (.int .i64 2)) = v4_ at *
   go_wp2_with (first | (refine wpList_load_row rfl 27 _ rfl _ rfl _ _ _ _ kb Tryz.underlying27 rfl (by kernel_rfl) ?_) | (refine wpList_store_row rfl 27 _ _ rfl _ _ rfl rfl _ _ kz (by kernel_rfl) rfl (by simp [Value.oneCell', denc]) ?_))
   (try simp only [Exit.inBlock, Exit.then])
   refine bodyPost_ret (results3_cell' Tryz.results13 _ _ _ _ _ _ _ rfl (Blk_setRow_same kz) Tryz.underlying27 rfl (by kernel_rfl)) rfl ?_
   rw [HPP.out, HII.out]
   exact fuo_ok HF0.out (HDD.out.trans HDS.out.symm) HQ.out (dues_setRow (dues_of_row (by omega) hr7) (fun ad had => by have := hf7' ad had; omega)) (HC.out _ (Below_setRow cv4_ (by omega) _)) (row_row hp (fun ad had => by have := hfp ad had; omega)) (Below_setRow cv4_ (by omega) _)
 ·have HF := Lib.hid (fuE_1 he)
  have HN := Lib.hid he
  have g1 : (qtE l day != 0) = true := by simpa using he
  clear he
  generalize qtV l day = N at *
  generalize qtE l day = E at HF HN g1 ⊢
  go_wp2_with (refine wpList_store_row rfl 27 _ _ rfl _ _ rfl rfl _ _ kz (by kernel_rfl) rfl (by simp [Value.oneCell', denc]) ?_)
  (try simp only [Exit.inBlock, Exit.then])
  refine bodyPost_ret (results3_cell' Tryz.results13 _ _ _ _ _ _ _ rfl (Blk_setRow_same kz) Tryz.underlying27 rfl (by kernel_rfl)) rfl ?_
  exact fuo_no HF.out HN.out (Below_setRow cw2 (by omega) _)
end Go.Proofs.YtaanicginfjgdaaGreatDoor.Pp
