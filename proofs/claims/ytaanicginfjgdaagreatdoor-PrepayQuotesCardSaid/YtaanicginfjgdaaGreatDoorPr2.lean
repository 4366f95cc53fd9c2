/-
 PrepayQuotes: its walk.
-/
import Derived.Test.YtaanicginfjgdaaGreatDoorPqa
import Derived.Test.YtaanicginfjgdaaGreatDoorPr1
namespace Go.Proofs.YtaanicginfjgdaaGreatDoor.Pp
open Go Go.RowKit
open Go.Proofs.YtaanicginfjgdaaGreatDoor
open Go.Proofs.YtaanicginfjgdaaGreatDoor.Ln (Tm Ch Du Lo Pa sum prs its P I due chk Ok ok_iff wrap_in wrap_add powed zLo LoIn DuesIn RowIn OwnR denc denc_len cenc cenc_len penc penc_len tenc flat flat_len Dok dues_of_row bl2 SB SB.mono SQ SQ.mono take_at one_at two_at call_at call_wp call_one call_pv value_wp yields_load_row Blk_setRow_same Blk_setRow_ne Below_setRow dues_setRow row_row one25 load_guarded results2_cell dues_lt rowc_lt rangeAt_later tk ts z0 z1 z3 z4 z5)
open Go.Proofs.YtaanicginfjgdaaGreatDoor.Rd (gd pcV pcE Stp)
open Go.Proofs.YtaanicginfjgdaaGreatDoor.Kl (Cl CalIn skE)
set_option linter.unusedSimpArgs false
set_option linter.unusedVariables false
set_option maxRecDepth 100000

set_option maxHeartbeats 16000000 in
theorem quotes35_walk (l : Lo) (da ca : Option Addr) (dk ck : Nat) (day a : Int) (_ : (Lit.int .i64 day).wf = true) (ha : (Lit.int .i64 a).wf = true) (w : World) (hl : LoIn w l da ca) (hk : Dok l.ds) (hdk : l.ds.length ≤ dk) (hfe : -9223372036854775808 ≤ l.tm.fe ∧ l.tm.fe ≤ 9223372036854775807) (hS : Stp w) :
  Calls Tryz.prog 3 #[(.agg #[.int .i64 (l).id, .int .i64 (l).ac, .int .i64 (l).st, .int .i64 (l).pp, .int .i64 (l).pi, .int .i64 (l).fee, .int .i64 (l).pen, .int .i64 (l).chg, .int .i64 (l).prov, .int .i64 (l).loss, .int .i64 (l).rcv, .int .i64 ((l).tm).me, .int .i64 ((l).tm).pr, .int .i64 ((l).tm).ppm, .int .i64 ((l).tm).stt, .int .i64 ((l).tm).ev, .int .i64 ((l).tm).ct, .int .i64 ((l).tm).ba, .int .i64 ((l).tm).mo, .int .i64 ((l).tm).pen, .int .i64 ((l).tm).fe, .string ((l).tm).cal, .string ((l).tm).cur, .slice da (l).ds.length dk, .slice ca (l).cs.length ck]), .int .i64 day, .int .i64 a] w fun e w' => e = .returned (.bool true) ∧ Below w.heap.size w w' := by
 have cw1 : Below w.heap.size w (w.alloc (.cells #[.int .i64 (l).id, .int .i64 (l).ac, .int .i64 (l).st, .int .i64 (l).pp, .int .i64 (l).pi, .int .i64 (l).fee, .int .i64 (l).pen, .int .i64 (l).chg, .int .i64 (l).prov, .int .i64 (l).loss, .int .i64 (l).rcv, .int .i64 ((l).tm).me, .int .i64 ((l).tm).pr, .int .i64 ((l).tm).ppm, .int .i64 ((l).tm).stt, .int .i64 ((l).tm).ev, .int .i64 ((l).tm).ct, .int .i64 ((l).tm).ba, .int .i64 ((l).tm).mo, .int .i64 ((l).tm).pen, .int .i64 ((l).tm).fe, .string ((l).tm).cal, .string ((l).tm).cur, .slice da (l).ds.length dk, .slice ca (l).cs.length ck] 27)) := (Below.refl _ _).alloc (Nat.le_refl _) _
 have k0 : Bk.Blk (w.alloc (.cells #[.int .i64 (l).id, .int .i64 (l).ac, .int .i64 (l).st, .int .i64 (l).pp, .int .i64 (l).pi, .int .i64 (l).fee, .int .i64 (l).pen, .int .i64 (l).chg, .int .i64 (l).prov, .int .i64 (l).loss, .int .i64 (l).rcv, .int .i64 ((l).tm).me, .int .i64 ((l).tm).pr, .int .i64 ((l).tm).ppm, .int .i64 ((l).tm).stt, .int .i64 ((l).tm).ev, .int .i64 ((l).tm).ct, .int .i64 ((l).tm).ba, .int .i64 ((l).tm).mo, .int .i64 ((l).tm).pen, .int .i64 ((l).tm).fe, .string ((l).tm).cal, .string ((l).tm).cur, .slice da (l).ds.length dk, .slice ca (l).cs.length ck] 27)) w.heap.size #[.int .i64 (l).id, .int .i64 (l).ac, .int .i64 (l).st, .int .i64 (l).pp, .int .i64 (l).pi, .int .i64 (l).fee, .int .i64 (l).pen, .int .i64 (l).chg, .int .i64 (l).prov, .int .i64 (l).loss, .int .i64 (l).rcv, .int .i64 ((l).tm).me, .int .i64 ((l).tm).pr, .int .i64 ((l).tm).ppm, .int .i64 ((l).tm).stt, .int .i64 ((l).tm).ev, .int .i64 ((l).tm).ct, .int .i64 ((l).tm).ba, .int .i64 ((l).tm).mo, .int .i64 ((l).tm).pen, .int .i64 ((l).tm).fe, .string ((l).tm).cal, .string ((l).tm).cur, .slice da (l).ds.length dk, .slice ca (l).cs.length ck] 27 := Bk.Blk.nw10
 have HC := Lib.hid (fun W (hW : Below w.heap.size w W) => hl.c.later hW)
 have HI := Lib.hid (fun W (hW : Below w.heap.size w W) => hl.d.later hW)
 have HST := Lib.hid (fun W (hW : Below w.heap.size w W) => hS.of hW)
 have HDK := Lib.hid hk
 have HFE := Lib.hid (show Wm.I64 l.tm.fe from hfe)
 have HA := Lib.hid (show Wm.I64 a by
  simp [Lit.wf, IntKind.min, IntKind.max, IntKind.signed, IntKind.bits] at ha
  unfold Wm.I64
  omega)
 clear hl hS hk hfe ha
 go_enter Tryz.func3, Tryz.ntmps3
 go_upto_region 1 with fail
 generalize (w.alloc (.cells #[.int .i64 (l).id, .int .i64 (l).ac, .int .i64 (l).st, .int .i64 (l).pp, .int .i64 (l).pi, .int .i64 (l).fee, .int .i64 (l).pen, .int .i64 (l).chg, .int .i64 (l).prov, .int .i64 (l).loss, .int .i64 (l).rcv, .int .i64 ((l).tm).me, .int .i64 ((l).tm).pr, .int .i64 ((l).tm).ppm, .int .i64 ((l).tm).stt, .int .i64 ((l).tm).ev, .int .i64 ((l).tm).ct, .int .i64 ((l).tm).ba, .int .i64 ((l).tm).mo, .int .i64 ((l).tm).pen, .int .i64 ((l).tm).fe, .string ((l).tm).cal, .string ((l).tm).cur, .slice da (l).ds.length dk, .slice ca (l).cs.length ck] 27)) = w1 at *
 go_wp2_with (first | (refine wpList_load_row rfl 27 _ rfl _ rfl _ _ _ _ k0 Tryz.underlying27 rfl (by kernel_rfl) ?_) | (refine load_guarded 27 _ rfl rfl _ rfl _ _ _ _ k0 Tryz.underlying27 rfl (by kernel_rfl) ?_))
 refine (great35_any l da ca dk ck _ (HC.out _ cw1)).mono ?_
 rintro e w2 ⟨b, rfl, hbb, hb⟩
 have cw2 := bl2 hb cw1
 replace k0 := k0.later hb
 clear hb cw1
 cases b
 ·have hbd := hbb rfl
  clear hbb
  have hd : DuesIn w2 da l.ds := dues_of_row (by omega) (HI.out _ cw2)
  go_wp2_with (first | (refine wpList_load_row rfl 27 _ rfl _ rfl _ _ _ _ k0 Tryz.underlying27 rfl (by kernel_rfl) ?_) | (refine load_guarded 27 _ rfl rfl _ rfl _ _ _ _ k0 Tryz.underlying27 rfl (by kernel_rfl) ?_))
  refine (fee_any l da ca dk ck a _ (HST.out _ cw2) HA.out HFE.out).mono ?_
  rintro e w3 ⟨rfl, hb⟩
  have cw3 := bl2 hb cw2
  replace k0 := k0.later hb
  replace hd := hd.later hb
  clear hb cw2
  go_wp2_with (first | (refine wpList_load_row rfl 27 _ rfl _ rfl _ _ _ _ k0 Tryz.underlying27 rfl (by kernel_rfl) ?_) | (refine load_guarded 27 _ rfl rfl _ rfl _ _ _ _ k0 Tryz.underlying27 rfl (by kernel_rfl) ?_))
  refine (rfee35_any l da ca dk ck a _ HA.out HFE.out).mono ?_
  rintro e w4 ⟨rfl, hb⟩
  have cw4 := bl2 hb cw3
  replace k0 := k0.later hb
  replace hd := hd.later hb
  clear hb cw3
  go_wp2_with (first | (refine wpList_load_row rfl 27 _ rfl _ rfl _ _ _ _ k0 Tryz.underlying27 rfl (by kernel_rfl) ?_) | (refine load_guarded 27 _ rfl rfl _ rfl _ _ _ _ k0 Tryz.underlying27 rfl (by kernel_rfl) ?_))
  refine (quoteP_any l da ca dk ck day _ hd hdk (HST.out _ cw4)).mono ?_
  rintro e w5 ⟨rfl, hb⟩
  have cw5 := bl2 hb cw4
  replace k0 := k0.later hb
  replace hd := hd.later hb
  clear hb cw4
  go_wp2_with (first | (refine wpList_load_row rfl 27 _ rfl _ rfl _ _ _ _ k0 Tryz.underlying27 rfl (by kernel_rfl) ?_) | (refine load_guarded 27 _ rfl rfl _ rfl _ _ _ _ k0 Tryz.underlying27 rfl (by kernel_rfl) ?_))
  refine (rquote35_any l da ca dk ck day _ hd HDK.out).mono ?_
  rintro e w6 ⟨rfl, hb⟩
  have cw6 := bl2 hb cw5
  replace k0 := k0.later hb
  replace hd := hd.later hb
  clear hb cw5
  generalize feV l a = V1 at *
  generalize feE l a = E1 at *
  generalize qtV l day = V2 at *
  generalize qtE l day = E2 at *
  go_wp2_with fail
  refine (live35_any _ (HST.out _ cw6)).mono ?_
  rintro e wz ⟨rfl, hb⟩
  have cwz := bl2 hb cw6
  clear hb
  go_wp2_with fail
  go_ret
  exact ⟨rfl, cwz⟩
 ·go_wp2_with fail
  refine (live35_any _ (HST.out _ cw2)).mono ?_
  rintro e wz ⟨rfl, hb⟩
  have cwz := bl2 hb cw2
  clear hb
  go_wp2_with fail
  go_ret
  exact ⟨rfl, cwz⟩
end Go.Proofs.YtaanicginfjgdaaGreatDoor.Pp
