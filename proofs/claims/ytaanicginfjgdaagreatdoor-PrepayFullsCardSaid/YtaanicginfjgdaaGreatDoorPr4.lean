/-
 PrepayFulls: its walk.
-/
import Derived.Test.YtaanicginfjgdaaGreatDoorPqa
import Derived.Test.YtaanicginfjgdaaGreatDoorPr3
namespace Go.Proofs.YtaanicginfjgdaaGreatDoor.Pp
open Go Go.RowKit
open Go.Proofs.YtaanicginfjgdaaGreatDoor
open Go.Proofs.YtaanicginfjgdaaGreatDoor.Ln (Tm Ch Du Lo Pa sum prs its P I due chk Ok ok_iff wrap_in wrap_add powed zLo LoIn DuesIn RowIn OwnR denc denc_len cenc cenc_len penc penc_len tenc flat flat_len Dok dues_of_row bl2 SB SB.mono SQ SQ.mono take_at one_at two_at call_at call_wp call_one call_pv value_wp yields_load_row Blk_setRow_same Blk_setRow_ne Below_setRow dues_setRow row_row one25 load_guarded results2_cell dues_lt rowc_lt rangeAt_later tk ts z0 z1 z3 z4 z5)
open Go.Proofs.YtaanicginfjgdaaGreatDoor.Rd (gd pcV pcE Stp)
open Go.Proofs.YtaanicginfjgdaaGreatDoor.Kl (Cl CalIn skE)
set_option linter.unusedSimpArgs false
set_option linter.unusedVariables false
set_option maxRecDepth 100000

theorem fuL_len {l : Lo} {day : Int} (h1 : l.ds.length ≤ 260) (h2 : l.cs.length ≤ 70) : (fuL l day).ds.length ≤ 100000 ∧ (fuL l day).cs.length ≤ 100000 ∧ (fuP l day).length ≤ 100000 := by
 have hf := fst_len l day
 have ha := at_le l day
 refine ⟨?_, ?_, ?_⟩
 ·unfold fuL
  split
  ·show (fuD l day).length ≤ _
   unfold fuD
   split
   ·rw [List.length_append]
    show (fst l day).length + 1 ≤ _
    omega
   ·omega
  ·exact Nat.zero_le _
 ·unfold fuL
  split
  ·show l.cs.length ≤ _
   omega
  ·exact Nat.zero_le _
 ·unfold fuP
  split
  ·have : (fuQ l day).length ≤ 4 := List.length_filter_le ..
   omega
  ·exact Nat.zero_le _
theorem fu_at {l M : Lo} {ps : List Pa} {day E : Int} {w : World} {f : FuncId} {args : Array Value} (hM : M = fuL l day) (hps : ps = fuP l day) (hE : E = fuE l day) (h : Calls Tryz.prog f args w (FuO l day w)) : Calls Tryz.prog f args w fun e w' => ∃ da dk ca ck pa pc, e = .returned (.tuple #[(.agg #[.int .i64 (M).id, .int .i64 (M).ac, .int .i64 (M).st, .int .i64 (M).pp, .int .i64 (M).pi, .int .i64 (M).fee, .int .i64 (M).pen, .int .i64 (M).chg, .int .i64 (M).prov, .int .i64 (M).loss, .int .i64 (M).rcv, .int .i64 ((M).tm).me, .int .i64 ((M).tm).pr, .int .i64 ((M).tm).ppm, .int .i64 ((M).tm).stt, .int .i64 ((M).tm).ev, .int .i64 ((M).tm).ct, .int .i64 ((M).tm).ba, .int .i64 ((M).tm).mo, .int .i64 ((M).tm).pen, .int .i64 ((M).tm).fe, .string ((M).tm).cal, .string ((M).tm).cur, .slice da (M).ds.length dk, .slice ca (M).cs.length ck]), .slice pa ps.length pc, .int .i64 E]) ∧ DuesIn w' da M.ds ∧ RowIn cenc w' ca M.cs ∧ RowIn penc w' pa ps ∧ Below w.heap.size w w' := by
 subst hM hps hE
 exact h
set_option maxHeartbeats 16000000 in
theorem fulls35_walk (l : Lo) (da ca : Option Addr) (dk ck : Nat) (day : Int) (_ : (Lit.int .i64 day).wf = true) (w : World) (hl : LoIn w l da ca) (hk : Dok l.ds) (hdk : l.ds.length ≤ dk) (hS : Stp w) :
  Calls Tryz.prog 4 #[(.agg #[.int .i64 (l).id, .int .i64 (l).ac, .int .i64 (l).st, .int .i64 (l).pp, .int .i64 (l).pi, .int .i64 (l).fee, .int .i64 (l).pen, .int .i64 (l).chg, .int .i64 (l).prov, .int .i64 (l).loss, .int .i64 (l).rcv, .int .i64 ((l).tm).me, .int .i64 ((l).tm).pr, .int .i64 ((l).tm).ppm, .int .i64 ((l).tm).stt, .int .i64 ((l).tm).ev, .int .i64 ((l).tm).ct, .int .i64 ((l).tm).ba, .int .i64 ((l).tm).mo, .int .i64 ((l).tm).pen, .int .i64 ((l).tm).fe, .string ((l).tm).cal, .string ((l).tm).cur, .slice da (l).ds.length dk, .slice ca (l).cs.length ck]), .int .i64 day] w fun e w' => e = .returned (.bool true) ∧ Below w.heap.size w w' := by
 have cw1 : Below w.heap.size w (w.alloc (.cells #[.int .i64 (l).id, .int .i64 (l).ac, .int .i64 (l).st, .int .i64 (l).pp, .int .i64 (l).pi, .int .i64 (l).fee, .int .i64 (l).pen, .int .i64 (l).chg, .int .i64 (l).prov, .int .i64 (l).loss, .int .i64 (l).rcv, .int .i64 ((l).tm).me, .int .i64 ((l).tm).pr, .int .i64 ((l).tm).ppm, .int .i64 ((l).tm).stt, .int .i64 ((l).tm).ev, .int .i64 ((l).tm).ct, .int .i64 ((l).tm).ba, .int .i64 ((l).tm).mo, .int .i64 ((l).tm).pen, .int .i64 ((l).tm).fe, .string ((l).tm).cal, .string ((l).tm).cur, .slice da (l).ds.length dk, .slice ca (l).cs.length ck] 27)) := (Below.refl _ _).alloc (Nat.le_refl _) _
 have k0 : Bk.Blk (w.alloc (.cells #[.int .i64 (l).id, .int .i64 (l).ac, .int .i64 (l).st, .int .i64 (l).pp, .int .i64 (l).pi, .int .i64 (l).fee, .int .i64 (l).pen, .int .i64 (l).chg, .int .i64 (l).prov, .int .i64 (l).loss, .int .i64 (l).rcv, .int .i64 ((l).tm).me, .int .i64 ((l).tm).pr, .int .i64 ((l).tm).ppm, .int .i64 ((l).tm).stt, .int .i64 ((l).tm).ev, .int .i64 ((l).tm).ct, .int .i64 ((l).tm).ba, .int .i64 ((l).tm).mo, .int .i64 ((l).tm).pen, .int .i64 ((l).tm).fe, .string ((l).tm).cal, .string ((l).tm).cur, .slice da (l).ds.length dk, .slice ca (l).cs.length ck] 27)) w.heap.size #[.int .i64 (l).id, .int .i64 (l).ac, .int .i64 (l).st, .int .i64 (l).pp, .int .i64 (l).pi, .int .i64 (l).fee, .int .i64 (l).pen, .int .i64 (l).chg, .int .i64 (l).prov, .int .i64 (l).loss, .int .i64 (l).rcv, .int .i64 ((l).tm).me, .int .i64 ((l).tm).pr, .int .i64 ((l).tm).ppm, .int .i64 ((l).tm).stt, .int .i64 ((l).tm).ev, .int .i64 ((l).tm).ct, .int .i64 ((l).tm).ba, .int .i64 ((l).tm).mo, .int .i64 ((l).tm).pen, .int .i64 ((l).tm).fe, .string ((l).tm).cal, .string ((l).tm).cur, .slice da (l).ds.length dk, .slice ca (l).cs.length ck] 27 := Bk.Blk.nw10
 have HC := Lib.hid (fun W (hW : Below w.heap.size w W) => hl.c.later hW)
 have HI := Lib.hid (fun W (hW : Below w.heap.size w W) => hl.d.later hW)
 have HST := Lib.hid (fun W (hW : Below w.heap.size w W) => hS.of hW)
 have HDK := Lib.hid hk
 clear hl hS hk
 go_enter Tryz.func4, Tryz.ntmps4
 go_upto_region 1 with fail
 generalize (w.alloc (.cells #[.int .i64 (l).id, .int .i64 (l).ac, .int .i64 (l).st, .int .i64 (l).pp, .int .i64 (l).pi, .int .i64 (l).fee, .int .i64 (l).pen, .int .i64 (l).chg, .int .i64 (l).prov, .int .i64 (l).loss, .int .i64 (l).rcv, .int .i64 ((l).tm).me, .int .i64 ((l).tm).pr, .int .i64 ((l).tm).ppm, .int .i64 ((l).tm).stt, .int .i64 ((l).tm).ev, .int .i64 ((l).tm).ct, .int .i64 ((l).tm).ba, .int .i64 ((l).tm).mo, .int .i64 ((l).tm).pen, .int .i64 ((l).tm).fe, .string ((l).tm).cal, .string ((l).tm).cur, .slice da (l).ds.length dk, .slice ca (l).cs.length ck] 27)) = w1 at *
 go_wp2_with (first | (refine wpList_load_row rfl 27 _ rfl _ rfl _ _ _ _ k0 Tryz.underlying27 rfl (by kernel_rfl) ?_) | (refine load_guarded 27 _ rfl rfl _ rfl _ _ _ _ k0 Tryz.underlying27 rfl (by kernel_rfl) ?_))
 refine (great35_any l da ca dk ck _ (HC.out _ cw1)).mono ?_
 rintro e w2 ⟨b, rfl, hbb, hb⟩
 have cw2 := bl2 hb cw1
 replace k0 := k0.later hb
 clear hb cw1
 cases b
 ·have hbd := hbb rfl
  clear hbb
  have hd : DuesIn w2 da l.ds := dues_of_row (by omega) (HI.out _ cw2)
  obtain ⟨hml, hmc, hmp⟩ := fuL_len (l := l) (day := day) hbd.1 hbd.2.1
  obtain ⟨M, hM⟩ : ∃ M, M = fuL l day := ⟨_, rfl⟩
  obtain ⟨ps, hps⟩ : ∃ M, M = fuP l day := ⟨_, rfl⟩
  obtain ⟨E, hE⟩ : ∃ M, M = fuE l day := ⟨_, rfl⟩
  rw [← hM] at hml hmc
  rw [← hps] at hmp
  have H1 := Lib.hid (fu_at hM hps hE (full_any l da ca dk ck day w2 hd (HC.out _ cw2) hdk (by omega) (HST.out _ cw2)))
  have H2 := Lib.hid (fun W hd hc => fu_at hM hps hE (rfull35_any l da ca dk ck day W hd hc HDK.out hdk))
  clear hM hps hE
  go_wp2_with (first | (refine wpList_load_row rfl 27 _ rfl _ rfl _ _ _ _ k0 Tryz.underlying27 rfl (by kernel_rfl) ?_) | (refine load_guarded 27 _ rfl rfl _ rfl _ _ _ _ k0 Tryz.underlying27 rfl (by kernel_rfl) ?_))
  refine H1.out.mono ?_
  clear H1
  rintro e w3 ⟨da1, dk1, ca1, ck1, pa1, pc1, rfl, hd1, hc1, hp1, hb⟩
  have cw3 := bl2 hb cw2
  replace k0 := k0.later hb
  replace hd := hd.later hb
  clear hb cw2
  go_upto_region 4 with (refine wpList_store_row rfl 27 _ _ rfl _ _ rfl rfl _ _ Bk.Blk.nw10 (by kernel_rfl) rfl (by simp [Value.oneCell', denc]) ?_)
  have hX : Below w3.heap.size w3 ((w3.alloc (.cells #[.int .i64 0, .int .i64 0, .int .i64 0, .int .i64 0, .int .i64 0, .int .i64 0, .int .i64 0, .int .i64 0, .int .i64 0, .int .i64 0, .int .i64 0, .int .i64 0, .int .i64 0, .int .i64 0, .int .i64 0, .int .i64 0, .int .i64 0, .int .i64 0, .int .i64 0, .int .i64 0, .int .i64 0, .string { data := #[] }, .string { data := #[] }, .slice none 0 0, .slice none 0 0] 27)).setRow w3.heap.size #[.int .i64 (M).id, .int .i64 (M).ac, .int .i64 (M).st, .int .i64 (M).pp, .int .i64 (M).pi, .int .i64 (M).fee, .int .i64 (M).pen, .int .i64 (M).chg, .int .i64 (M).prov, .int .i64 (M).loss, .int .i64 (M).rcv, .int .i64 ((M).tm).me, .int .i64 ((M).tm).pr, .int .i64 ((M).tm).ppm, .int .i64 ((M).tm).stt, .int .i64 ((M).tm).ev, .int .i64 ((M).tm).ct, .int .i64 ((M).tm).ba, .int .i64 ((M).tm).mo, .int .i64 ((M).tm).pen, .int .i64 ((M).tm).fe, .string ((M).tm).cal, .string ((M).tm).cur, .slice da1 (M).ds.length dk1, .slice ca1 (M).cs.length ck1]) := Below_setRow ((Below.refl _ _).alloc (Nat.le_refl _) _) (Nat.le_refl _) _
  have k5 : Bk.Blk ((w3.alloc (.cells #[.int .i64 0, .int .i64 0, .int .i64 0, .int .i64 0, .int .i64 0, .int .i64 0, .int .i64 0, .int .i64 0, .int .i64 0, .int .i64 0, .int .i64 0, .int .i64 0, .int .i64 0, .int .i64 0, .int .i64 0, .int .i64 0, .int .i64 0, .int .i64 0, .int .i64 0, .int .i64 0, .int .i64 0, .string { data := #[] }, .string { data := #[] }, .slice none 0 0, .slice none 0 0] 27)).setRow w3.heap.size #[.int .i64 (M).id, .int .i64 (M).ac, .int .i64 (M).st, .int .i64 (M).pp, .int .i64 (M).pi, .int .i64 (M).fee, .int .i64 (M).pen, .int .i64 (M).chg, .int .i64 (M).prov, .int .i64 (M).loss, .int .i64 (M).rcv, .int .i64 ((M).tm).me, .int .i64 ((M).tm).pr, .int .i64 ((M).tm).ppm, .int .i64 ((M).tm).stt, .int .i64 ((M).tm).ev, .int .i64 ((M).tm).ct, .int .i64 ((M).tm).ba, .int .i64 ((M).tm).mo, .int .i64 ((M).tm).pen, .int .i64 ((M).tm).fe, .string ((M).tm).cal, .string ((M).tm).cur, .slice da1 (M).ds.length dk1, .slice ca1 (M).cs.length ck1]) w3.heap.size #[.int .i64 (M).id, .int .i64 (M).ac, .int .i64 (M).st, .int .i64 (M).pp, .int .i64 (M).pi, .int .i64 (M).fee, .int .i64 (M).pen, .int .i64 (M).chg, .int .i64 (M).prov, .int .i64 (M).loss, .int .i64 (M).rcv, .int .i64 ((M).tm).me, .int .i64 ((M).tm).pr, .int .i64 ((M).tm).ppm, .int .i64 ((M).tm).stt, .int .i64 ((M).tm).ev, .int .i64 ((M).tm).ct, .int .i64 ((M).tm).ba, .int .i64 ((M).tm).mo, .int .i64 ((M).tm).pen, .int .i64 ((M).tm).fe, .string ((M).tm).cal, .string ((M).tm).cur, .slice da1 (M).ds.length dk1, .slice ca1 (M).cs.length ck1] 27 := Blk_setRow_same Bk.Blk.nw10
  have cw4 := bl2 hX cw3
  replace k0 := k0.later hX
  replace hd := hd.later hX
  replace hd1 := hd1.later hX
  replace hc1 := hc1.later hX
  replace hp1 := hp1.later hX
  clear hX cw3
  generalize ((w3.alloc (.cells #[.int .i64 0, .int .i64 0, .int .i64 0, .int .i64 0, .int .i64 0, .int .i64 0, .int .i64 0, .int .i64 0, .int .i64 0, .int .i64 0, .int .i64 0, .int .i64 0, .int .i64 0, .int .i64 0, .int .i64 0, .int .i64 0, .int .i64 0, .int .i64 0, .int .i64 0, .int .i64 0, .int .i64 0, .string { data := #[] }, .string { data := #[] }, .slice none 0 0, .slice none 0 0] 27)).setRow w3.heap.size #[.int .i64 (M).id, .int .i64 (M).ac, .int .i64 (M).st, .int .i64 (M).pp, .int .i64 (M).pi, .int .i64 (M).fee, .int .i64 (M).pen, .int .i64 (M).chg, .int .i64 (M).prov, .int .i64 (M).loss, .int .i64 (M).rcv, .int .i64 ((M).tm).me, .int .i64 ((M).tm).pr, .int .i64 ((M).tm).ppm, .int .i64 ((M).tm).stt, .int .i64 ((M).tm).ev, .int .i64 ((M).tm).ct, .int .i64 ((M).tm).ba, .int .i64 ((M).tm).mo, .int .i64 ((M).tm).pen, .int .i64 ((M).tm).fe, .string ((M).tm).cal, .string ((M).tm).cur, .slice da1 (M).ds.length dk1, .slice ca1 (M).cs.length ck1]) = w4 at *
  generalize w3.heap.size = gb5 at *
  go_wp2_with (first | (refine wpList_load_row rfl 27 _ rfl _ rfl _ _ _ _ k0 Tryz.underlying27 rfl (by kernel_rfl) ?_) | (refine load_guarded 27 _ rfl rfl _ rfl _ _ _ _ k0 Tryz.underlying27 rfl (by kernel_rfl) ?_))
  refine (H2.out _ hd (HC.out _ cw4)).mono ?_
  clear H2
  rintro e w5 ⟨da2, dk2, ca2, ck2, pa2, pc2, rfl, hd2, hc2, hp2, hb⟩
  have cw5 := bl2 hb cw4
  replace k5 := k5.later hb
  replace hd1 := hd1.later hb
  replace hc1 := hc1.later hb
  replace hp1 := hp1.later hb
  clear hb cw4 k0 hd
  go_upto_region 5 with (refine wpList_store_row rfl 27 _ _ rfl _ _ rfl rfl _ _ Bk.Blk.nw10 (by kernel_rfl) rfl (by simp [Value.oneCell', denc]) ?_)
  have hX : Below w5.heap.size w5 ((w5.alloc (.cells #[.int .i64 0, .int .i64 0, .int .i64 0, .int .i64 0, .int .i64 0, .int .i64 0, .int .i64 0, .int .i64 0, .int .i64 0, .int .i64 0, .int .i64 0, .int .i64 0, .int .i64 0, .int .i64 0, .int .i64 0, .int .i64 0, .int .i64 0, .int .i64 0, .int .i64 0, .int .i64 0, .int .i64 0, .string { data := #[] }, .string { data := #[] }, .slice none 0 0, .slice none 0 0] 27)).setRow w5.heap.size #[.int .i64 (M).id, .int .i64 (M).ac, .int .i64 (M).st, .int .i64 (M).pp, .int .i64 (M).pi, .int .i64 (M).fee, .int .i64 (M).pen, .int .i64 (M).chg, .int .i64 (M).prov, .int .i64 (M).loss, .int .i64 (M).rcv, .int .i64 ((M).tm).me, .int .i64 ((M).tm).pr, .int .i64 ((M).tm).ppm, .int .i64 ((M).tm).stt, .int .i64 ((M).tm).ev, .int .i64 ((M).tm).ct, .int .i64 ((M).tm).ba, .int .i64 ((M).tm).mo, .int .i64 ((M).tm).pen, .int .i64 ((M).tm).fe, .string ((M).tm).cal, .string ((M).tm).cur, .slice da2 (M).ds.length dk2, .slice ca2 (M).cs.length ck2]) := Below_setRow ((Below.refl _ _).alloc (Nat.le_refl _) _) (Nat.le_refl _) _
  have k6 : Bk.Blk ((w5.alloc (.cells #[.int .i64 0, .int .i64 0, .int .i64 0, .int .i64 0, .int .i64 0, .int .i64 0, .int .i64 0, .int .i64 0, .int .i64 0, .int .i64 0, .int .i64 0, .int .i64 0, .int .i64 0, .int .i64 0, .int .i64 0, .int .i64 0, .int .i64 0, .int .i64 0, .int .i64 0, .int .i64 0, .int .i64 0, .string { data := #[] }, .string { data := #[] }, .slice none 0 0, .slice none 0 0] 27)).setRow w5.heap.size #[.int .i64 (M).id, .int .i64 (M).ac, .int .i64 (M).st, .int .i64 (M).pp, .int .i64 (M).pi, .int .i64 (M).fee, .int .i64 (M).pen, .int .i64 (M).chg, .int .i64 (M).prov, .int .i64 (M).loss, .int .i64 (M).rcv, .int .i64 ((M).tm).me, .int .i64 ((M).tm).pr, .int .i64 ((M).tm).ppm, .int .i64 ((M).tm).stt, .int .i64 ((M).tm).ev, .int .i64 ((M).tm).ct, .int .i64 ((M).tm).ba, .int .i64 ((M).tm).mo, .int .i64 ((M).tm).pen, .int .i64 ((M).tm).fe, .string ((M).tm).cal, .string ((M).tm).cur, .slice da2 (M).ds.length dk2, .slice ca2 (M).cs.length ck2]) w5.heap.size #[.int .i64 (M).id, .int .i64 (M).ac, .int .i64 (M).st, .int .i64 (M).pp, .int .i64 (M).pi, .int .i64 (M).fee, .int .i64 (M).pen, .int .i64 (M).chg, .int .i64 (M).prov, .int .i64 (M).loss, .int .i64 (M).rcv, .int .i64 ((M).tm).me, .int .i64 ((M).tm).pr, .int .i64 ((M).tm).ppm, .int .i64 ((M).tm).stt, .int .i64 ((M).tm).ev, .int .i64 ((M).tm).ct, .int .i64 ((M).tm).ba, .int .i64 ((M).tm).mo, .int .i64 ((M).tm).pen, .int .i64 ((M).tm).fe, .string ((M).tm).cal, .string ((M).tm).cur, .slice da2 (M).ds.length dk2, .slice ca2 (M).cs.length ck2] 27 := Blk_setRow_same Bk.Blk.nw10
  have cw6 := bl2 hX cw5
  replace k5 := k5.later hX
  replace hd1 := hd1.later hX
  replace hc1 := hc1.later hX
  replace hp1 := hp1.later hX
  replace hd2 := hd2.later hX
  replace hc2 := hc2.later hX
  replace hp2 := hp2.later hX
  clear hX cw5
  generalize ((w5.alloc (.cells #[.int .i64 0, .int .i64 0, .int .i64 0, .int .i64 0, .int .i64 0, .int .i64 0, .int .i64 0, .int .i64 0, .int .i64 0, .int .i64 0, .int .i64 0, .int .i64 0, .int .i64 0, .int .i64 0, .int .i64 0, .int .i64 0, .int .i64 0, .int .i64 0, .int .i64 0, .int .i64 0, .int .i64 0, .string { data := #[] }, .string { data := #[] }, .slice none 0 0, .slice none 0 0] 27)).setRow w5.heap.size #[.int .i64 (M).id, .int .i64 (M).ac, .int .i64 (M).st, .int .i64 (M).pp, .int .i64 (M).pi, .int .i64 (M).fee, .int .i64 (M).pen, .int .i64 (M).chg, .int .i64 (M).prov, .int .i64 (M).loss, .int .i64 (M).rcv, .int .i64 ((M).tm).me, .int .i64 ((M).tm).pr, .int .i64 ((M).tm).ppm, .int .i64 ((M).tm).stt, .int .i64 ((M).tm).ev, .int .i64 ((M).tm).ct, .int .i64 ((M).tm).ba, .int .i64 ((M).tm).mo, .int .i64 ((M).tm).pen, .int .i64 ((M).tm).fe, .string ((M).tm).cal, .string ((M).tm).cur, .slice da2 (M).ds.length dk2, .slice ca2 (M).cs.length ck2]) = w6 at *
  generalize w5.heap.size = gb6 at *
  go_wp2_with (first | (refine wpList_load_row rfl 27 _ rfl _ rfl _ _ _ _ k5 Tryz.underlying27 rfl (by kernel_rfl) ?_) | (refine load_guarded 27 _ rfl rfl _ rfl _ _ _ _ k5 Tryz.underlying27 rfl (by kernel_rfl) ?_) | (refine wpList_load_row rfl 27 _ rfl _ rfl _ _ _ _ k6 Tryz.underlying27 rfl (by kernel_rfl) ?_) | (refine load_guarded 27 _ rfl rfl _ rfl _ _ _ _ k6 Tryz.underlying27 rfl (by kernel_rfl) ?_))
  refine (Ln.same_any M da1 ca1 da2 ca2 dk1 ck1 dk2 ck2 _ hd1.row hd2.row hc1 hc2 hml hmc).mono ?_
  rintro e w7 ⟨rfl, hb⟩
  have cw7 := bl2 hb cw6
  replace hp1 := hp1.later hb
  replace hp2 := hp2.later hb
  clear hb cw6
  go_wp2_with fail
  refine (Ln.sameparts_any pa1 pa2 pc1 pc2 ps _ hp1 hp2 hmp).mono ?_
  rintro e w8 ⟨rfl, hb⟩
  have cw8 := bl2 hb cw7
  clear hb cw7
  go_wp2_with fail
  refine (live35_any _ (HST.out _ cw8)).mono ?_
  rintro e wz ⟨rfl, hb⟩
  have cwz := bl2 hb cw8
  clear hb
  go_wp2_with fail
  go_ret
  exact ⟨rfl, cwz⟩
 ·go_wp2_with fail
  refine (live35_any _ (HST.out _ cw2)).mono ?_
  rintro e wz ⟨rfl, hb⟩
  have cwz := bl2 hb cw2
  clear hb
  go_wp2_with fail
  go_ret
  exact ⟨rfl, cwz⟩
end Go.Proofs.YtaanicginfjgdaaGreatDoor.Pp
