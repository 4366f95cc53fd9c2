/-
 Prepay: the fee, the view's methods.
 Prepay: the view of a loan, the amount that settles it.
 Prepay: the amount that settles a loan.
 Prepay: parts, a loan that is settled.
-/
import Derived.Test.YtaanicginfjgdaaGreatDoorPna
import Derived.Test.YtaanicginfjgdaaGreatDoorLs1
import Derived.Test.YtaanicginfjgdaaGreatDoorTkb
import Derived.Test.YtaanicginfjgdaaGreatDoorSk5
import Derived.Test.YtaanicginfjgdaaGreatDoorDta
import Derived.Test.YtaanicginfjgdaaGreatDoorSr
namespace Go.Proofs.YtaanicginfjgdaaGreatDoor.Pp
open Go Go.RowKit
open Go.Proofs.YtaanicginfjgdaaGreatDoor
open Go.Proofs.YtaanicginfjgdaaGreatDoor.Ln (Tm Ch Du Lo Pa sum prs its P I due chk Ok ok_iff wrap_in wrap_add powed zLo LoIn DuesIn RowIn OwnR denc denc_len cenc cenc_len penc penc_len tenc flat flat_len Dok dues_of_row bl2 SB SB.mono SQ SQ.mono take_at one_at two_at call_at call_wp call_one call_pv value_wp yields_load_row Blk_setRow_same Blk_setRow_ne Below_setRow dues_setRow row_row one25 load_guarded results2_cell dues_lt rowc_lt rangeAt_later tk ts z0 z1 z3 z4 z5)
open Go.Proofs.YtaanicginfjgdaaGreatDoor.Rd (gd pcV pcE Stp)
open Go.Proofs.YtaanicginfjgdaaGreatDoor.Kl (Cl CalIn skE)
set_option linter.unusedSimpArgs false
set_option linter.unusedVariables false
set_option maxRecDepth 100000

theorem dv_yes (d : Int) (w : World) (h : 0 ≤ d ∧ d ≤ 73048) : Calls Tryz.prog 65 #[.int .i64 d] w fun e w' => e = .returned (.bool true) ∧ Below w.heap.size w w' := (Dt.valid_yes d w h.1 h.2).mono fun e w' ⟨he, hw⟩ => ⟨he, by rw [← hw]; exact Below.refl _ _⟩
theorem dv_no (d : Int) (w : World) (h : ¬ (0 ≤ d ∧ d ≤ 73048)) : Calls Tryz.prog 65 #[.int .i64 d] w fun e w' => e = .returned (.bool false) ∧ Below w.heap.size w w' := (Dt.valid_no d w (by omega)).mono fun e w' ⟨he, hw⟩ => ⟨he, by rw [← hw]; exact Below.refl _ _⟩
set_option maxHeartbeats 4000000 in
theorem fee_any (l : Lo) (da ca : Option Addr) (dk ck : Nat) (a : Int) (w : World) (hS : Stp w) (ha : Wm.I64 a) (hf : Wm.I64 l.tm.fe) : Calls Tryz.prog 8 #[(.agg #[.int .i64 (l).id, .int .i64 (l).ac, .int .i64 (l).st, .int .i64 (l).pp, .int .i64 (l).pi, .int .i64 (l).fee, .int .i64 (l).pen, .int .i64 (l).chg, .int .i64 (l).prov, .int .i64 (l).loss, .int .i64 (l).rcv, .int .i64 ((l).tm).me, .int .i64 ((l).tm).pr, .int .i64 ((l).tm).ppm, .int .i64 ((l).tm).stt, .int .i64 ((l).tm).ev, .int .i64 ((l).tm).ct, .int .i64 ((l).tm).ba, .int .i64 ((l).tm).mo, .int .i64 ((l).tm).pen, .int .i64 ((l).tm).fe, .string ((l).tm).cal, .string ((l).tm).cur, .slice da (l).ds.length dk, .slice ca (l).cs.length ck]), .int .i64 a] w fun e w' => e = .returned (.tuple #[.int .i64 (feV l a), .int .i64 (feE l a)]) ∧ Below w.heap.size w w' := by
 have cw : Below w.heap.size w (w.alloc (.cells #[.int .i64 (l).id, .int .i64 (l).ac, .int .i64 (l).st, .int .i64 (l).pp, .int .i64 (l).pi, .int .i64 (l).fee, .int .i64 (l).pen, .int .i64 (l).chg, .int .i64 (l).prov, .int .i64 (l).loss, .int .i64 (l).rcv, .int .i64 ((l).tm).me, .int .i64 ((l).tm).pr, .int .i64 ((l).tm).ppm, .int .i64 ((l).tm).stt, .int .i64 ((l).tm).ev, .int .i64 ((l).tm).ct, .int .i64 ((l).tm).ba, .int .i64 ((l).tm).mo, .int .i64 ((l).tm).pen, .int .i64 ((l).tm).fe, .string ((l).tm).cal, .string ((l).tm).cur, .slice da (l).ds.length dk, .slice ca (l).cs.length ck] 27)) := (Below.refl _ _).alloc (Nat.le_refl _) _
 have k0 : Bk.Blk (w.alloc (.cells #[.int .i64 (l).id, .int .i64 (l).ac, .int .i64 (l).st, .int .i64 (l).pp, .int .i64 (l).pi, .int .i64 (l).fee, .int .i64 (l).pen, .int .i64 (l).chg, .int .i64 (l).prov, .int .i64 (l).loss, .int .i64 (l).rcv, .int .i64 ((l).tm).me, .int .i64 ((l).tm).pr, .int .i64 ((l).tm).ppm, .int .i64 ((l).tm).stt, .int .i64 ((l).tm).ev, .int .i64 ((l).tm).ct, .int .i64 ((l).tm).ba, .int .i64 ((l).tm).mo, .int .i64 ((l).tm).pen, .int .i64 ((l).tm).fe, .string ((l).tm).cal, .string ((l).tm).cur, .slice da (l).ds.length dk, .slice ca (l).cs.length ck] 27)) w.heap.size _ 27 := Bk.Blk.nw10
 have hS1 := hS.of cw
 have hv1 := Lib.hid (fun h : a < 0 => (show feV l a = 0 from if_pos h))
 have he1 := Lib.hid (fun h : a < 0 => (show feE l a = 1 from if_pos h))
 have hv2 := Lib.hid (fun h : ¬ a < 0 => (show feV l a = pcV a l.tm.fe 6 from if_neg h))
 have he2 := Lib.hid (fun h : ¬ a < 0 => (show feE l a = pcE a l.tm.fe 6 from if_neg h))
 have l20 := k0.c20
 go_enter Tryz.func8, Tryz.ntmps8
 go_upto_region 1 with fail
 generalize (w.alloc (.cells _ 27)) = w1 at *
 by_cases h0 : a < 0
 ·go_wp2_with fail
  go_ret2
  exact ⟨by rw [hv1.out h0, he1.out h0]; try rfl, cw⟩
 ·go_wp2_with fail
  refine (Rd.percent_any a l.tm.fe 6 _ hS1 ha hf).mono ?_
  rintro e w2 ⟨rfl, hb⟩
  have cw2 := bl2 hb cw
  have e1 := Lib.hid (hv2.out h0)
  have e2 := Lib.hid (he2.out h0)
  clear hv1 he1 hv2 he2
  generalize pcV a l.tm.fe 6 = v at e1 ⊢
  generalize pcE a l.tm.fe 6 = c at e2 ⊢
  clear l20
  go_wp2_with fail
  go_ret2
  exact ⟨by rw [e1.out, e2.out]; try rfl, cw2⟩
theorem mval_any (n : Int) (w : World) : Calls Tryz.prog 34 #[.int .i64 n] w fun e w' => e = .returned (.bool (decide (gd n))) ∧ Below w.heap.size w w' := by
 have hd : decide (gd n) = (decide (-1000000000000 ≤ n) && decide (n ≤ 1000000000000)) := by unfold gd; exact Bool.decide_and _ _
 rw [hd]
 by_cases h1 : -1000000000000 ≤ n
 ·by_cases h2 : n ≤ 1000000000000
  ·go_enter Tryz.func34, Tryz.ntmps34
   go_wp2_with fail
   go_ret
   exact ⟨by simp [h1, h2], Below.refl _ _⟩
  ·go_enter Tryz.func34, Tryz.ntmps34
   go_wp2_with fail
   go_ret
   exact ⟨by simp [h1, h2], Below.refl _ _⟩
 ·go_enter Tryz.func34, Tryz.ntmps34
  go_wp2_with fail
  go_ret
  exact ⟨by simp; omega, Below.refl _ _⟩
theorem nx_nil {l : Lo} {day : Int} (h : (snd l day).length = 0) : nx l day = ⟨0, 0, 0, 0⟩ := by
 have := snd_len l day
 unfold nx
 exact if_neg (by omega)
theorem nx_cons {l : Lo} {day : Int} (h : 0 < (snd l day).length) : nx l day = (snd l day)[0]! := by
 have := snd_len l day
 unfold nx
 rw [if_pos (by omega), getElem!_pos l.ds _ (by omega), getElem!_pos (snd l day) _ h]
 exact (show (l.ds.drop (atN l day))[0]'(by rw [List.length_drop]; omega) = l.ds[atN l day + 0]'(by omega) from List.getElem_drop ..).symm
set_option maxHeartbeats 8000000 in
theorem next_any (l : Lo) (da ca : Option Addr) (dk ck : Nat) (a1 a2 : Option Addr) (k1 k2 : Nat) (day : Int) (w : World) (h2 : DuesIn w a2 (snd l day)) : Calls Tryz.prog 33 #[.agg #[.int .i64 (l).id, .int .i64 (l).ac, .int .i64 (l).st, .int .i64 (l).pp, .int .i64 (l).pi, .int .i64 (l).fee, .int .i64 (l).pen, .int .i64 (l).chg, .int .i64 (l).prov, .int .i64 (l).loss, .int .i64 (l).rcv, .int .i64 ((l).tm).me, .int .i64 ((l).tm).pr, .int .i64 ((l).tm).ppm, .int .i64 ((l).tm).stt, .int .i64 ((l).tm).ev, .int .i64 ((l).tm).ct, .int .i64 ((l).tm).ba, .int .i64 ((l).tm).mo, .int .i64 ((l).tm).pen, .int .i64 ((l).tm).fe, .string ((l).tm).cal, .string ((l).tm).cur, .slice da (l).ds.length dk, .slice ca (l).cs.length ck, .slice a1 (fst l day).length k1, .slice a2 (snd l day).length k2]] w fun e w' => e = .returned (.agg #[.int .i64 (nx l day).no, .int .i64 (nx l day).day, .int .i64 (nx l day).pr, .int .i64 (nx l day).it]) ∧ Below w.heap.size w w' := by
 have cw : Below w.heap.size w ((w.alloc (.cells #[.int .i64 (l).id, .int .i64 (l).ac, .int .i64 (l).st, .int .i64 (l).pp, .int .i64 (l).pi, .int .i64 (l).fee, .int .i64 (l).pen, .int .i64 (l).chg, .int .i64 (l).prov, .int .i64 (l).loss, .int .i64 (l).rcv, .int .i64 ((l).tm).me, .int .i64 ((l).tm).pr, .int .i64 ((l).tm).ppm, .int .i64 ((l).tm).stt, .int .i64 ((l).tm).ev, .int .i64 ((l).tm).ct, .int .i64 ((l).tm).ba, .int .i64 ((l).tm).mo, .int .i64 ((l).tm).pen, .int .i64 ((l).tm).fe, .string ((l).tm).cal, .string ((l).tm).cur, .slice da (l).ds.length dk, .slice ca (l).cs.length ck, .slice a1 (fst l day).length k1, .slice a2 (snd l day).length k2] 56)).alloc (.cells #[.int .i64 0, .int .i64 0, .int .i64 0, .int .i64 0] 53)) := ((Below.refl _ _).alloc (Nat.le_refl _) _).alloc (by simp) _
 have k0 : Bk.Blk ((w.alloc (.cells #[.int .i64 (l).id, .int .i64 (l).ac, .int .i64 (l).st, .int .i64 (l).pp, .int .i64 (l).pi, .int .i64 (l).fee, .int .i64 (l).pen, .int .i64 (l).chg, .int .i64 (l).prov, .int .i64 (l).loss, .int .i64 (l).rcv, .int .i64 ((l).tm).me, .int .i64 ((l).tm).pr, .int .i64 ((l).tm).ppm, .int .i64 ((l).tm).stt, .int .i64 ((l).tm).ev, .int .i64 ((l).tm).ct, .int .i64 ((l).tm).ba, .int .i64 ((l).tm).mo, .int .i64 ((l).tm).pen, .int .i64 ((l).tm).fe, .string ((l).tm).cal, .string ((l).tm).cur, .slice da (l).ds.length dk, .slice ca (l).cs.length ck, .slice a1 (fst l day).length k1, .slice a2 (snd l day).length k2] 56)).alloc (.cells #[.int .i64 0, .int .i64 0, .int .i64 0, .int .i64 0] 53)) w.heap.size _ 56 := Bk.Blk.nw20
 have kz : Bk.Blk ((w.alloc (.cells #[.int .i64 (l).id, .int .i64 (l).ac, .int .i64 (l).st, .int .i64 (l).pp, .int .i64 (l).pi, .int .i64 (l).fee, .int .i64 (l).pen, .int .i64 (l).chg, .int .i64 (l).prov, .int .i64 (l).loss, .int .i64 (l).rcv, .int .i64 ((l).tm).me, .int .i64 ((l).tm).pr, .int .i64 ((l).tm).ppm, .int .i64 ((l).tm).stt, .int .i64 ((l).tm).ev, .int .i64 ((l).tm).ct, .int .i64 ((l).tm).ba, .int .i64 ((l).tm).mo, .int .i64 ((l).tm).pen, .int .i64 ((l).tm).fe, .string ((l).tm).cal, .string ((l).tm).cur, .slice da (l).ds.length dk, .slice ca (l).cs.length ck, .slice a1 (fst l day).length k1, .slice a2 (snd l day).length k2] 56)).alloc (.cells #[.int .i64 0, .int .i64 0, .int .i64 0, .int .i64 0] 53)) (w.heap.size + 1) _ 53 := Bk.Blk.nw21
 have hr := h2.row.later cw
 have l26 := k0.c26
 clear h2
 go_enter Tryz.func33, Tryz.ntmps33
 go_upto_region 1 with fail
 generalize ((w.alloc (.cells _ 56)).alloc (.cells _ 53)) = w1 at *
 by_cases h0 : (snd l day).length = 0
 ·have HN := Lib.hid (nx_nil (l := l) (day := day) h0)
  have hz : ((snd l day).length : Int) = 0 := by omega
  go_wp2_with (refine wpList_store_row rfl 53 _ _ rfl _ _ rfl rfl _ _ kz (by kernel_rfl) rfl (by simp [Value.oneCell', denc]) ?_)
  (try simp only [Exit.inBlock, Exit.then])
  refine bodyPost_ret (results_cell_row Tryz.results33 _ _ _ _ _ _ _ rfl (Blk_setRow_same kz) Tryz.underlying53 rfl (by kernel_rfl)) rfl ?_
  exact ⟨by rw [HN.out]; try rfl, Below_setRow cw (by omega) _⟩
 ·have HN := Lib.hid (nx_cons (l := l) (day := day) (by omega))
  obtain ⟨b, off, rfl, hc⟩ := hr.mid denc_len (by omega)
  have hm := hc 0 (by omega)
  clear hc
  generalize (snd l day)[0]! = d at hm HN
  have hz : ¬ ((snd l day).length : Int) = 0 := by omega
  have hz2 : (0 : Int) < ((snd l day).length : Int) := by omega
  go_wp2_with (first | (refine wpList_load_mid rfl 53 _ rfl b (off + 0 * 4) (by first | rfl | simp) (denc d) _ hm Tryz.underlying53 rfl (by kernel_rfl) ?_) | (refine wpList_store_row rfl 53 _ _ rfl _ _ rfl rfl _ _ kz (by kernel_rfl) rfl (by simp [Value.oneCell', denc]) ?_))
  (try simp only [Exit.inBlock, Exit.then])
  refine bodyPost_ret (results_cell_row Tryz.results33 _ _ _ _ _ _ _ rfl (Blk_setRow_same kz) Tryz.underlying53 rfl (by kernel_rfl)) rfl ?_
  exact ⟨by rw [HN.out]; try rfl, Below_setRow cw (by omega) _⟩
set_option maxHeartbeats 8000000 in
theorem later_any (l : Lo) (da ca : Option Addr) (dk ck : Nat) (a1 a2 : Option Addr) (k1 k2 : Nat) (day : Int) (w : World) (ho : Ok l) (hd : DuesIn w da l.ds) (h1 : DuesIn w a1 (fst l day)) : Calls Tryz.prog 55 #[.agg #[.int .i64 (l).id, .int .i64 (l).ac, .int .i64 (l).st, .int .i64 (l).pp, .int .i64 (l).pi, .int .i64 (l).fee, .int .i64 (l).pen, .int .i64 (l).chg, .int .i64 (l).prov, .int .i64 (l).loss, .int .i64 (l).rcv, .int .i64 ((l).tm).me, .int .i64 ((l).tm).pr, .int .i64 ((l).tm).ppm, .int .i64 ((l).tm).stt, .int .i64 ((l).tm).ev, .int .i64 ((l).tm).ct, .int .i64 ((l).tm).ba, .int .i64 ((l).tm).mo, .int .i64 ((l).tm).pen, .int .i64 ((l).tm).fe, .string ((l).tm).cal, .string ((l).tm).cur, .slice da (l).ds.length dk, .slice ca (l).cs.length ck, .slice a1 (fst l day).length k1, .slice a2 (snd l day).length k2]] w fun e w' => e = .returned (.int .i64 (lat l day)) ∧ Below w.heap.size w w' := by
 have cw : Below w.heap.size w (w.alloc (.cells #[.int .i64 (l).id, .int .i64 (l).ac, .int .i64 (l).st, .int .i64 (l).pp, .int .i64 (l).pi, .int .i64 (l).fee, .int .i64 (l).pen, .int .i64 (l).chg, .int .i64 (l).prov, .int .i64 (l).loss, .int .i64 (l).rcv, .int .i64 ((l).tm).me, .int .i64 ((l).tm).pr, .int .i64 ((l).tm).ppm, .int .i64 ((l).tm).stt, .int .i64 ((l).tm).ev, .int .i64 ((l).tm).ct, .int .i64 ((l).tm).ba, .int .i64 ((l).tm).mo, .int .i64 ((l).tm).pen, .int .i64 ((l).tm).fe, .string ((l).tm).cal, .string ((l).tm).cur, .slice da (l).ds.length dk, .slice ca (l).cs.length ck, .slice a1 (fst l day).length k1, .slice a2 (snd l day).length k2] 56)) := (Below.refl _ _).alloc (Nat.le_refl _) _
 have k0 : Bk.Blk (w.alloc (.cells #[.int .i64 (l).id, .int .i64 (l).ac, .int .i64 (l).st, .int .i64 (l).pp, .int .i64 (l).pi, .int .i64 (l).fee, .int .i64 (l).pen, .int .i64 (l).chg, .int .i64 (l).prov, .int .i64 (l).loss, .int .i64 (l).rcv, .int .i64 ((l).tm).me, .int .i64 ((l).tm).pr, .int .i64 ((l).tm).ppm, .int .i64 ((l).tm).stt, .int .i64 ((l).tm).ev, .int .i64 ((l).tm).ct, .int .i64 ((l).tm).ba, .int .i64 ((l).tm).mo, .int .i64 ((l).tm).pen, .int .i64 ((l).tm).fe, .string ((l).tm).cal, .string ((l).tm).cur, .slice da (l).ds.length dk, .slice ca (l).cs.length ck, .slice a1 (fst l day).length k1, .slice a2 (snd l day).length k2] 56)) w.heap.size _ 56 := Bk.Blk.nw10
 have h1' := h1.later cw
 have HD := Lib.hid (fun W (hW : Below w.heap.size w W) => hd.later hW)
 have V := Lib.hid (view ho day)
 have l25 := k0.c25
 clear h1
 go_enter Tryz.func55, Tryz.ntmps55
 go_upto_region 1 with fail
 generalize (w.alloc (.cells _ 56)) = w1 at *
 go_wp2_with fail
 refine (Kl.stotal_any a1 k1 (fst l day) _ h1').mono ?_
 rintro e w2 ⟨rfl, hb⟩
 have cw2 := bl2 hb cw
 replace k0 := k0.later hb
 clear hb cw l25 h1'
 have HO := Lib.hid (fun W (hW : SB w2 W) => Ln.out_any l da ca dk ck W (HD.out _ (bl2 hW cw2)))
 have he : wrap64 (P l.ds - l.pp) = P l.ds - l.pp := by have v := V.out; have := v.P2; have := v.P; have := v.p0; have := v.s0; have := ho.pp; have := ho.pp'; unfold wrap64; omega
 rw [he] at HO
 have hs1 : IntKind.i64.wrap (P (fst l day) - l.pp) = P (fst l day) - l.pp := by have v := V.out; have := v.P2; have := v.P; have := v.p0; have := v.s0; have := v.p1; have := ho.pp; have := ho.pp'; rw [IntKind.wrap_i64]; omega
 have hs2 : IntKind.i64.wrap (P l.ds - l.pp - max 0 (P (fst l day) - l.pp)) = P l.ds - l.pp - max 0 (P (fst l day) - l.pp) := by have v := V.out; have := v.P2; have := v.P; have := v.p0; have := v.s0; have := v.p1; have := ho.pp; have := ho.pp'; rw [IntKind.wrap_i64]; omega
 have HF := Lib.hid (show lat l day = P l.ds - l.pp - max 0 (P (fst l day) - l.pp) from rfl)
 clear he ho
 generalize P (fst l day) = p at *
 generalize I (fst l day) = q at *
 generalize P l.ds = Q at *
 have km : w2.rangeAt w.heap.size 0 [.int .i64 (l).id, .int .i64 (l).ac, .int .i64 (l).st, .int .i64 (l).pp, .int .i64 (l).pi, .int .i64 (l).fee, .int .i64 (l).pen, .int .i64 (l).chg, .int .i64 (l).prov, .int .i64 (l).loss, .int .i64 (l).rcv, .int .i64 ((l).tm).me, .int .i64 ((l).tm).pr, .int .i64 ((l).tm).ppm, .int .i64 ((l).tm).stt, .int .i64 ((l).tm).ev, .int .i64 ((l).tm).ct, .int .i64 ((l).tm).ba, .int .i64 ((l).tm).mo, .int .i64 ((l).tm).pen, .int .i64 ((l).tm).fe, .string ((l).tm).cal, .string ((l).tm).cur, .slice da (l).ds.length dk, .slice ca (l).cs.length ck] := fun j u hj => by
  rw [Nat.zero_add, k0.cell]
  have hlt := (List.getElem?_eq_some_iff.1 hj).1
  simp only [List.length_cons, List.length_nil] at hlt
  rw [show (#[.int .i64 (l).id, .int .i64 (l).ac, .int .i64 (l).st, .int .i64 (l).pp, .int .i64 (l).pi, .int .i64 (l).fee, .int .i64 (l).pen, .int .i64 (l).chg, .int .i64 (l).prov, .int .i64 (l).loss, .int .i64 (l).rcv, .int .i64 ((l).tm).me, .int .i64 ((l).tm).pr, .int .i64 ((l).tm).ppm, .int .i64 ((l).tm).stt, .int .i64 ((l).tm).ev, .int .i64 ((l).tm).ct, .int .i64 ((l).tm).ba, .int .i64 ((l).tm).mo, .int .i64 ((l).tm).pen, .int .i64 ((l).tm).fe, .string ((l).tm).cal, .string ((l).tm).cur, .slice da (l).ds.length dk, .slice ca (l).cs.length ck, .slice a1 (fst l day).length k1, .slice a2 (snd l day).length k2] : Array Value) = (([.int .i64 (l).id, .int .i64 (l).ac, .int .i64 (l).st, .int .i64 (l).pp, .int .i64 (l).pi, .int .i64 (l).fee, .int .i64 (l).pen, .int .i64 (l).chg, .int .i64 (l).prov, .int .i64 (l).loss, .int .i64 (l).rcv, .int .i64 ((l).tm).me, .int .i64 ((l).tm).pr, .int .i64 ((l).tm).ppm, .int .i64 ((l).tm).stt, .int .i64 ((l).tm).ev, .int .i64 ((l).tm).ct, .int .i64 ((l).tm).ba, .int .i64 ((l).tm).mo, .int .i64 ((l).tm).pen, .int .i64 ((l).tm).fe, .string ((l).tm).cal, .string ((l).tm).cur, .slice da (l).ds.length dk, .slice ca (l).cs.length ck] : List Value) ++ ([.slice a1 (fst l day).length k1, .slice a2 (snd l day).length k2] : List Value)).toArray from rfl, List.getElem?_toArray, List.getElem?_append_left hlt]
  exact hj
 go_upto_region 2 with fail
 have hS0 : SB w2 w2.drew := (Below.refl _ _).drew
 refine wp_region_held_drew (S := SB w2) (by kernel_rfl) hS0 (fun hS => ?_)
 clear hS0
 refine tk 0 (by decide) ?_ hS (by kernel_rfl) (by kernel_rfl) (by kernel_rfl) (by rfl) (fun _ _ _ h => h) ?_ ?_
 rotate_left
 ·intro W hW
  clear hW
  simp only [z0, z1]
  go_simp
  first | done | with_reducible rfl
 simp only [z0, z1, Act.put, z3, z4, z5]
 refine tk 3 (by decide) ?_ hS (by kernel_rfl) (by kernel_rfl) (by kernel_rfl) (by rfl) (fun _ _ _ h => h) ?_ ?_
 rotate_left
 ·intro W hW
  clear hW
  simp only [z0, z1]
  go_simp
  first | done | with_reducible rfl
 simp only [z0, z1, Act.put, z3, z4, z5]
 refine tk 4 (by decide) ?_ hS (by kernel_rfl) (by kernel_rfl) (by kernel_rfl) (by rfl) (fun _ _ _ h => h) ?_ ?_
 rotate_left
 ·intro W hW
  clear hW
  simp only [z0, z1]
  go_simp
  first | done | with_reducible rfl
 simp only [z0, z1, Act.put, z3, z4, z5]
 refine take_at 1 (by decide) (by kernel_rfl) (by kernel_rfl) (by kernel_rfl) (fun _ _ _ h => h) hS (yieldsIf_load_mid (by rfl) 27 (.tmp 11) rfl w.heap.size 0 rfl [.int .i64 (l).id, .int .i64 (l).ac, .int .i64 (l).st, .int .i64 (l).pp, .int .i64 (l).pi, .int .i64 (l).fee, .int .i64 (l).pen, .int .i64 (l).chg, .int .i64 (l).prov, .int .i64 (l).loss, .int .i64 (l).rcv, .int .i64 ((l).tm).me, .int .i64 ((l).tm).pr, .int .i64 ((l).tm).ppm, .int .i64 ((l).tm).stt, .int .i64 ((l).tm).ev, .int .i64 ((l).tm).ct, .int .i64 ((l).tm).ba, .int .i64 ((l).tm).mo, .int .i64 ((l).tm).pen, .int .i64 ((l).tm).fe, .string ((l).tm).cal, .string ((l).tm).cur, .slice da (l).ds.length dk, .slice ca (l).cs.length ck] _ (fun W hW => rangeAt_later hW km) Tryz.underlying27 rfl (by kernel_rfl)) ?_
 simp only [z0, z1, Act.put, z3, z4, z5]
 refine tk 5 (by decide) ?_ hS (by kernel_rfl) (by kernel_rfl) (by kernel_rfl) (by rfl) (fun _ _ _ h => h) ?_ ?_
 rotate_left
 ·intro W hW
  clear hW
  simp only [z0, z1]
  go_simp
  first | done | with_reducible rfl
 simp only [z0, z1, Act.put, z3, z4, z5]
 refine tk 6 (by decide) ?_ hS (by kernel_rfl) (by kernel_rfl) (by kernel_rfl) (by rfl) (fun _ _ _ h => h) ?_ ?_
 rotate_left
 ·intro W hW
  have q := (k0.later hW).c3
  clear hW
  simp only [z0, z1]
  go_simp
  first | done | with_reducible rfl
 simp only [z0, z1, Act.put, z3, z4, z5]
 refine tk 7 (by decide) ?_ hS (by kernel_rfl) (by kernel_rfl) (by kernel_rfl) (by rfl) (fun _ _ _ h => h) ?_ ?_
 rotate_left
 ·intro W hW
  clear hW
  simp only [z0, z1]
  go_simp
  first | done | with_reducible rfl
 simp only [z0, z1, Act.put, z3, z4, z5]
 refine tk 8 (by decide) ?_ hS (by kernel_rfl) (by kernel_rfl) (by kernel_rfl) (by rfl) (fun _ _ _ h => h) ?_ ?_
 rotate_left
 ·intro W hW
  clear hW
  simp only [z0, z1]
  go_simp
  first | done | with_reducible rfl
 simp only [z0, z1, Act.put, z3, z4, z5]
 refine call_at 2 (by decide) (Pi := (fun v _ => v = (.int .i64 (Q - l.pp)))) (by kernel_rfl) (by rfl) (by simp only [z0, z1]; go_simp; first | done | rfl | exact ⟨rfl, rfl⟩) (call_one SB.mono hS (HO.out _ hS)) ?_
 clear hS
 rintro w3 u hS rfl
 simp only [z0, z1, Act.put, z3, z4, z5]
 refine tk 9 (by decide) ?_ hS (by kernel_rfl) (by kernel_rfl) (by kernel_rfl) (by rfl) (fun _ _ _ h => h) ?_ ?_
 rotate_left
 ·intro W hW
  clear hW
  simp only [z0, z1]
  go_simp
  first | done | with_reducible rfl
 simp only [z0, z1, Act.put, z3, z4, z5]
 refine tk 10 (by decide) ?_ hS (by kernel_rfl) (by kernel_rfl) (by kernel_rfl) (by rfl) (fun _ _ _ h => h) ?_ ?_
 rotate_left
 ·intro W hW
  clear hW
  simp only [z0, z1]
  go_simp
  first | done | with_reducible rfl
 simp only [z0, z1, Act.put, z3, z4, z5]
 refine wpAnyH_done (by kernel_rfl) ?_ _
 go_wp2_with fail
 go_ret
 exact ⟨by rw [HF.out]; try rfl, bl2 hS cw2⟩
set_option maxHeartbeats 8000000 in
theorem inter_any (l : Lo) (da ca : Option Addr) (dk ck : Nat) (a1 a2 : Option Addr) (k1 k2 : Nat) (day : Int) (w : World) (ho : Ok l) (h1 : DuesIn w a1 (fst l day)) (h2 : DuesIn w a2 (snd l day)) : Calls Tryz.prog 29 #[.agg #[.int .i64 (l).id, .int .i64 (l).ac, .int .i64 (l).st, .int .i64 (l).pp, .int .i64 (l).pi, .int .i64 (l).fee, .int .i64 (l).pen, .int .i64 (l).chg, .int .i64 (l).prov, .int .i64 (l).loss, .int .i64 (l).rcv, .int .i64 ((l).tm).me, .int .i64 ((l).tm).pr, .int .i64 ((l).tm).ppm, .int .i64 ((l).tm).stt, .int .i64 ((l).tm).ev, .int .i64 ((l).tm).ct, .int .i64 ((l).tm).ba, .int .i64 ((l).tm).mo, .int .i64 ((l).tm).pen, .int .i64 ((l).tm).fe, .string ((l).tm).cal, .string ((l).tm).cur, .slice da (l).ds.length dk, .slice ca (l).cs.length ck, .slice a1 (fst l day).length k1, .slice a2 (snd l day).length k2]] w fun e w' => e = .returned (.int .i64 (itn l day)) ∧ Below w.heap.size w w' := by
 have cw : Below w.heap.size w (w.alloc (.cells #[.int .i64 (l).id, .int .i64 (l).ac, .int .i64 (l).st, .int .i64 (l).pp, .int .i64 (l).pi, .int .i64 (l).fee, .int .i64 (l).pen, .int .i64 (l).chg, .int .i64 (l).prov, .int .i64 (l).loss, .int .i64 (l).rcv, .int .i64 ((l).tm).me, .int .i64 ((l).tm).pr, .int .i64 ((l).tm).ppm, .int .i64 ((l).tm).stt, .int .i64 ((l).tm).ev, .int .i64 ((l).tm).ct, .int .i64 ((l).tm).ba, .int .i64 ((l).tm).mo, .int .i64 ((l).tm).pen, .int .i64 ((l).tm).fe, .string ((l).tm).cal, .string ((l).tm).cur, .slice da (l).ds.length dk, .slice ca (l).cs.length ck, .slice a1 (fst l day).length k1, .slice a2 (snd l day).length k2] 56)) := (Below.refl _ _).alloc (Nat.le_refl _) _
 have k0 : Bk.Blk (w.alloc (.cells #[.int .i64 (l).id, .int .i64 (l).ac, .int .i64 (l).st, .int .i64 (l).pp, .int .i64 (l).pi, .int .i64 (l).fee, .int .i64 (l).pen, .int .i64 (l).chg, .int .i64 (l).prov, .int .i64 (l).loss, .int .i64 (l).rcv, .int .i64 ((l).tm).me, .int .i64 ((l).tm).pr, .int .i64 ((l).tm).ppm, .int .i64 ((l).tm).stt, .int .i64 ((l).tm).ev, .int .i64 ((l).tm).ct, .int .i64 ((l).tm).ba, .int .i64 ((l).tm).mo, .int .i64 ((l).tm).pen, .int .i64 ((l).tm).fe, .string ((l).tm).cal, .string ((l).tm).cur, .slice da (l).ds.length dk, .slice ca (l).cs.length ck, .slice a1 (fst l day).length k1, .slice a2 (snd l day).length k2] 56)) w.heap.size _ 56 := Bk.Blk.nw10
 have h1' := h1.later cw
 have HD := Lib.hid (fun W (hW : Below w.heap.size w W) => h2.later hW)
 have V := Lib.hid (view ho day)
 have l25 := k0.c25
 clear h1
 go_enter Tryz.func29, Tryz.ntmps29
 go_upto_region 1 with fail
 generalize (w.alloc (.cells _ 56)) = w1 at *
 go_wp2_with fail
 refine (Kl.stotal_any a1 k1 (fst l day) _ h1').mono ?_
 rintro e w2 ⟨rfl, hb⟩
 have cw2 := bl2 hb cw
 replace k0 := k0.later hb
 clear hb cw l25 h1'
 have hfd : ∀ (a b c d : Int) (W : World), (Instr.field 53 (.agg #[.int .i64 a, .int .i64 b, .int .i64 c, .int .i64 d]) 3).run Tryz.prog W = .ok (.int .i64 d) W := fun a b c d W => by kernel_rfl
 have HO := Lib.hid (fun W (hW : SB w2 W) => next_any l da ca dk ck a1 a2 k1 k2 day W (HD.out _ (bl2 hW cw2)))
 have hs1 : IntKind.i64.wrap (I (fst l day) + (nx l day).it) = I (fst l day) + (nx l day).it := by have v := V.out; have := v.i0; have := v.i1; have := v.x0; have := v.x1; rw [IntKind.wrap_i64]; omega
 have hs2 : IntKind.i64.wrap (I (fst l day) + (nx l day).it - l.pi) = I (fst l day) + (nx l day).it - l.pi := by have v := V.out; have := v.i0; have := v.i1; have := v.x0; have := v.x1; have := v.I2; have := v.I; have := v.t0; have := ho.pi; have := ho.pi'; rw [IntKind.wrap_i64]; omega
 have HF := Lib.hid (show itn l day = max 0 (I (fst l day) + (nx l day).it - l.pi) from rfl)
 clear ho
 generalize P (fst l day) = p at *
 generalize I (fst l day) = q at *
 generalize nx l day = d at *
 go_upto_region 2 with fail
 have hS0 : SB w2 w2.drew := (Below.refl _ _).drew
 refine wp_region_held_drew (S := SB w2) (by kernel_rfl) hS0 (fun hS => ?_)
 clear hS0
 refine tk 0 (by decide) ?_ hS (by kernel_rfl) (by kernel_rfl) (by kernel_rfl) (by rfl) (fun _ _ _ h => h) ?_ ?_
 rotate_left
 ·intro W hW
  clear hW
  simp only [z0, z1]
  go_simp
  first | done | with_reducible rfl
 simp only [z0, z1, Act.put, z3, z4, z5]
 refine take_at 1 (by decide) (by kernel_rfl) (by kernel_rfl) (by kernel_rfl) (fun _ _ _ h => h) hS (yields_load_row (by rfl) 56 (.tmp 1) rfl w.heap.size rfl _ _ _ _ (fun W hW => (k0.later hW)) Tryz.underlying56 rfl (by kernel_rfl)) ?_
 simp only [z0, z1, Act.put, z3, z4, z5]
 refine tk 5 (by decide) ?_ hS (by kernel_rfl) (by kernel_rfl) (by kernel_rfl) (by rfl) (fun _ _ _ h => h) ?_ ?_
 rotate_left
 ·intro W hW
  clear hW
  simp only [z0, z1]
  go_simp
  first | done | with_reducible rfl
 simp only [z0, z1, Act.put, z3, z4, z5]
 refine tk 6 (by decide) ?_ hS (by kernel_rfl) (by kernel_rfl) (by kernel_rfl) (by rfl) (fun _ _ _ h => h) ?_ ?_
 rotate_left
 ·intro W hW
  clear hW
  simp only [z0, z1]
  go_simp
  first | done | with_reducible rfl
 simp only [z0, z1, Act.put, z3, z4, z5]
 refine tk 7 (by decide) ?_ hS (by kernel_rfl) (by kernel_rfl) (by kernel_rfl) (by rfl) (fun _ _ _ h => h) ?_ ?_
 rotate_left
 ·intro W hW
  have q := (k0.later hW).c4
  clear hW
  simp only [z0, z1]
  go_simp
  first | done | with_reducible rfl
 simp only [z0, z1, Act.put, z3, z4, z5]
 refine call_at 2 (by decide) (Pi := (fun v _ => v = (.agg #[.int .i64 d.no, .int .i64 d.day, .int .i64 d.pr, .int .i64 d.it]))) (by kernel_rfl) (by rfl) (by simp only [z0, z1]; go_simp; first | done | rfl | exact ⟨rfl, rfl⟩) (call_one SB.mono hS (HO.out _ hS)) ?_
 clear hS
 rintro w3 u hS rfl
 simp only [z0, z1, Act.put, z3, z4, z5]
 refine tk 3 (by decide) ?_ hS (by kernel_rfl) (by kernel_rfl) (by kernel_rfl) (by rfl) (fun _ _ _ h => h) ?_ ?_
 rotate_left
 ·intro W hW
  clear hW
  simp only [z0, z1]
  go_simp
  first | done | with_reducible rfl
 simp only [z0, z1, Act.put, z3, z4, z5]
 refine tk 4 (by decide) ?_ hS (by kernel_rfl) (by kernel_rfl) (by kernel_rfl) (by rfl) (fun _ _ _ h => h) ?_ ?_
 rotate_left
 ·intro W hW
  clear hW
  simp only [z0, z1]
  go_simp
  first | done | with_reducible rfl
 simp only [z0, z1, Act.put, z3, z4, z5]
 refine tk 8 (by decide) ?_ hS (by kernel_rfl) (by kernel_rfl) (by kernel_rfl) (by rfl) (fun _ _ _ h => h) ?_ ?_
 rotate_left
 ·intro W hW
  clear hW
  simp only [z0, z1]
  go_simp
  first | done | with_reducible rfl
 simp only [z0, z1, Act.put, z3, z4, z5]
 refine tk 9 (by decide) ?_ hS (by kernel_rfl) (by kernel_rfl) (by kernel_rfl) (by rfl) (fun _ _ _ h => h) ?_ ?_
 rotate_left
 ·intro W hW
  clear hW
  simp only [z0, z1]
  go_simp
  first | done | with_reducible rfl
 simp only [z0, z1, Act.put, z3, z4, z5]
 refine tk 10 (by decide) ?_ hS (by kernel_rfl) (by kernel_rfl) (by kernel_rfl) (by rfl) (fun _ _ _ h => h) ?_ ?_
 rotate_left
 ·intro W hW
  clear hW
  simp only [z0, z1]
  go_simp
  first | done | with_reducible rfl
 simp only [z0, z1, Act.put, z3, z4, z5]
 refine wpAnyH_done (by kernel_rfl) ?_ _
 go_wp2_with fail
 go_ret
 exact ⟨by rw [HF.out]; try rfl, bl2 hS cw2⟩
end Go.Proofs.YtaanicginfjgdaaGreatDoor.Pp

namespace Go.Proofs.YtaanicginfjgdaaGreatDoor.Pp
open Go Go.RowKit
open Go.Proofs.YtaanicginfjgdaaGreatDoor
open Go.Proofs.YtaanicginfjgdaaGreatDoor.Ln (Tm Ch Du Lo Pa sum prs its P I due chk Ok ok_iff wrap_in wrap_add powed zLo LoIn DuesIn RowIn OwnR denc denc_len cenc cenc_len penc penc_len tenc flat flat_len Dok dues_of_row bl2 SB SB.mono SQ SQ.mono take_at one_at two_at call_at call_wp call_one call_pv value_wp yields_load_row Blk_setRow_same Blk_setRow_ne Below_setRow dues_setRow row_row one25 load_guarded results2_cell dues_lt rowc_lt rangeAt_later tk ts z0 z1 z3 z4 z5)
open Go.Proofs.YtaanicginfjgdaaGreatDoor.Rd (gd pcV pcE Stp)
open Go.Proofs.YtaanicginfjgdaaGreatDoor.Kl (Cl CalIn skE UnOut)
set_option linter.unusedSimpArgs false
set_option linter.unusedVariables false
set_option maxRecDepth 100000

theorem results3_cell' {P : Program} {fn : Func} {p u0 u1 : Tmp} {ty : TypeId} (h : fn.results = #[.cell p ty, .tmp u0, .tmp u1]) (tmps : Array Value) (w : World) (g : Nat) (t : TypeId) (cs : Array Value) (fr : Nat × Nat) (d : TypeDesc)
  (hp : tmps.getD p undef = .pointer (some ⟨g, 0, none⟩)) (hg : w.heap[g]? = some (.cells cs t fr))
  (hu : P.underlying ty = some d) (hd : (match d with | .struct _ | .array _ _ => true | _ => false) = true) (hi : (P.info? ty).map (·.size) = some cs.size) :
  (Go.results fn tmps).run P w = .ok (.tuple #[.agg cs, tmps.getD u0 undef, tmps.getD u1 undef]) w := by
 have hp' : tmps[p]?.getD undef = .pointer (some ⟨g, 0, none⟩) := by simpa using hp
 simp [Go.results, h, hp', asAddr, run_loadVar_row w g t ty cs fr d hg hu hd hi]
theorem results4_cell' {P : Program} {fn : Func} {p u0 u1 u2 : Tmp} {ty : TypeId} (h : fn.results = #[.cell p ty, .tmp u0, .tmp u1, .tmp u2]) (tmps : Array Value) (w : World) (g : Nat) (t : TypeId) (cs : Array Value) (fr : Nat × Nat) (d : TypeDesc)
  (hp : tmps.getD p undef = .pointer (some ⟨g, 0, none⟩)) (hg : w.heap[g]? = some (.cells cs t fr))
  (hu : P.underlying ty = some d) (hd : (match d with | .struct _ | .array _ _ => true | _ => false) = true) (hi : (P.info? ty).map (·.size) = some cs.size) :
  (Go.results fn tmps).run P w = .ok (.tuple #[.agg cs, tmps.getD u0 undef, tmps.getD u1 undef, tmps.getD u2 undef]) w := by
 have hp' : tmps[p]?.getD undef = .pointer (some ⟨g, 0, none⟩) := by simpa using hp
 simp [Go.results, h, hp', asAddr, run_loadVar_row w g t ty cs fr d hg hu hd hi]
theorem slice_to (da : Option Addr) (n dk k : Nat) (h : k ≤ dk) (W : World) : (Instr.slice 24 (.slice da n dk) none (some (.int .i64 k)) none).run Tryz.prog W = .ok (.slice da k dk) W := by
 have h2 : (k : Int) ≤ (dk : Int) := by omega
 simp [Instr.slice, run_underlying Tryz.underlying24, Instr.sliceBounds, Instr.sliceBound, asIntOf, go_sem, h2, h]
theorem slice_from (da : Option Addr) (n dk k : Nat) (h : k ≤ n) (W : World) : (Instr.slice 24 (.slice da n dk) (some (.int .i64 k)) none none).run Tryz.prog W = .ok (.slice (if dk = k then da else da.map (·.add (k * 4))) (n - k) (dk - k)) W := by
 have h2 : (k : Int) ≤ (n : Int) := by omega
 simp [Instr.slice, run_underlying Tryz.underlying24, Instr.sliceBounds, Instr.sliceBound, asIntOf, go_sem, h2, h]
theorem dues_fst {W : World} {a : Option Addr} {ds : List Du} (h : DuesIn W a ds) (k : Nat) : DuesIn W a (ds.take k) := by
 refine ⟨Nat.le_trans (by rw [List.length_take]; omega) h.1, fun h0 => ?_⟩
 rw [List.length_take] at h0
 obtain ⟨b, off, ha, hc⟩ := h.2 (by omega)
 refine ⟨b, off, ha, fun j hj => ?_⟩
 rw [List.length_take] at hj
 have := hc j (by omega)
 rw [getElem!_pos ds j (by omega)] at this
 rw [getElem!_pos (ds.take k) j (by rw [List.length_take]; omega), List.getElem_take]
 exact this
theorem dues_snd {W : World} {a : Option Addr} {ds : List Du} {dk : Nat} (h : DuesIn W a ds) (k : Nat) (hd : ds.length ≤ dk) : DuesIn W (if dk = k then a else a.map (·.add (k * 4))) (ds.drop k) := by
 refine ⟨Nat.le_trans (by rw [List.length_drop]; omega) h.1, fun h0 => ?_⟩
 rw [List.length_drop] at h0
 obtain ⟨b, off, rfl, hc⟩ := h.2 (by omega)
 refine ⟨b, off + k * 4, by rw [if_neg (by omega)]; simp [Addr.add], fun j hj => ?_⟩
 rw [List.length_drop] at hj
 have := hc (k + j) (by omega)
 rw [getElem!_pos ds (k + j) (by omega)] at this
 rw [getElem!_pos (ds.drop k) j (by rw [List.length_drop]; omega), List.getElem_drop]
 rw [show off + k * 4 + j * 4 = off + (k + j) * 4 by omega]
 exact this
set_option maxHeartbeats 8000000 in
theorem open_no (l : Lo) (da ca : Option Addr) (dk ck : Nat) (day : Int) (w : World) (h : DuesIn w da l.ds) (hno : ¬ (chk l = 0 ∧ 0 ≤ day ∧ day ≤ 73048)) : Calls Tryz.prog 41 #[(.agg #[.int .i64 (l).id, .int .i64 (l).ac, .int .i64 (l).st, .int .i64 (l).pp, .int .i64 (l).pi, .int .i64 (l).fee, .int .i64 (l).pen, .int .i64 (l).chg, .int .i64 (l).prov, .int .i64 (l).loss, .int .i64 (l).rcv, .int .i64 ((l).tm).me, .int .i64 ((l).tm).pr, .int .i64 ((l).tm).ppm, .int .i64 ((l).tm).stt, .int .i64 ((l).tm).ev, .int .i64 ((l).tm).ct, .int .i64 ((l).tm).ba, .int .i64 ((l).tm).mo, .int .i64 ((l).tm).pen, .int .i64 ((l).tm).fe, .string ((l).tm).cal, .string ((l).tm).cur, .slice da (l).ds.length dk, .slice ca (l).cs.length ck]), .int .i64 day] w fun e w' => e = .returned (.tuple #[.agg #[.int .i64 0, .int .i64 0, .int .i64 0, .int .i64 0, .int .i64 0, .int .i64 0, .int .i64 0, .int .i64 0, .int .i64 0, .int .i64 0, .int .i64 0, .int .i64 0, .int .i64 0, .int .i64 0, .int .i64 0, .int .i64 0, .int .i64 0, .int .i64 0, .int .i64 0, .int .i64 0, .int .i64 0, .string { data := #[] }, .string { data := #[] }, .slice none 0 0, .slice none 0 0, .slice none 0 0, .slice none 0 0], .int .i64 1]) ∧ Below w.heap.size w w' := by
 have cw : Below w.heap.size w ((w.alloc (.cells #[.int .i64 (l).id, .int .i64 (l).ac, .int .i64 (l).st, .int .i64 (l).pp, .int .i64 (l).pi, .int .i64 (l).fee, .int .i64 (l).pen, .int .i64 (l).chg, .int .i64 (l).prov, .int .i64 (l).loss, .int .i64 (l).rcv, .int .i64 ((l).tm).me, .int .i64 ((l).tm).pr, .int .i64 ((l).tm).ppm, .int .i64 ((l).tm).stt, .int .i64 ((l).tm).ev, .int .i64 ((l).tm).ct, .int .i64 ((l).tm).ba, .int .i64 ((l).tm).mo, .int .i64 ((l).tm).pen, .int .i64 ((l).tm).fe, .string ((l).tm).cal, .string ((l).tm).cur, .slice da (l).ds.length dk, .slice ca (l).cs.length ck] 27)).alloc (.cells #[.int .i64 0, .int .i64 0, .int .i64 0, .int .i64 0, .int .i64 0, .int .i64 0, .int .i64 0, .int .i64 0, .int .i64 0, .int .i64 0, .int .i64 0, .int .i64 0, .int .i64 0, .int .i64 0, .int .i64 0, .int .i64 0, .int .i64 0, .int .i64 0, .int .i64 0, .int .i64 0, .int .i64 0, .string { data := #[] }, .string { data := #[] }, .slice none 0 0, .slice none 0 0, .slice none 0 0, .slice none 0 0] 56)) := ((Below.refl _ _).alloc (Nat.le_refl _) _).alloc (by simp) _
 have k0 : Bk.Blk ((w.alloc (.cells #[.int .i64 (l).id, .int .i64 (l).ac, .int .i64 (l).st, .int .i64 (l).pp, .int .i64 (l).pi, .int .i64 (l).fee, .int .i64 (l).pen, .int .i64 (l).chg, .int .i64 (l).prov, .int .i64 (l).loss, .int .i64 (l).rcv, .int .i64 ((l).tm).me, .int .i64 ((l).tm).pr, .int .i64 ((l).tm).ppm, .int .i64 ((l).tm).stt, .int .i64 ((l).tm).ev, .int .i64 ((l).tm).ct, .int .i64 ((l).tm).ba, .int .i64 ((l).tm).mo, .int .i64 ((l).tm).pen, .int .i64 ((l).tm).fe, .string ((l).tm).cal, .string ((l).tm).cur, .slice da (l).ds.length dk, .slice ca (l).cs.length ck] 27)).alloc (.cells #[.int .i64 0, .int .i64 0, .int .i64 0, .int .i64 0, .int .i64 0, .int .i64 0, .int .i64 0, .int .i64 0, .int .i64 0, .int .i64 0, .int .i64 0, .int .i64 0, .int .i64 0, .int .i64 0, .int .i64 0, .int .i64 0, .int .i64 0, .int .i64 0, .int .i64 0, .int .i64 0, .int .i64 0, .string { data := #[] }, .string { data := #[] }, .slice none 0 0, .slice none 0 0, .slice none 0 0, .slice none 0 0] 56)) w.heap.size _ 27 := Bk.Blk.nw20
 have kz : Bk.Blk ((w.alloc (.cells #[.int .i64 (l).id, .int .i64 (l).ac, .int .i64 (l).st, .int .i64 (l).pp, .int .i64 (l).pi, .int .i64 (l).fee, .int .i64 (l).pen, .int .i64 (l).chg, .int .i64 (l).prov, .int .i64 (l).loss, .int .i64 (l).rcv, .int .i64 ((l).tm).me, .int .i64 ((l).tm).pr, .int .i64 ((l).tm).ppm, .int .i64 ((l).tm).stt, .int .i64 ((l).tm).ev, .int .i64 ((l).tm).ct, .int .i64 ((l).tm).ba, .int .i64 ((l).tm).mo, .int .i64 ((l).tm).pen, .int .i64 ((l).tm).fe, .string ((l).tm).cal, .string ((l).tm).cur, .slice da (l).ds.length dk, .slice ca (l).cs.length ck] 27)).alloc (.cells #[.int .i64 0, .int .i64 0, .int .i64 0, .int .i64 0, .int .i64 0, .int .i64 0, .int .i64 0, .int .i64 0, .int .i64 0, .int .i64 0, .int .i64 0, .int .i64 0, .int .i64 0, .int .i64 0, .int .i64 0, .int .i64 0, .int .i64 0, .int .i64 0, .int .i64 0, .int .i64 0, .int .i64 0, .string { data := #[] }, .string { data := #[] }, .slice none 0 0, .slice none 0 0, .slice none 0 0, .slice none 0 0] 56)) (w.heap.size + 1) _ 56 := Bk.Blk.nw21
 have hd := h.later cw
 clear h
 go_enter Tryz.func41, Tryz.ntmps41
 go_upto_region 1 with fail
 generalize ((w.alloc (.cells _ 27)).alloc (.cells _ 56)) = w1 at *
 have cw1 := cw
 clear cw
 go_wp2_with (refine wpList_load_row rfl 27 _ rfl _ rfl _ _ _ _ (k0) Tryz.underlying27 rfl (by kernel_rfl) ?_)
 refine (Ln.check_any l da ca dk ck _ hd).mono ?_
 rintro e w2 ⟨rfl, hb⟩
 replace k0 := k0.later hb
 replace kz := kz.later hb
 replace hd := hd.later hb
 have cw2 := bl2 hb cw1
 clear hb cw1
 by_cases he : chk l = 0
 ·have hday : ¬ (0 ≤ day ∧ day ≤ 73048) := fun hh => hno ⟨he, hh⟩
  rw [he]
  clear hno he
  go_wp2_with fail
  refine (dv_no day _ hday).mono ?_
  rintro e w3 ⟨rfl, hb⟩
  have cw3 := bl2 hb cw2
  replace kz := kz.later hb
  go_wp2_with (refine wpList_store_row rfl 56 _ _ rfl _ _ rfl rfl _ _ kz (by kernel_rfl) rfl (by simp [Value.oneCell']) ?_)
  (try simp only [Exit.inBlock, Exit.then])
  refine bodyPost_ret (results2_cell Tryz.results41 _ _ _ _ _ _ _ rfl (Blk_setRow_same kz) Tryz.underlying56 rfl (by kernel_rfl)) rfl ?_
  exact ⟨rfl, Below_setRow cw3 (by omega) _⟩
 ·have g1 : (chk l != 0) = true := by simpa using he
  clear he hno
  generalize chk l = E at g1 ⊢
  go_wp2_with (refine wpList_store_row rfl 56 _ _ rfl _ _ rfl rfl _ _ kz (by kernel_rfl) rfl (by simp [Value.oneCell']) ?_)
  (try simp only [Exit.inBlock, Exit.then])
  refine bodyPost_ret (results2_cell Tryz.results41 _ _ _ _ _ _ _ rfl (Blk_setRow_same kz) Tryz.underlying56 rfl (by kernel_rfl)) rfl ?_
  exact ⟨rfl, Below_setRow cw2 (by omega) _⟩
set_option maxHeartbeats 8000000 in
theorem open_ok (l : Lo) (da ca : Option Addr) (dk ck : Nat) (day : Int) (w : World) (h : DuesIn w da l.ds) (hk : chk l = 0) (hday : 0 ≤ day ∧ day ≤ 73048) (hn : l.ds.length ≤ 100000) (hdk : l.ds.length ≤ dk) : Calls Tryz.prog 41 #[(.agg #[.int .i64 (l).id, .int .i64 (l).ac, .int .i64 (l).st, .int .i64 (l).pp, .int .i64 (l).pi, .int .i64 (l).fee, .int .i64 (l).pen, .int .i64 (l).chg, .int .i64 (l).prov, .int .i64 (l).loss, .int .i64 (l).rcv, .int .i64 ((l).tm).me, .int .i64 ((l).tm).pr, .int .i64 ((l).tm).ppm, .int .i64 ((l).tm).stt, .int .i64 ((l).tm).ev, .int .i64 ((l).tm).ct, .int .i64 ((l).tm).ba, .int .i64 ((l).tm).mo, .int .i64 ((l).tm).pen, .int .i64 ((l).tm).fe, .string ((l).tm).cal, .string ((l).tm).cur, .slice da (l).ds.length dk, .slice ca (l).cs.length ck]), .int .i64 day] w fun e w' => ∃ a2 k2, e = .returned (.tuple #[.agg #[.int .i64 (l).id, .int .i64 (l).ac, .int .i64 (l).st, .int .i64 (l).pp, .int .i64 (l).pi, .int .i64 (l).fee, .int .i64 (l).pen, .int .i64 (l).chg, .int .i64 (l).prov, .int .i64 (l).loss, .int .i64 (l).rcv, .int .i64 ((l).tm).me, .int .i64 ((l).tm).pr, .int .i64 ((l).tm).ppm, .int .i64 ((l).tm).stt, .int .i64 ((l).tm).ev, .int .i64 ((l).tm).ct, .int .i64 ((l).tm).ba, .int .i64 ((l).tm).mo, .int .i64 ((l).tm).pen, .int .i64 ((l).tm).fe, .string ((l).tm).cal, .string ((l).tm).cur, .slice da (l).ds.length dk, .slice ca (l).cs.length ck, .slice da (fst l day).length dk, .slice a2 (snd l day).length k2], .int .i64 0]) ∧ (∀ W, DuesIn W da l.ds → DuesIn W a2 (snd l day)) ∧ Below w.heap.size w w' := by
 have cw : Below w.heap.size w ((w.alloc (.cells #[.int .i64 (l).id, .int .i64 (l).ac, .int .i64 (l).st, .int .i64 (l).pp, .int .i64 (l).pi, .int .i64 (l).fee, .int .i64 (l).pen, .int .i64 (l).chg, .int .i64 (l).prov, .int .i64 (l).loss, .int .i64 (l).rcv, .int .i64 ((l).tm).me, .int .i64 ((l).tm).pr, .int .i64 ((l).tm).ppm, .int .i64 ((l).tm).stt, .int .i64 ((l).tm).ev, .int .i64 ((l).tm).ct, .int .i64 ((l).tm).ba, .int .i64 ((l).tm).mo, .int .i64 ((l).tm).pen, .int .i64 ((l).tm).fe, .string ((l).tm).cal, .string ((l).tm).cur, .slice da (l).ds.length dk, .slice ca (l).cs.length ck] 27)).alloc (.cells #[.int .i64 0, .int .i64 0, .int .i64 0, .int .i64 0, .int .i64 0, .int .i64 0, .int .i64 0, .int .i64 0, .int .i64 0, .int .i64 0, .int .i64 0, .int .i64 0, .int .i64 0, .int .i64 0, .int .i64 0, .int .i64 0, .int .i64 0, .int .i64 0, .int .i64 0, .int .i64 0, .int .i64 0, .string { data := #[] }, .string { data := #[] }, .slice none 0 0, .slice none 0 0, .slice none 0 0, .slice none 0 0] 56)) := ((Below.refl _ _).alloc (Nat.le_refl _) _).alloc (by simp) _
 have k0 : Bk.Blk ((w.alloc (.cells #[.int .i64 (l).id, .int .i64 (l).ac, .int .i64 (l).st, .int .i64 (l).pp, .int .i64 (l).pi, .int .i64 (l).fee, .int .i64 (l).pen, .int .i64 (l).chg, .int .i64 (l).prov, .int .i64 (l).loss, .int .i64 (l).rcv, .int .i64 ((l).tm).me, .int .i64 ((l).tm).pr, .int .i64 ((l).tm).ppm, .int .i64 ((l).tm).stt, .int .i64 ((l).tm).ev, .int .i64 ((l).tm).ct, .int .i64 ((l).tm).ba, .int .i64 ((l).tm).mo, .int .i64 ((l).tm).pen, .int .i64 ((l).tm).fe, .string ((l).tm).cal, .string ((l).tm).cur, .slice da (l).ds.length dk, .slice ca (l).cs.length ck] 27)).alloc (.cells #[.int .i64 0, .int .i64 0, .int .i64 0, .int .i64 0, .int .i64 0, .int .i64 0, .int .i64 0, .int .i64 0, .int .i64 0, .int .i64 0, .int .i64 0, .int .i64 0, .int .i64 0, .int .i64 0, .int .i64 0, .int .i64 0, .int .i64 0, .int .i64 0, .int .i64 0, .int .i64 0, .int .i64 0, .string { data := #[] }, .string { data := #[] }, .slice none 0 0, .slice none 0 0, .slice none 0 0, .slice none 0 0] 56)) w.heap.size _ 27 := Bk.Blk.nw20
 have kz : Bk.Blk ((w.alloc (.cells #[.int .i64 (l).id, .int .i64 (l).ac, .int .i64 (l).st, .int .i64 (l).pp, .int .i64 (l).pi, .int .i64 (l).fee, .int .i64 (l).pen, .int .i64 (l).chg, .int .i64 (l).prov, .int .i64 (l).loss, .int .i64 (l).rcv, .int .i64 ((l).tm).me, .int .i64 ((l).tm).pr, .int .i64 ((l).tm).ppm, .int .i64 ((l).tm).stt, .int .i64 ((l).tm).ev, .int .i64 ((l).tm).ct, .int .i64 ((l).tm).ba, .int .i64 ((l).tm).mo, .int .i64 ((l).tm).pen, .int .i64 ((l).tm).fe, .string ((l).tm).cal, .string ((l).tm).cur, .slice da (l).ds.length dk, .slice ca (l).cs.length ck] 27)).alloc (.cells #[.int .i64 0, .int .i64 0, .int .i64 0, .int .i64 0, .int .i64 0, .int .i64 0, .int .i64 0, .int .i64 0, .int .i64 0, .int .i64 0, .int .i64 0, .int .i64 0, .int .i64 0, .int .i64 0, .int .i64 0, .int .i64 0, .int .i64 0, .int .i64 0, .int .i64 0, .int .i64 0, .int .i64 0, .string { data := #[] }, .string { data := #[] }, .slice none 0 0, .slice none 0 0, .slice none 0 0, .slice none 0 0] 56)) (w.heap.size + 1) _ 56 := Bk.Blk.nw21
 have hd := h.later cw
 have HD := Lib.hid (fun W (hW : Below w.heap.size w W) => h.later hW)
 clear h
 go_enter Tryz.func41, Tryz.ntmps41
 go_upto_region 1 with fail
 generalize ((w.alloc (.cells _ 27)).alloc (.cells _ 56)) = w1 at *
 have cw1 := cw
 clear cw
 go_wp2_with (refine wpList_load_row rfl 27 _ rfl _ rfl _ _ _ _ (k0) Tryz.underlying27 rfl (by kernel_rfl) ?_)
 refine (Ln.check_any l da ca dk ck _ hd).mono ?_
 rintro e w2 ⟨rfl, hb⟩
 replace k0 := k0.later hb
 replace kz := kz.later hb
 replace hd := hd.later hb
 have cw2 := bl2 hb cw1
 clear hb cw1
 rw [hk]
 go_wp2_with fail
 refine (dv_yes day _ hday).mono ?_
 rintro e w3 ⟨rfl, hb⟩
 replace k0 := k0.later hb
 replace kz := kz.later hb
 replace hd := hd.later hb
 have cw3 := bl2 hb cw2
 clear hb cw2
 have l23 := k0.c23
 go_wp2_with fail
 refine (Kl.suntil_any da dk l.ds day _ hd (by omega)).mono ?_
 rintro e w4 ⟨a9, c9, rfl, _, hb⟩
 replace k0 := k0.later hb
 replace kz := kz.later hb
 replace hd := hd.later hb
 have cw4 := bl2 hb cw3
 clear hb cw3
 clear l23
 obtain ⟨at_, hat⟩ : ∃ n, n = atN l day := ⟨_, rfl⟩
 rw [show (Ln.due l.ds day).length = at_ from hat.symm]
 have hle : at_ ≤ l.ds.length := by rw [hat]; exact at_le l day
 have HAT := Lib.hid hat
 clear hat
 have s1 := slice_to da l.ds.length dk at_ (by omega)
 have s2 := slice_from da l.ds.length dk at_ hle
 obtain ⟨a2, ha2⟩ : ∃ a, a = (if dk = at_ then da else da.map (·.add (at_ * 4))) := ⟨_, rfl⟩
 rw [← ha2] at s2
 have HA2 := Lib.hid ha2
 clear ha2
 go_upto_region 4 with fail
 have hS0 : SQ w w.heap.size #[.int .i64 (l).id, .int .i64 (l).ac, .int .i64 (l).st, .int .i64 (l).pp, .int .i64 (l).pi, .int .i64 (l).fee, .int .i64 (l).pen, .int .i64 (l).chg, .int .i64 (l).prov, .int .i64 (l).loss, .int .i64 (l).rcv, .int .i64 ((l).tm).me, .int .i64 ((l).tm).pr, .int .i64 ((l).tm).ppm, .int .i64 ((l).tm).stt, .int .i64 ((l).tm).ev, .int .i64 ((l).tm).ct, .int .i64 ((l).tm).ba, .int .i64 ((l).tm).mo, .int .i64 ((l).tm).pen, .int .i64 ((l).tm).fe, .string ((l).tm).cal, .string ((l).tm).cur, .slice da (l).ds.length dk, .slice ca (l).cs.length ck] 27 w4.drew := ⟨k0.drew, cw4.drew⟩
 have hN := kz.drew
 have hdd := hd.later (Below.refl _ _).drew
 have hlt := kz.lt
 refine wp_region_held_drew (S := SQ w w.heap.size #[.int .i64 (l).id, .int .i64 (l).ac, .int .i64 (l).st, .int .i64 (l).pp, .int .i64 (l).pi, .int .i64 (l).fee, .int .i64 (l).pen, .int .i64 (l).chg, .int .i64 (l).prov, .int .i64 (l).loss, .int .i64 (l).rcv, .int .i64 ((l).tm).me, .int .i64 ((l).tm).pr, .int .i64 ((l).tm).ppm, .int .i64 ((l).tm).stt, .int .i64 ((l).tm).ev, .int .i64 ((l).tm).ct, .int .i64 ((l).tm).ba, .int .i64 ((l).tm).mo, .int .i64 ((l).tm).pen, .int .i64 ((l).tm).fe, .string ((l).tm).cal, .string ((l).tm).cur, .slice da (l).ds.length dk, .slice ca (l).cs.length ck] 27) (by kernel_rfl) hS0 (fun hS => ?_)
 clear hS0
 refine take_at 0 (by decide) (by kernel_rfl) (by kernel_rfl) (by kernel_rfl) (fun _ _ _ h => h) hS (yields_load_row (by rfl) 27 (.tmp 2) rfl w.heap.size rfl _ _ _ _ (fun W hW => hW.1) Tryz.underlying27 rfl (by kernel_rfl)) ?_
 simp only [z0, z1, Act.put, z3, z4, z5]
 refine tk 1 (by decide) ?_ hS (by kernel_rfl) (by kernel_rfl) (by kernel_rfl) (by rfl) (fun _ _ _ h => h) ?_ ?_
 rotate_left
 ·intro W hW
  clear hW
  simp only [z0, z1]
  go_simp
  first | done | with_reducible rfl
 simp only [z0, z1, Act.put, z3, z4, z5]
 refine tk 3 (by decide) ?_ hS (by kernel_rfl) (by kernel_rfl) (by kernel_rfl) (by rfl) (fun _ _ _ h => h) ?_ ?_
 rotate_left
 ·intro W hW
  clear hW
  simp only [z0, z1]
  go_simp
  first | done | with_reducible rfl
 simp only [z0, z1, Act.put, z3, z4, z5]
 refine tk 5 (by decide) ?_ hS (by kernel_rfl) (by kernel_rfl) (by kernel_rfl) (by rfl) (fun _ _ _ h => h) ?_ ?_
 rotate_left
 ·intro W hW
  clear hW
  simp only [z0, z1]
  go_simp
  first | done | with_reducible rfl
 simp only [z0, z1, Act.put, z3, z4, z5]
 refine tk 7 (by decide) ?_ hS (by kernel_rfl) (by kernel_rfl) (by kernel_rfl) (by rfl) (fun _ _ _ h => h) ?_ ?_
 rotate_left
 ·intro W hW
  clear hW
  simp only [z0, z1]
  go_simp
  first | done | with_reducible rfl
 simp only [z0, z1, Act.put, z3, z4, z5]
 refine tk 2 (by decide) ?_ hS (by kernel_rfl) (by kernel_rfl) (by kernel_rfl) (by rfl) (fun _ _ _ h => h) ?_ ?_
 rotate_left
 ·intro W hW
  have q := hW.1.c23
  clear hW
  simp only [z0, z1]
  go_simp
  first | done | with_reducible rfl
 simp only [z0, z1, Act.put, z3, z4, z5]
 refine tk 6 (by decide) ?_ hS (by kernel_rfl) (by kernel_rfl) (by kernel_rfl) (by rfl) (fun _ _ _ h => h) ?_ ?_
 rotate_left
 ·intro W hW
  have q := hW.1.c23
  clear hW
  simp only [z0, z1]
  go_simp
  first | done | with_reducible rfl
 simp only [z0, z1, Act.put, z3, z4, z5]
 refine tk 4 (by decide) ?_ hS (by kernel_rfl) (by kernel_rfl) (by kernel_rfl) (by rfl) (fun _ _ _ h => h) ?_ ?_
 rotate_left
 ·intro W hW
  clear hW
  simp only [z0, z1]
  go_simp
  first | done | with_reducible rfl
 simp only [z0, z1, Act.put, z3, z4, z5]
 refine tk 8 (by decide) ?_ hS (by kernel_rfl) (by kernel_rfl) (by kernel_rfl) (by rfl) (fun _ _ _ h => h) ?_ ?_
 rotate_left
 ·intro W hW
  clear hW
  simp only [z0, z1]
  go_simp
  first | done | with_reducible rfl
 simp only [z0, z1, Act.put, z3, z4, z5]
 refine tk 9 (by decide) ?_ hS (by kernel_rfl) (by kernel_rfl) (by kernel_rfl) (by rfl) (fun _ _ _ h => h) ?_ ?_
 rotate_left
 ·intro W hW
  clear hW
  simp only [z0, z1]
  go_simp
  first | done | with_reducible rfl
 simp only [z0, z1, Act.put, z3, z4, z5]
 refine one_at 10 (by decide) (by kernel_rfl) (by rfl) (fun K hK => ?_)
 simp only [z0, z1]
 refine wp_store_row 56 _ _ rfl (w.heap.size + 1) _ rfl rfl _ _ hN (by kernel_rfl) rfl (by simp [Value.oneCell']) ?_
 have hT : SQ w w.heap.size #[.int .i64 (l).id, .int .i64 (l).ac, .int .i64 (l).st, .int .i64 (l).pp, .int .i64 (l).pi, .int .i64 (l).fee, .int .i64 (l).pen, .int .i64 (l).chg, .int .i64 (l).prov, .int .i64 (l).loss, .int .i64 (l).rcv, .int .i64 ((l).tm).me, .int .i64 ((l).tm).pr, .int .i64 ((l).tm).ppm, .int .i64 ((l).tm).stt, .int .i64 ((l).tm).ev, .int .i64 ((l).tm).ct, .int .i64 ((l).tm).ba, .int .i64 ((l).tm).mo, .int .i64 ((l).tm).pen, .int .i64 ((l).tm).fe, .string ((l).tm).cal, .string ((l).tm).cur, .slice da (l).ds.length dk, .slice ca (l).cs.length ck] 27 (w4.drew.setRow (w.heap.size + 1) #[.int .i64 (l).id, .int .i64 (l).ac, .int .i64 (l).st, .int .i64 (l).pp, .int .i64 (l).pi, .int .i64 (l).fee, .int .i64 (l).pen, .int .i64 (l).chg, .int .i64 (l).prov, .int .i64 (l).loss, .int .i64 (l).rcv, .int .i64 ((l).tm).me, .int .i64 ((l).tm).pr, .int .i64 ((l).tm).ppm, .int .i64 ((l).tm).stt, .int .i64 ((l).tm).ev, .int .i64 ((l).tm).ct, .int .i64 ((l).tm).ba, .int .i64 ((l).tm).mo, .int .i64 ((l).tm).pen, .int .i64 ((l).tm).fe, .string ((l).tm).cal, .string ((l).tm).cur, .slice da (l).ds.length dk, .slice ca (l).cs.length ck, .slice da at_ dk, .slice a2 (l.ds.length - at_) (dk - at_)]) := ⟨Blk_setRow_ne hS.1 (by omega), Below_setRow hS.2 (by omega) _⟩
 have hz : Bk.Blk (w4.drew.setRow (w.heap.size + 1) #[.int .i64 (l).id, .int .i64 (l).ac, .int .i64 (l).st, .int .i64 (l).pp, .int .i64 (l).pi, .int .i64 (l).fee, .int .i64 (l).pen, .int .i64 (l).chg, .int .i64 (l).prov, .int .i64 (l).loss, .int .i64 (l).rcv, .int .i64 ((l).tm).me, .int .i64 ((l).tm).pr, .int .i64 ((l).tm).ppm, .int .i64 ((l).tm).stt, .int .i64 ((l).tm).ev, .int .i64 ((l).tm).ct, .int .i64 ((l).tm).ba, .int .i64 ((l).tm).mo, .int .i64 ((l).tm).pen, .int .i64 ((l).tm).fe, .string ((l).tm).cal, .string ((l).tm).cur, .slice da (l).ds.length dk, .slice ca (l).cs.length ck, .slice da at_ dk, .slice a2 (l.ds.length - at_) (dk - at_)]) (w.heap.size + 1) _ 56 := Blk_setRow_same hN
 have hd5 : DuesIn (w4.drew.setRow (w.heap.size + 1) #[.int .i64 (l).id, .int .i64 (l).ac, .int .i64 (l).st, .int .i64 (l).pp, .int .i64 (l).pi, .int .i64 (l).fee, .int .i64 (l).pen, .int .i64 (l).chg, .int .i64 (l).prov, .int .i64 (l).loss, .int .i64 (l).rcv, .int .i64 ((l).tm).me, .int .i64 ((l).tm).pr, .int .i64 ((l).tm).ppm, .int .i64 ((l).tm).stt, .int .i64 ((l).tm).ev, .int .i64 ((l).tm).ct, .int .i64 ((l).tm).ba, .int .i64 ((l).tm).mo, .int .i64 ((l).tm).pen, .int .i64 ((l).tm).fe, .string ((l).tm).cal, .string ((l).tm).cur, .slice da (l).ds.length dk, .slice ca (l).cs.length ck, .slice da at_ dk, .slice a2 (l.ds.length - at_) (dk - at_)]) da l.ds := HD.out _ hT.2
 refine hK.out _ _ hT (fun hT' => ?_)
 clear hT' hK
 simp only [z0, z1, Act.put, z3, z4, z5]
 generalize (w4.drew.setRow (w.heap.size + 1) #[.int .i64 (l).id, .int .i64 (l).ac, .int .i64 (l).st, .int .i64 (l).pp, .int .i64 (l).pi, .int .i64 (l).fee, .int .i64 (l).pen, .int .i64 (l).chg, .int .i64 (l).prov, .int .i64 (l).loss, .int .i64 (l).rcv, .int .i64 ((l).tm).me, .int .i64 ((l).tm).pr, .int .i64 ((l).tm).ppm, .int .i64 ((l).tm).stt, .int .i64 ((l).tm).ev, .int .i64 ((l).tm).ct, .int .i64 ((l).tm).ba, .int .i64 ((l).tm).mo, .int .i64 ((l).tm).pen, .int .i64 ((l).tm).fe, .string ((l).tm).cal, .string ((l).tm).cur, .slice da (l).ds.length dk, .slice ca (l).cs.length ck, .slice da at_ dk, .slice a2 (l.ds.length - at_) (dk - at_)]) = w5 at *
 refine tk 11 (by decide) ?_ hT (by kernel_rfl) (by kernel_rfl) (by kernel_rfl) (by rfl) (fun _ _ _ h => h) ?_ ?_
 rotate_left
 ·intro W hW
  clear hW
  simp only [z0, z1]
  go_simp
  first | done | with_reducible rfl
 simp only [z0, z1, Act.put, z3, z4, z5]
 refine wpAnyH_done (by kernel_rfl) ?_ _
 go_wp2_with fail
 (try simp only [Exit.inBlock, Exit.then])
 refine bodyPost_ret (results2_cell Tryz.results41 _ _ _ _ _ _ _ rfl hz Tryz.underlying56 rfl (by kernel_rfl)) rfl ?_
 refine ⟨a2, dk - at_, ?_, ?_, hT.2⟩
 ·rw [fst_len, snd_len, ← HAT.out]
  rfl
 ·intro W hW
  rw [show snd l day = l.ds.drop at_ by rw [HAT.out]; rfl, HA2.out]
  exact dues_snd hW at_ hdk
end Go.Proofs.YtaanicginfjgdaaGreatDoor.Pp

namespace Go.Proofs.YtaanicginfjgdaaGreatDoor.Pp
open Go Go.RowKit
open Go.Proofs.YtaanicginfjgdaaGreatDoor
open Go.Proofs.YtaanicginfjgdaaGreatDoor.Ln (Tm Ch Du Lo Pa sum prs its P I due chk Ok ok_iff wrap_in wrap_add powed zLo LoIn DuesIn RowIn OwnR denc denc_len cenc cenc_len penc penc_len tenc flat flat_len Dok dues_of_row bl2 SB SB.mono SQ SQ.mono take_at one_at two_at call_at call_wp call_one call_pv value_wp yields_load_row Blk_setRow_same Blk_setRow_ne Below_setRow dues_setRow row_row one25 load_guarded results2_cell dues_lt rowc_lt rangeAt_later tk ts z0 z1 z3 z4 z5)
open Go.Proofs.YtaanicginfjgdaaGreatDoor.Rd (gd pcV pcE Stp)
open Go.Proofs.YtaanicginfjgdaaGreatDoor.Kl (Cl CalIn skE)
set_option linter.unusedSimpArgs false
set_option linter.unusedVariables false
set_option maxRecDepth 100000

noncomputable def qtF (l : Lo) (day : Int) : Int := if qtE l day = 0 then feV l (lat l day) else 0
def QO (l : Lo) (da ca : Option Addr) (dk ck : Nat) (day : Int) (w : World) (e : Ending) (w' : World) : Prop := ∃ cs : Array Value, e = .returned (.tuple #[.agg cs, .int .i64 (qtV l day), .int .i64 (qtF l day), .int .i64 (qtE l day)]) ∧ cs.size = 27 ∧ cs.all (·.oneCell') = true ∧ (qtE l day = 0 → ∃ a2 k2, cs = #[.int .i64 (l).id, .int .i64 (l).ac, .int .i64 (l).st, .int .i64 (l).pp, .int .i64 (l).pi, .int .i64 (l).fee, .int .i64 (l).pen, .int .i64 (l).chg, .int .i64 (l).prov, .int .i64 (l).loss, .int .i64 (l).rcv, .int .i64 ((l).tm).me, .int .i64 ((l).tm).pr, .int .i64 ((l).tm).ppm, .int .i64 ((l).tm).stt, .int .i64 ((l).tm).ev, .int .i64 ((l).tm).ct, .int .i64 ((l).tm).ba, .int .i64 ((l).tm).mo, .int .i64 ((l).tm).pen, .int .i64 ((l).tm).fe, .string ((l).tm).cal, .string ((l).tm).cur, .slice da (l).ds.length dk, .slice ca (l).cs.length ck, .slice da (fst l day).length dk, .slice a2 (snd l day).length k2] ∧ ∀ W, DuesIn W da l.ds → DuesIn W a2 (snd l day)) ∧ Below w.heap.size w w'
theorem qo_no {l : Lo} {da ca : Option Addr} {dk ck : Nat} {day E : Int} {w w' : World} {cs : Array Value} (h : qtE l day = E) (h0 : E ≠ 0) (hs : cs.size = 27) (ho : cs.all (·.oneCell') = true) (hb : Below w.heap.size w w') : QO l da ca dk ck day w (.returned (.tuple #[.agg cs, .int .i64 0, .int .i64 0, .int .i64 E])) w' := by
 have hv : qtV l day = 0 := if_neg (by rw [h]; exact h0)
 have hf : qtF l day = 0 := if_neg (by rw [h]; exact h0)
 refine ⟨cs, by rw [hv, hf, h], hs, ho, fun e => absurd (h.symm.trans e) h0, hb⟩
theorem qo_ok {l : Lo} {da ca : Option Addr} {dk ck : Nat} {day M F L : Int} {w w' : World} {a2 : Option Addr} {k2 : Nat} (h : qtE l day = 0) (hd : ∀ W, DuesIn W da l.ds → DuesIn W a2 (snd l day)) (hM : qtN l day = M) (hL : L = lat l day) (hFF : F = feV l L) (hb : Below w.heap.size w w') : QO l da ca dk ck day w (.returned (.tuple #[.agg #[.int .i64 (l).id, .int .i64 (l).ac, .int .i64 (l).st, .int .i64 (l).pp, .int .i64 (l).pi, .int .i64 (l).fee, .int .i64 (l).pen, .int .i64 (l).chg, .int .i64 (l).prov, .int .i64 (l).loss, .int .i64 (l).rcv, .int .i64 ((l).tm).me, .int .i64 ((l).tm).pr, .int .i64 ((l).tm).ppm, .int .i64 ((l).tm).stt, .int .i64 ((l).tm).ev, .int .i64 ((l).tm).ct, .int .i64 ((l).tm).ba, .int .i64 ((l).tm).mo, .int .i64 ((l).tm).pen, .int .i64 ((l).tm).fe, .string ((l).tm).cal, .string ((l).tm).cur, .slice da (l).ds.length dk, .slice ca (l).cs.length ck, .slice da (fst l day).length dk, .slice a2 (snd l day).length k2], .int .i64 M, .int .i64 F, .int .i64 0])) w' := by
 subst hM hL hFF
 have hv : qtV l day = qtN l day := if_pos h
 have hf : qtF l day = feV l (lat l day) := if_pos h
 exact ⟨_, by rw [hv, hf, h], rfl, by simp [Value.oneCell'], fun _ => ⟨a2, k2, rfl, hd⟩, hb⟩
theorem qtE_1 {l : Lo} {day : Int} (h : ¬ (chk l = 0 ∧ 0 ≤ day ∧ day ≤ 73048)) : qtE l day = 1 := if_pos h
theorem qtE_2 {l : Lo} {day : Int} (h : chk l = 0 ∧ 0 ≤ day ∧ day ≤ 73048) (h2 : l.st ≠ 1) : qtE l day = 17 := (if_neg (fun e => e h)).trans (if_pos h2)
theorem qtE_3 {l : Lo} {day : Int} (h : chk l = 0 ∧ 0 ≤ day ∧ day ≤ 73048) (h2 : l.st = 1) (h3 : ¬ gd (lat l day)) : qtE l day = 6 := ((if_neg (fun e => e h)).trans (if_neg (fun e => e h2))).trans (if_pos h3)
theorem qtE_4 {l : Lo} {day : Int} (h : chk l = 0 ∧ 0 ≤ day ∧ day ≤ 73048) (h2 : l.st = 1) (h3 : gd (lat l day)) (h4 : ¬ gd (qtN l day)) : qtE l day = 6 := (((if_neg (fun e => e h)).trans (if_neg (fun e => e h2))).trans (if_neg (fun e => e h3))).trans (if_pos h4)
theorem qtE_0 {l : Lo} {day : Int} (h : chk l = 0 ∧ 0 ≤ day ∧ day ≤ 73048) (h2 : l.st = 1) (h3 : gd (lat l day)) (h4 : gd (qtN l day)) : qtE l day = 0 := (((if_neg (fun e => e h)).trans (if_neg (fun e => e h2))).trans (if_neg (fun e => e h3))).trans (if_neg (fun e => e h4))
theorem gd_amt {l : Lo} (h : Ok l) : (0 ≤ l.fee ∧ l.fee ≤ 1000000000000) ∧ (0 ≤ l.pen ∧ l.pen ≤ 1000000000000) := ⟨Ln.amt_iff.1 h.fee, Ln.amt_iff.1 h.pen⟩
theorem fe_i64 {l : Lo} (h : Ok l) : Wm.I64 l.tm.fe := by
 have hf := h.rf
 unfold Ln.rateB at hf
 have hf := of_decide_eq_true hf
 unfold Wm.I64
 omega
set_option maxHeartbeats 16000000 in
theorem quote_any (l : Lo) (da ca : Option Addr) (dk ck : Nat) (day : Int) (w : World) (h : DuesIn w da l.ds) (hdk : l.ds.length ≤ dk) (hS : Stp w) : Calls Tryz.prog 22 #[(.agg #[.int .i64 (l).id, .int .i64 (l).ac, .int .i64 (l).st, .int .i64 (l).pp, .int .i64 (l).pi, .int .i64 (l).fee, .int .i64 (l).pen, .int .i64 (l).chg, .int .i64 (l).prov, .int .i64 (l).loss, .int .i64 (l).rcv, .int .i64 ((l).tm).me, .int .i64 ((l).tm).pr, .int .i64 ((l).tm).ppm, .int .i64 ((l).tm).stt, .int .i64 ((l).tm).ev, .int .i64 ((l).tm).ct, .int .i64 ((l).tm).ba, .int .i64 ((l).tm).mo, .int .i64 ((l).tm).pen, .int .i64 ((l).tm).fe, .string ((l).tm).cal, .string ((l).tm).cur, .slice da (l).ds.length dk, .slice ca (l).cs.length ck]), .int .i64 day] w (QO l da ca dk ck day w) := by
 have cw : Below w.heap.size w ((w.alloc (.cells #[.int .i64 (l).id, .int .i64 (l).ac, .int .i64 (l).st, .int .i64 (l).pp, .int .i64 (l).pi, .int .i64 (l).fee, .int .i64 (l).pen, .int .i64 (l).chg, .int .i64 (l).prov, .int .i64 (l).loss, .int .i64 (l).rcv, .int .i64 ((l).tm).me, .int .i64 ((l).tm).pr, .int .i64 ((l).tm).ppm, .int .i64 ((l).tm).stt, .int .i64 ((l).tm).ev, .int .i64 ((l).tm).ct, .int .i64 ((l).tm).ba, .int .i64 ((l).tm).mo, .int .i64 ((l).tm).pen, .int .i64 ((l).tm).fe, .string ((l).tm).cal, .string ((l).tm).cur, .slice da (l).ds.length dk, .slice ca (l).cs.length ck] 27)).alloc (.cells #[.int .i64 0, .int .i64 0, .int .i64 0, .int .i64 0, .int .i64 0, .int .i64 0, .int .i64 0, .int .i64 0, .int .i64 0, .int .i64 0, .int .i64 0, .int .i64 0, .int .i64 0, .int .i64 0, .int .i64 0, .int .i64 0, .int .i64 0, .int .i64 0, .int .i64 0, .int .i64 0, .int .i64 0, .string { data := #[] }, .string { data := #[] }, .slice none 0 0, .slice none 0 0, .slice none 0 0, .slice none 0 0] 56)) := ((Below.refl _ _).alloc (Nat.le_refl _) _).alloc (by simp) _
 have k0 : Bk.Blk ((w.alloc (.cells #[.int .i64 (l).id, .int .i64 (l).ac, .int .i64 (l).st, .int .i64 (l).pp, .int .i64 (l).pi, .int .i64 (l).fee, .int .i64 (l).pen, .int .i64 (l).chg, .int .i64 (l).prov, .int .i64 (l).loss, .int .i64 (l).rcv, .int .i64 ((l).tm).me, .int .i64 ((l).tm).pr, .int .i64 ((l).tm).ppm, .int .i64 ((l).tm).stt, .int .i64 ((l).tm).ev, .int .i64 ((l).tm).ct, .int .i64 ((l).tm).ba, .int .i64 ((l).tm).mo, .int .i64 ((l).tm).pen, .int .i64 ((l).tm).fe, .string ((l).tm).cal, .string ((l).tm).cur, .slice da (l).ds.length dk, .slice ca (l).cs.length ck] 27)).alloc (.cells #[.int .i64 0, .int .i64 0, .int .i64 0, .int .i64 0, .int .i64 0, .int .i64 0, .int .i64 0, .int .i64 0, .int .i64 0, .int .i64 0, .int .i64 0, .int .i64 0, .int .i64 0, .int .i64 0, .int .i64 0, .int .i64 0, .int .i64 0, .int .i64 0, .int .i64 0, .int .i64 0, .int .i64 0, .string { data := #[] }, .string { data := #[] }, .slice none 0 0, .slice none 0 0, .slice none 0 0, .slice none 0 0] 56)) w.heap.size _ 27 := Bk.Blk.nw20
 have kz : Bk.Blk ((w.alloc (.cells #[.int .i64 (l).id, .int .i64 (l).ac, .int .i64 (l).st, .int .i64 (l).pp, .int .i64 (l).pi, .int .i64 (l).fee, .int .i64 (l).pen, .int .i64 (l).chg, .int .i64 (l).prov, .int .i64 (l).loss, .int .i64 (l).rcv, .int .i64 ((l).tm).me, .int .i64 ((l).tm).pr, .int .i64 ((l).tm).ppm, .int .i64 ((l).tm).stt, .int .i64 ((l).tm).ev, .int .i64 ((l).tm).ct, .int .i64 ((l).tm).ba, .int .i64 ((l).tm).mo, .int .i64 ((l).tm).pen, .int .i64 ((l).tm).fe, .string ((l).tm).cal, .string ((l).tm).cur, .slice da (l).ds.length dk, .slice ca (l).cs.length ck] 27)).alloc (.cells #[.int .i64 0, .int .i64 0, .int .i64 0, .int .i64 0, .int .i64 0, .int .i64 0, .int .i64 0, .int .i64 0, .int .i64 0, .int .i64 0, .int .i64 0, .int .i64 0, .int .i64 0, .int .i64 0, .int .i64 0, .int .i64 0, .int .i64 0, .int .i64 0, .int .i64 0, .int .i64 0, .int .i64 0, .string { data := #[] }, .string { data := #[] }, .slice none 0 0, .slice none 0 0, .slice none 0 0, .slice none 0 0] 56)) (w.heap.size + 1) _ 56 := Bk.Blk.nw21
 have hd := h.later cw
 have HD := Lib.hid (fun W (hW : Below w.heap.size w W) => h.later hW)
 have HST := Lib.hid (fun W (hW : Below w.heap.size w W) => hS.of hW)
 clear h hS
 go_enter Tryz.func22, Tryz.ntmps22
 go_upto_region 1 with fail
 generalize ((w.alloc (.cells _ 27)).alloc (.cells _ 56)) = w1 at *
 have cw1 := cw
 clear cw
 go_wp2_with (refine wpList_load_row rfl 27 _ rfl _ rfl _ _ _ _ (k0) Tryz.underlying27 rfl (by kernel_rfl) ?_)
 by_cases hop : chk l = 0 ∧ 0 ≤ day ∧ day ≤ 73048
 ·have ho := ok_iff.1 hop.1
  refine (open_ok l da ca dk ck day _ hd hop.1 hop.2 (by have := ho.n2; omega) hdk).mono ?_
  rintro e w2 ⟨a2, k2, rfl, hd2, hb⟩
  replace k0 := k0.later hb
  replace kz := kz.later hb
  have cw2 := bl2 hb cw1
  clear hb cw1
  have hkz2 := kz.lt
  go_upto_region 2 with (refine wpList_store_row rfl 56 _ _ rfl _ _ rfl rfl _ _ Bk.Blk.nw10 (by kernel_rfl) rfl (by simp [Value.oneCell']) ?_)
  have hbv : Below w2.heap.size w2 ((w2.alloc (.cells #[.int .i64 0, .int .i64 0, .int .i64 0, .int .i64 0, .int .i64 0, .int .i64 0, .int .i64 0, .int .i64 0, .int .i64 0, .int .i64 0, .int .i64 0, .int .i64 0, .int .i64 0, .int .i64 0, .int .i64 0, .int .i64 0, .int .i64 0, .int .i64 0, .int .i64 0, .int .i64 0, .int .i64 0, .string { data := #[] }, .string { data := #[] }, .slice none 0 0, .slice none 0 0, .slice none 0 0, .slice none 0 0] 56)).setRow w2.heap.size #[.int .i64 (l).id, .int .i64 (l).ac, .int .i64 (l).st, .int .i64 (l).pp, .int .i64 (l).pi, .int .i64 (l).fee, .int .i64 (l).pen, .int .i64 (l).chg, .int .i64 (l).prov, .int .i64 (l).loss, .int .i64 (l).rcv, .int .i64 ((l).tm).me, .int .i64 ((l).tm).pr, .int .i64 ((l).tm).ppm, .int .i64 ((l).tm).stt, .int .i64 ((l).tm).ev, .int .i64 ((l).tm).ct, .int .i64 ((l).tm).ba, .int .i64 ((l).tm).mo, .int .i64 ((l).tm).pen, .int .i64 ((l).tm).fe, .string ((l).tm).cal, .string ((l).tm).cur, .slice da (l).ds.length dk, .slice ca (l).cs.length ck, .slice da (fst l day).length dk, .slice a2 (snd l day).length k2]) := Below_setRow ((Below.refl _ _).alloc (Nat.le_refl _) _) (Nat.le_refl _) _
  have kv : Bk.Blk ((w2.alloc (.cells #[.int .i64 0, .int .i64 0, .int .i64 0, .int .i64 0, .int .i64 0, .int .i64 0, .int .i64 0, .int .i64 0, .int .i64 0, .int .i64 0, .int .i64 0, .int .i64 0, .int .i64 0, .int .i64 0, .int .i64 0, .int .i64 0, .int .i64 0, .int .i64 0, .int .i64 0, .int .i64 0, .int .i64 0, .string { data := #[] }, .string { data := #[] }, .slice none 0 0, .slice none 0 0, .slice none 0 0, .slice none 0 0] 56)).setRow w2.heap.size #[.int .i64 (l).id, .int .i64 (l).ac, .int .i64 (l).st, .int .i64 (l).pp, .int .i64 (l).pi, .int .i64 (l).fee, .int .i64 (l).pen, .int .i64 (l).chg, .int .i64 (l).prov, .int .i64 (l).loss, .int .i64 (l).rcv, .int .i64 ((l).tm).me, .int .i64 ((l).tm).pr, .int .i64 ((l).tm).ppm, .int .i64 ((l).tm).stt, .int .i64 ((l).tm).ev, .int .i64 ((l).tm).ct, .int .i64 ((l).tm).ba, .int .i64 ((l).tm).mo, .int .i64 ((l).tm).pen, .int .i64 ((l).tm).fe, .string ((l).tm).cal, .string ((l).tm).cur, .slice da (l).ds.length dk, .slice ca (l).cs.length ck, .slice da (fst l day).length dk, .slice a2 (snd l day).length k2]) w2.heap.size _ 56 := Blk_setRow_same Bk.Blk.nw10
  have cw3 := bl2 hbv cw2
  replace kz := kz.later hbv
  replace k0 := k0.later hbv
  have hgv := k0.lt
  clear hgv
  have hgv : w.heap.size + 1 < w2.heap.size := hkz2
  clear cw2 hkz2
  generalize ((w2.alloc (.cells _ 56)).setRow w2.heap.size _) = w3 at *
  generalize w2.heap.size = gv at *
  have HSN := Lib.hid hd2
  have HDA := Lib.hid (fun W (hW : Below w3.heap.size w3 W) => HD.out W (bl2 hW cw3))
  have HD2 := Lib.hid (fun W (hW : Below w3.heap.size w3 W) => HSN.out W (HDA.out W hW))
  have HSS := Lib.hid (fun W (hW : Below w3.heap.size w3 W) => HST.out W (bl2 hW cw3))
  have HOP := Lib.hid hop
  clear hop hd2 hd
  have l2 := k0.c2
  by_cases hst : l.st = 1
  ·have g1 : (l.st != 1) = false := by simp [hst]
   have H2 := Lib.hid hst
   clear hst
   have hl := lat_bd ho day
   have hv := view ho day
   go_wp2_with (refine wpList_load_row rfl 56 _ rfl _ rfl _ _ _ _ kv Tryz.underlying56 rfl (by kernel_rfl) ?_)
   clear l2
   refine (later_any l da ca dk ck da a2 dk k2 day _ ho (HDA.out _ (Below.refl _ _)) (dues_fst (HDA.out _ (Below.refl _ _)) _)).mono ?_
   rintro e w4 ⟨rfl, hb⟩
   replace k0 := k0.later hb
   replace kz := kz.later hb
   replace kv := kv.later hb
   have cw4 := bl2 hb cw3
   have d4 := hb
   clear hb cw3
   obtain ⟨L, hL⟩ : ∃ L, L = lat l day := ⟨_, rfl⟩
   rw [← hL]
   rw [← hL] at hl
   have HL := Lib.hid hL
   clear hL
   go_wp2_with fail
   refine (mval_any L _).mono ?_
   rintro e w5 ⟨rfl, hb⟩
   replace k0 := k0.later hb
   replace kz := kz.later hb
   replace kv := kv.later hb
   have cw5 := bl2 hb cw4
   have d5 := bl2 hb d4
   clear hb cw4 d4
   by_cases hg : gd L
   ·rw [decide_eq_true hg]
    have HG := Lib.hid hg
    have hfe := fe_ok ho (a := L) hl.1 (by unfold gd at hg; omega)
    have HLA := Lib.hid (fun W (hW : SB w5 W) => later_any l da ca dk ck da a2 dk k2 day W ho (HDA.out _ (bl2 hW d5)) (dues_fst (HDA.out _ (bl2 hW d5)) _))
    have HFE := Lib.hid (fun W (hW : SB w5 W) => fee_any l da ca dk ck L W (HSS.out _ (bl2 hW d5)) (by unfold Wm.I64; unfold gd at hg; omega) (fe_i64 ho))
    rw [← HL.out] at HLA
    rw [hfe.1] at HFE
    obtain ⟨F, hF⟩ : ∃ F, F = feV l L := ⟨_, rfl⟩
    rw [← hF] at HFE hfe
    have HFF := Lib.hid hF
    clear hF hg
    go_upto_region 8 with fail
    have hS0 : SB w5 w5.drew := (Below.refl _ _).drew
    refine wp_region_held_drew (S := SB w5) (by kernel_rfl) hS0 (fun hS => ?_)
    clear hS0
    refine take_at 0 (by decide) (by kernel_rfl) (by kernel_rfl) (by kernel_rfl) (fun _ _ _ h => h) hS (yields_load_row (by rfl) 27 (.tmp 2) rfl w.heap.size rfl _ _ _ _ (fun W hW => (k0.later hW)) Tryz.underlying27 rfl (by kernel_rfl)) ?_
    simp only [z0, z1, Act.put, z3, z4, z5]
    refine take_at 1 (by decide) (by kernel_rfl) (by kernel_rfl) (by kernel_rfl) (fun _ _ _ h => h) hS (yields_load_row (by rfl) 56 (.tmp 8) rfl gv rfl _ _ _ _ (fun W hW => (kv.later hW)) Tryz.underlying56 rfl (by kernel_rfl)) ?_
    simp only [z0, z1, Act.put, z3, z4, z5]
    refine call_at 2 (by decide) (Pi := (fun v _ => v = .int .i64 L)) (by kernel_rfl) (by rfl) (by simp only [z0, z1]; go_simp; first | done | rfl | exact ⟨rfl, rfl⟩) (call_one SB.mono hS (HLA.out _ hS)) ?_
    clear hS
    rintro w6 u hS rfl
    simp only [z0, z1, Act.put, z3, z4, z5]
    refine call_at 3 (by decide) (Pi := (fun v _ => v = (.tuple #[.int .i64 F, .int .i64 0]))) (by kernel_rfl) (by rfl) (by simp only [z0, z1]; go_simp; first | done | rfl | exact ⟨rfl, rfl⟩) (call_one SB.mono hS (HFE.out _ hS)) ?_
    clear hS
    rintro w7 u hS rfl
    simp only [z0, z1, Act.put, z3, z4, z5]
    refine tk 4 (by decide) ?_ hS (by kernel_rfl) (by kernel_rfl) (by kernel_rfl) (by rfl) (fun _ _ _ h => h) ?_ ?_
    rotate_left
    ·intro W hW
     clear hW
     simp only [z0, z1]
     go_simp
     first | done | with_reducible rfl
    simp only [z0, z1, Act.put, z3, z4, z5]
    refine tk 5 (by decide) ?_ hS (by kernel_rfl) (by kernel_rfl) (by kernel_rfl) (by rfl) (fun _ _ _ h => h) ?_ ?_
    rotate_left
    ·intro W hW
     clear hW
     simp only [z0, z1]
     go_simp
     first | done | with_reducible rfl
    simp only [z0, z1, Act.put, z3, z4, z5]
    refine tk 6 (by decide) ?_ hS (by kernel_rfl) (by kernel_rfl) (by kernel_rfl) (by rfl) (fun _ _ _ h => h) ?_ ?_
    rotate_left
    ·intro W hW
     clear hW
     simp only [z0, z1]
     go_simp
     first | done | with_reducible rfl
    simp only [z0, z1, Act.put, z3, z4, z5]
    refine tk 7 (by decide) ?_ hS (by kernel_rfl) (by kernel_rfl) (by kernel_rfl) (by rfl) (fun _ _ _ h => h) ?_ ?_
    rotate_left
    ·intro W hW
     clear hW
     simp only [z0, z1]
     go_simp
     first | done | with_reducible rfl
    simp only [z0, z1, Act.put, z3, z4, z5]
    refine tk 8 (by decide) ?_ hS (by kernel_rfl) (by kernel_rfl) (by kernel_rfl) (by rfl) (fun _ _ _ h => h) ?_ ?_
    rotate_left
    ·intro W hW
     clear hW
     simp only [z0, z1]
     go_simp
     first | done | with_reducible rfl
    simp only [z0, z1, Act.put, z3, z4, z5]
    refine wpAnyH_done (by kernel_rfl) ?_ _
    have cw7 := bl2 hS cw5
    have d7 := bl2 hS d5
    replace k0 := k0.later hS
    replace kz := kz.later hS
    replace kv := kv.later hS
    clear hS HLA HFE cw5 d5
    have HIN := Lib.hid (fun W (hW : SB w7 W) => inter_any l da ca dk ck da a2 dk k2 day W ho (dues_fst (HDA.out _ (bl2 hW d7)) _) (HD2.out _ (bl2 hW d7)))
    have HOU := Lib.hid (fun W (hW : SB w7 W) => Ln.out_any l da ca dk ck W (HDA.out _ (bl2 hW d7)))
    have hga := gd_amt ho
    have hpp := ho.pp
    have hpp' := ho.pp'
    have hpi := ho.pi
    have hpi' := ho.pi'
    have v1 := hv.P2
    have v2 := hv.i0
    have v3 := hv.i1
    have v4 := hv.x0
    have v5 := hv.x1
    have hit : itn l day = max 0 (I (fst l day) + (nx l day).it - l.pi) := rfl
    have v6 : 0 ≤ itn l day ∧ itn l day ≤ 250000000000000 := by rw [hit]; omega
    rw [show wrap64 (P l.ds - l.pp) = P l.ds - l.pp by unfold wrap64; omega] at HOU
    have hN : qtN l day = l.fee + l.pen + itn l day + (P l.ds - l.pp) + F := by rw [HFF.out, HL.out]; rfl
    obtain ⟨T, hT⟩ : ∃ T, T = itn l day := ⟨_, rfl⟩
    obtain ⟨O, hO⟩ : ∃ O, O = P l.ds - l.pp := ⟨_, rfl⟩
    rw [← hT] at HIN hN v6
    rw [← hO] at HOU hN
    have o1 : 0 ≤ O ∧ O ≤ 240000000000000 := by omega
    have s1 : IntKind.i64.wrap (l.fee + l.pen) = l.fee + l.pen := by rw [IntKind.wrap_i64]; omega
    have s2 : IntKind.i64.wrap (l.fee + l.pen + T) = l.fee + l.pen + T := by rw [IntKind.wrap_i64]; omega
    have s3 : IntKind.i64.wrap (l.fee + l.pen + T + O) = l.fee + l.pen + T + O := by rw [IntKind.wrap_i64]; omega
    have s4 : IntKind.i64.wrap (l.fee + l.pen + T + O + F) = l.fee + l.pen + T + O + F := by rw [IntKind.wrap_i64]; omega
    have HN := Lib.hid hN
    clear hN hT hO hit v1 v2 v3 v4 v5 v6 o1 hga hpp hpp' hpi hpi' hfe hl hv
    go_upto_region 11 with fail
    have hS1 : SB w7 w7.drew := (Below.refl _ _).drew
    refine wp_region_held_drew (S := SB w7) (by kernel_rfl) hS1 (fun hS => ?_)
    clear hS1
    refine tk 0 (by decide) ?_ hS (by kernel_rfl) (by kernel_rfl) (by kernel_rfl) (by rfl) (fun _ _ _ h => h) ?_ ?_
    rotate_left
    ·intro W hW
     clear hW
     simp only [z0, z1]
     go_simp
     first | done | with_reducible rfl
    simp only [z0, z1, Act.put, z3, z4, z5]
    refine tk 2 (by decide) ?_ hS (by kernel_rfl) (by kernel_rfl) (by kernel_rfl) (by rfl) (fun _ _ _ h => h) ?_ ?_
    rotate_left
    ·intro W hW
     clear hW
     simp only [z0, z1]
     go_simp
     first | done | with_reducible rfl
    simp only [z0, z1, Act.put, z3, z4, z5]
    refine take_at 5 (by decide) (by kernel_rfl) (by kernel_rfl) (by kernel_rfl) (fun _ _ _ h => h) hS (yields_load_row (by rfl) 56 (.tmp 8) rfl gv rfl _ _ _ _ (fun W hW => (kv.later hW)) Tryz.underlying56 rfl (by kernel_rfl)) ?_
    simp only [z0, z1, Act.put, z3, z4, z5]
    refine take_at 8 (by decide) (by kernel_rfl) (by kernel_rfl) (by kernel_rfl) (fun _ _ _ h => h) hS (yields_load_row (by rfl) 27 (.tmp 2) rfl w.heap.size rfl _ _ _ _ (fun W hW => (k0.later hW)) Tryz.underlying27 rfl (by kernel_rfl)) ?_
    simp only [z0, z1, Act.put, z3, z4, z5]
    refine tk 11 (by decide) ?_ hS (by kernel_rfl) (by kernel_rfl) (by kernel_rfl) (by rfl) (fun _ _ _ h => h) ?_ ?_
    rotate_left
    ·intro W hW
     clear hW
     simp only [z0, z1]
     go_simp
     first | done | with_reducible rfl
    simp only [z0, z1, Act.put, z3, z4, z5]
    refine tk 1 (by decide) ?_ hS (by kernel_rfl) (by kernel_rfl) (by kernel_rfl) (by rfl) (fun _ _ _ h => h) ?_ ?_
    rotate_left
    ·intro W hW
     have q := (k0.later hW).c5
     clear hW
     simp only [z0, z1]
     go_simp
     first | done | with_reducible rfl
    simp only [z0, z1, Act.put, z3, z4, z5]
    refine tk 3 (by decide) ?_ hS (by kernel_rfl) (by kernel_rfl) (by kernel_rfl) (by rfl) (fun _ _ _ h => h) ?_ ?_
    rotate_left
    ·intro W hW
     have q := (k0.later hW).c6
     clear hW
     simp only [z0, z1]
     go_simp
     first | done | with_reducible rfl
    simp only [z0, z1, Act.put, z3, z4, z5]
    refine tk 4 (by decide) ?_ hS (by kernel_rfl) (by kernel_rfl) (by kernel_rfl) (by rfl) (fun _ _ _ h => h) ?_ ?_
    rotate_left
    ·intro W hW
     clear hW
     simp only [z0, z1]
     go_simp
     first | done | with_reducible rfl
    simp only [z0, z1, Act.put, z3, z4, z5]
    refine call_at 6 (by decide) (Pi := (fun v _ => v = .int .i64 T)) (by kernel_rfl) (by rfl) (by simp only [z0, z1]; go_simp; first | done | rfl | exact ⟨rfl, rfl⟩) (call_one SB.mono hS (HIN.out _ hS)) ?_
    clear hS
    rintro w8 u hS rfl
    simp only [z0, z1, Act.put, z3, z4, z5]
    refine tk 7 (by decide) ?_ hS (by kernel_rfl) (by kernel_rfl) (by kernel_rfl) (by rfl) (fun _ _ _ h => h) ?_ ?_
    rotate_left
    ·intro W hW
     clear hW
     simp only [z0, z1]
     go_simp
     first | done | with_reducible rfl
    simp only [z0, z1, Act.put, z3, z4, z5]
    refine call_at 9 (by decide) (Pi := (fun v _ => v = .int .i64 O)) (by kernel_rfl) (by rfl) (by simp only [z0, z1]; go_simp; first | done | rfl | exact ⟨rfl, rfl⟩) (call_one SB.mono hS (HOU.out _ hS)) ?_
    clear hS
    rintro w9 u hS rfl
    simp only [z0, z1, Act.put, z3, z4, z5]
    refine tk 10 (by decide) ?_ hS (by kernel_rfl) (by kernel_rfl) (by kernel_rfl) (by rfl) (fun _ _ _ h => h) ?_ ?_
    rotate_left
    ·intro W hW
     clear hW
     simp only [z0, z1]
     go_simp
     first | done | with_reducible rfl
    simp only [z0, z1, Act.put, z3, z4, z5]
    refine tk 12 (by decide) ?_ hS (by kernel_rfl) (by kernel_rfl) (by kernel_rfl) (by rfl) (fun _ _ _ h => h) ?_ ?_
    rotate_left
    ·intro W hW
     clear hW
     simp only [z0, z1]
     go_simp
     first | done | with_reducible rfl
    simp only [z0, z1, Act.put, z3, z4, z5]
    refine tk 13 (by decide) ?_ hS (by kernel_rfl) (by kernel_rfl) (by kernel_rfl) (by rfl) (fun _ _ _ h => h) ?_ ?_
    rotate_left
    ·intro W hW
     clear hW
     simp only [z0, z1]
     go_simp
     first | done | with_reducible rfl
    simp only [z0, z1, Act.put, z3, z4, z5]
    refine wpAnyH_done (by kernel_rfl) ?_ _
    have cw9 := bl2 hS cw7
    have d9 := bl2 hS d7
    replace k0 := k0.later hS
    replace kz := kz.later hS
    replace kv := kv.later hS
    clear hS HIN HOU cw7 d7 s1 s2 s3 s4
    obtain ⟨M, hM⟩ : ∃ M, M = l.fee + l.pen + T + O + F := ⟨_, rfl⟩
    rw [← hM]
    have HM := Lib.hid (show qtN l day = M by rw [HN.out, hM])
    clear hM HN
    go_wp2_with fail
    refine (mval_any M _).mono ?_
    rintro e wa ⟨rfl, hb⟩
    replace k0 := k0.later hb
    replace kz := kz.later hb
    replace kv := kv.later hb
    have cwa := bl2 hb cw9
    have da_ := bl2 hb d9
    clear hb cw9 d9
    by_cases hg2 : gd M
    ·have HF := Lib.hid (qtE_0 HOP.out H2.out (by rw [← HL.out]; exact HG.out) (by rw [HM.out]; exact hg2))
     rw [decide_eq_true hg2]
     clear hg2
     go_wp2_with (first | (refine wpList_load_row rfl 56 _ rfl _ rfl _ _ _ _ kv Tryz.underlying56 rfl (by kernel_rfl) ?_) | (refine wpList_store_row rfl 56 _ _ rfl _ _ rfl rfl _ _ kz (by kernel_rfl) rfl (by simp [Value.oneCell']) ?_))
     (try simp only [Exit.inBlock, Exit.then])
     refine bodyPost_ret (results4_cell' Tryz.results22 _ _ _ _ _ _ _ rfl (Blk_setRow_same kz) Tryz.underlying56 rfl (by kernel_rfl)) rfl ?_
     exact qo_ok HF.out HSN.out HM.out HL.out HFF.out (Below_setRow cwa (show w.heap.size ≤ w.heap.size + 1 by omega) _)
    ·have HF := Lib.hid (qtE_4 HOP.out H2.out (by rw [← HL.out]; exact HG.out) (by rw [HM.out]; exact hg2))
     rw [decide_eq_false hg2]
     clear hg2
     go_wp2_with (first | (refine wpList_load_row rfl 56 _ rfl _ rfl _ _ _ _ kv Tryz.underlying56 rfl (by kernel_rfl) ?_) | (refine wpList_store_row rfl 56 _ _ rfl _ _ rfl rfl _ _ kz (by kernel_rfl) rfl (by simp [Value.oneCell']) ?_))
     (try simp only [Exit.inBlock, Exit.then])
     refine bodyPost_ret (results4_cell' Tryz.results22 _ _ _ _ _ _ _ rfl (Blk_setRow_same kz) Tryz.underlying56 rfl (by kernel_rfl)) rfl ?_
     exact qo_no HF.out (by decide) rfl (by simp [Value.oneCell']) (Below_setRow cwa (by omega) _)
   ·have HF := Lib.hid (qtE_3 HOP.out H2.out (by rw [← HL.out]; exact hg))
    rw [decide_eq_false hg]
    clear hg
    go_wp2_with (first | (refine wpList_load_row rfl 56 _ rfl _ rfl _ _ _ _ kv Tryz.underlying56 rfl (by kernel_rfl) ?_) | (refine wpList_store_row rfl 56 _ _ rfl _ _ rfl rfl _ _ kz (by kernel_rfl) rfl (by simp [Value.oneCell']) ?_))
    (try simp only [Exit.inBlock, Exit.then])
    refine bodyPost_ret (results4_cell' Tryz.results22 _ _ _ _ _ _ _ rfl (Blk_setRow_same kz) Tryz.underlying56 rfl (by kernel_rfl)) rfl ?_
    exact qo_no HF.out (by decide) rfl (by simp [Value.oneCell']) (Below_setRow cw5 (by omega) _)
  ·have HF := Lib.hid (qtE_2 HOP.out hst)
   have g1 : (l.st != 1) = true := by simpa using hst
   clear hst
   go_wp2_with (first | (refine wpList_load_row rfl 56 _ rfl _ rfl _ _ _ _ kv Tryz.underlying56 rfl (by kernel_rfl) ?_) | (refine wpList_store_row rfl 56 _ _ rfl _ _ rfl rfl _ _ kz (by kernel_rfl) rfl (by simp [Value.oneCell']) ?_))
   (try simp only [Exit.inBlock, Exit.then])
   refine bodyPost_ret (results4_cell' Tryz.results22 _ _ _ _ _ _ _ rfl (Blk_setRow_same kz) Tryz.underlying56 rfl (by kernel_rfl)) rfl ?_
   exact qo_no HF.out (by decide) rfl (by simp [Value.oneCell']) (Below_setRow cw3 (by omega) _)
 ·refine (open_no l da ca dk ck day _ hd hop).mono ?_
  rintro e w2 ⟨rfl, hb⟩
  replace k0 := k0.later hb
  replace kz := kz.later hb
  have cw2 := bl2 hb cw1
  clear hb cw1
  have hkz2 := kz.lt
  go_upto_region 2 with (refine wpList_store_row rfl 56 _ _ rfl _ _ rfl rfl _ _ Bk.Blk.nw10 (by kernel_rfl) rfl (by simp [Value.oneCell']) ?_)
  have hbv : Below w2.heap.size w2 ((w2.alloc (.cells #[.int .i64 0, .int .i64 0, .int .i64 0, .int .i64 0, .int .i64 0, .int .i64 0, .int .i64 0, .int .i64 0, .int .i64 0, .int .i64 0, .int .i64 0, .int .i64 0, .int .i64 0, .int .i64 0, .int .i64 0, .int .i64 0, .int .i64 0, .int .i64 0, .int .i64 0, .int .i64 0, .int .i64 0, .string { data := #[] }, .string { data := #[] }, .slice none 0 0, .slice none 0 0, .slice none 0 0, .slice none 0 0] 56)).setRow w2.heap.size #[.int .i64 0, .int .i64 0, .int .i64 0, .int .i64 0, .int .i64 0, .int .i64 0, .int .i64 0, .int .i64 0, .int .i64 0, .int .i64 0, .int .i64 0, .int .i64 0, .int .i64 0, .int .i64 0, .int .i64 0, .int .i64 0, .int .i64 0, .int .i64 0, .int .i64 0, .int .i64 0, .int .i64 0, .string { data := #[] }, .string { data := #[] }, .slice none 0 0, .slice none 0 0, .slice none 0 0, .slice none 0 0]) := Below_setRow ((Below.refl _ _).alloc (Nat.le_refl _) _) (Nat.le_refl _) _
  have kv : Bk.Blk ((w2.alloc (.cells #[.int .i64 0, .int .i64 0, .int .i64 0, .int .i64 0, .int .i64 0, .int .i64 0, .int .i64 0, .int .i64 0, .int .i64 0, .int .i64 0, .int .i64 0, .int .i64 0, .int .i64 0, .int .i64 0, .int .i64 0, .int .i64 0, .int .i64 0, .int .i64 0, .int .i64 0, .int .i64 0, .int .i64 0, .string { data := #[] }, .string { data := #[] }, .slice none 0 0, .slice none 0 0, .slice none 0 0, .slice none 0 0] 56)).setRow w2.heap.size #[.int .i64 0, .int .i64 0, .int .i64 0, .int .i64 0, .int .i64 0, .int .i64 0, .int .i64 0, .int .i64 0, .int .i64 0, .int .i64 0, .int .i64 0, .int .i64 0, .int .i64 0, .int .i64 0, .int .i64 0, .int .i64 0, .int .i64 0, .int .i64 0, .int .i64 0, .int .i64 0, .int .i64 0, .string { data := #[] }, .string { data := #[] }, .slice none 0 0, .slice none 0 0, .slice none 0 0, .slice none 0 0]) w2.heap.size _ 56 := Blk_setRow_same Bk.Blk.nw10
  have cw3 := bl2 hbv cw2
  replace kz := kz.later hbv
  replace k0 := k0.later hbv
  have hgv := k0.lt
  clear hgv
  have hgv : w.heap.size + 1 < w2.heap.size := hkz2
  clear cw2 hkz2
  generalize ((w2.alloc (.cells _ 56)).setRow w2.heap.size _) = w3 at *
  generalize w2.heap.size = gv at *
  have HF := Lib.hid (qtE_1 (l := l) (day := day) hop)
  go_wp2_with (first | (refine wpList_load_row rfl 56 _ rfl _ rfl _ _ _ _ kv Tryz.underlying56 rfl (by kernel_rfl) ?_) | (refine wpList_store_row rfl 56 _ _ rfl _ _ rfl rfl _ _ kz (by kernel_rfl) rfl (by simp [Value.oneCell']) ?_))
  (try simp only [Exit.inBlock, Exit.then])
  refine bodyPost_ret (results4_cell' Tryz.results22 _ _ _ _ _ _ _ rfl (Blk_setRow_same kz) Tryz.underlying56 rfl (by kernel_rfl)) rfl ?_
  exact qo_no HF.out (by decide) rfl (by simp [Value.oneCell']) (Below_setRow cw3 (by omega) _)
set_option maxHeartbeats 4000000 in
theorem quoteP_any (l : Lo) (da ca : Option Addr) (dk ck : Nat) (day : Int) (w : World) (h : DuesIn w da l.ds) (hdk : l.ds.length ≤ dk) (hS : Stp w) : Calls Tryz.prog 10 #[(.agg #[.int .i64 (l).id, .int .i64 (l).ac, .int .i64 (l).st, .int .i64 (l).pp, .int .i64 (l).pi, .int .i64 (l).fee, .int .i64 (l).pen, .int .i64 (l).chg, .int .i64 (l).prov, .int .i64 (l).loss, .int .i64 (l).rcv, .int .i64 ((l).tm).me, .int .i64 ((l).tm).pr, .int .i64 ((l).tm).ppm, .int .i64 ((l).tm).stt, .int .i64 ((l).tm).ev, .int .i64 ((l).tm).ct, .int .i64 ((l).tm).ba, .int .i64 ((l).tm).mo, .int .i64 ((l).tm).pen, .int .i64 ((l).tm).fe, .string ((l).tm).cal, .string ((l).tm).cur, .slice da (l).ds.length dk, .slice ca (l).cs.length ck]), .int .i64 day] w fun e w' => e = .returned (.tuple #[.int .i64 (qtV l day), .int .i64 (qtE l day)]) ∧ Below w.heap.size w w' := by
 have cw : Below w.heap.size w (w.alloc (.cells #[.int .i64 (l).id, .int .i64 (l).ac, .int .i64 (l).st, .int .i64 (l).pp, .int .i64 (l).pi, .int .i64 (l).fee, .int .i64 (l).pen, .int .i64 (l).chg, .int .i64 (l).prov, .int .i64 (l).loss, .int .i64 (l).rcv, .int .i64 ((l).tm).me, .int .i64 ((l).tm).pr, .int .i64 ((l).tm).ppm, .int .i64 ((l).tm).stt, .int .i64 ((l).tm).ev, .int .i64 ((l).tm).ct, .int .i64 ((l).tm).ba, .int .i64 ((l).tm).mo, .int .i64 ((l).tm).pen, .int .i64 ((l).tm).fe, .string ((l).tm).cal, .string ((l).tm).cur, .slice da (l).ds.length dk, .slice ca (l).cs.length ck] 27)) := (Below.refl _ _).alloc (Nat.le_refl _) _
 have hd := h.later cw
 have hs := hS.of cw
 have k0 : Bk.Blk (w.alloc (.cells #[.int .i64 (l).id, .int .i64 (l).ac, .int .i64 (l).st, .int .i64 (l).pp, .int .i64 (l).pi, .int .i64 (l).fee, .int .i64 (l).pen, .int .i64 (l).chg, .int .i64 (l).prov, .int .i64 (l).loss, .int .i64 (l).rcv, .int .i64 ((l).tm).me, .int .i64 ((l).tm).pr, .int .i64 ((l).tm).ppm, .int .i64 ((l).tm).stt, .int .i64 ((l).tm).ev, .int .i64 ((l).tm).ct, .int .i64 ((l).tm).ba, .int .i64 ((l).tm).mo, .int .i64 ((l).tm).pen, .int .i64 ((l).tm).fe, .string ((l).tm).cal, .string ((l).tm).cur, .slice da (l).ds.length dk, .slice ca (l).cs.length ck] 27)) w.heap.size _ 27 := Bk.Blk.nw10
 clear h hS
 go_enter Tryz.func10, Tryz.ntmps10
 go_upto_region 1 with fail
 generalize (w.alloc (.cells _ 27)) = w1 at *
 go_wp2_with (refine wpList_load_row rfl 27 _ rfl _ rfl _ _ _ _ (k0) Tryz.underlying27 rfl (by kernel_rfl) ?_)
 refine (quote_any l da ca dk ck day _ hd hdk hs).mono ?_
 rintro e w2 ⟨cs, rfl, h27, h1c, _, hb⟩
 have cw2 := bl2 hb cw
 clear hb cw
 go_upto_region 2 with (refine wpList_store_row rfl 56 _ _ rfl _ _ rfl rfl _ _ Bk.Blk.nw10 (by rw [h27]; kernel_rfl) h27.symm h1c ?_)
 have cw3 : Below w.heap.size w ((w2.alloc (.cells #[.int .i64 0, .int .i64 0, .int .i64 0, .int .i64 0, .int .i64 0, .int .i64 0, .int .i64 0, .int .i64 0, .int .i64 0, .int .i64 0, .int .i64 0, .int .i64 0, .int .i64 0, .int .i64 0, .int .i64 0, .int .i64 0, .int .i64 0, .int .i64 0, .int .i64 0, .int .i64 0, .int .i64 0, .string { data := #[] }, .string { data := #[] }, .slice none 0 0, .slice none 0 0, .slice none 0 0, .slice none 0 0] 56)).setRow w2.heap.size cs) := bl2 (Below_setRow ((Below.refl _ _).alloc (Nat.le_refl _) _) (Nat.le_refl _) _) cw2
 generalize ((w2.alloc (.cells _ 56)).setRow w2.heap.size cs) = w3 at *
 go_wp2_with fail
 go_ret2
 exact ⟨rfl, cw3⟩
end Go.Proofs.YtaanicginfjgdaaGreatDoor.Pp

namespace Go.Proofs.YtaanicginfjgdaaGreatDoor.Pp
open Go Go.RowKit
open Go.Proofs.YtaanicginfjgdaaGreatDoor
open Go.Proofs.YtaanicginfjgdaaGreatDoor.Ln (Tm Ch Du Lo Pa sum prs its P I due chk Ok ok_iff wrap_in wrap_add powed zLo LoIn DuesIn RowIn OwnR denc denc_len cenc cenc_len penc penc_len tenc flat flat_len Dok dues_of_row bl2 SB SB.mono SQ SQ.mono take_at one_at two_at call_at call_wp call_one call_pv value_wp yields_load_row Blk_setRow_same Blk_setRow_ne Below_setRow dues_setRow row_row one25 load_guarded results2_cell dues_lt rowc_lt rangeAt_later tk ts z0 z1 z3 z4 z5)
open Go.Proofs.YtaanicginfjgdaaGreatDoor.Ln (pPred pdel_any penc_one part_info row_put flat_mem cloned_any clonec_any denc_one)
open Go.Proofs.YtaanicginfjgdaaGreatDoor.Sr (GV DV app_due)
open Go.Proofs.YtaanicginfjgdaaGreatDoor.Rd (gd pcV pcE Stp)
open Go.Proofs.YtaanicginfjgdaaGreatDoor.Kl (Cl CalIn skE)
set_option linter.unusedSimpArgs false
set_option linter.unusedVariables false
set_option maxRecDepth 100000

theorem clonep_any (a : Option Addr) (cap : Nat) (cs : List Pa) (w : World) (h : RowIn penc w a cs) (hl : cs.length ≤ 100000) :
  Calls Tryz.prog 61 #[.slice a cs.length cap] w fun e w' => Below w.heap.size w w' ∧
   ((a = none ∧ cs = [] ∧ e = .returned (.slice none 0 0)) ∨ ∃ g c, e = .returned (.slice (some ⟨g, 0, none⟩) cs.length c) ∧ OwnR penc 2 65 w' w.heap.size g c cs) := by
 have HR := Lib.hid h
 cases a with
 | none =>
  have h0 : cs = [] := by
   rcases Nat.eq_zero_or_pos cs.length with h0 | h0
   ·exact List.length_eq_zero_iff.1 h0
   ·obtain ⟨b, off, ha, _⟩ := h h0; cases ha
  subst h0
  clear h hl
  have q24 : ∀ (w : World) (n c n' c' : Nat), (binOp .eql 34 (.slice none n c) (.slice none n' c')).run Tryz.prog w = .ok (.bool true) w := fun w n c n' c' => Lib.run_eql_slice_nil w _ _ none n c n' c' Tryz.underlying34
  go_enter Tryz.func61, Tryz.ntmps61
  go_wp2_with fail
  go_ret
  exact ⟨Below.refl _ _, .inl (by simp)⟩
 | some ad =>
  obtain ⟨i, hi, hzz⟩ := Option.map_eq_some_iff.1 part_info
  simp only [Prod.mk.injEq] at hzz
  obtain ⟨hz, hsz, hby⟩ := hzz
  have HI := Lib.hid (And.intro hi (And.intro hz (And.intro hsz hby)))
  clear h hi hz hsz hby
  have q24 : ∀ (w : World) (n c n' c' : Nat), (binOp .eql 34 (.slice (some ad) n c) (.slice none n' c')).run Tryz.prog w = .ok (.bool false) w := fun w n c n' c' => Lib.run_eql_slice_nil w _ _ (some ad) n c n' c' Tryz.underlying34
  go_enter Tryz.func61, Tryz.ntmps61
  go_wp2_with (at_builtin; refine wpList_append_own _ rfl _ _ 34 rfl w.heap.size 65 i (.agg #[.int .i64 0, .int .i64 0]) 2 16 Tryz.underlying34 HI.out.1 HI.out.2.1 HI.out.2.2.1 HI.out.2.2.2 rfl (by decide) _ _ _ rfl (World.ownsRow_made w #[] 0 (Nat.le_refl _) (Nat.zero_le _) (by simp)) ad cs.length cap (flat penc cs) rfl ?qc1 ?qc2 ?qc3 ?qc4 ?qc5 ?qc6 ?_)
  case qc1 => exact flat_len penc_len cs
  case qc2 =>
   intro j u hj
   have h0 : 0 < cs.length := by
    rcases Nat.eq_zero_or_pos cs.length with h0 | h0
    ·rw [List.length_eq_zero_iff.1 h0] at hj; simp [flat] at hj
    ·exact h0
   obtain ⟨b, off, ha, hc⟩ := HR.out h0
   obtain rfl := Option.some.inj ha
   rw [show (⟨b, off, none⟩ : Addr).add j = ⟨b, off + j, none⟩ from Go.WideShapes.add_plain ..]
   exact Lib.cell?_alloc_some _ (hc j u hj)
  case qc3 => exact flat_mem penc_one cs
  case qc4 => rw [Nat.zero_add]; unfold maxLen; omega
  case qc5 => rw [Nat.zero_add]; omega
  case qc6 => simp
  intro v' w1 hown hgrow hnl
  have hnn : v' ≠ .slice none 0 0 := hnl
  obtain ⟨g, c, rfl, ho⟩ := Ln.OwnR.of hown hnn
  go_wp2_with fail
  go_ret
  exact ⟨((Below.refl _ w).alloc (Nat.le_refl _) _).grown hgrow (by simp) (by intro k hk; simp [Value.ownBlock] at hk; omega), .inr ⟨g, c, rfl, ho⟩⟩
theorem row_cells {α : Type} {enc : α → List Value} {W : World} {g : Nat} {t : TypeId} {xs : List α} (h : Bk.Blk W g (flat enc xs).toArray t) : RowIn enc W (some ⟨g, 0, none⟩) xs := fun _ =>
 ⟨g, 0, rfl, fun j u hj => by rw [Nat.zero_add, h.cell]; simpa using hj⟩
theorem partz_any (B : Nat) (w : World) : pPred 62 #[] (fun p => p.am == 0) B w := by
 intro d W _
 show Calls Tryz.prog 62 #[.agg #[.int .i64 d.kd, .int .i64 d.am]] W _
 have cw : Below W.heap.size W (W.alloc (.cells #[.int .i64 d.kd, .int .i64 d.am] 65)) := (Below.refl _ _).alloc (Nat.le_refl _) _
 have k0 : Bk.Blk (W.alloc (.cells #[.int .i64 d.kd, .int .i64 d.am] 65)) W.heap.size #[.int .i64 d.kd, .int .i64 d.am] 65 := Bk.Blk.nw10
 have l1 := k0.c1
 go_enter Tryz.func62, Tryz.ntmps62
 go_upto_region 1 with fail
 generalize (W.alloc (.cells #[.int .i64 d.kd, .int .i64 d.am] 65)) = w1 at *
 go_wp2_with fail
 go_ret
 exact ⟨rfl, cw⟩
theorem parts_any (ps : List Pa) (a : Option Addr) (cap : Nat) (w : World) (h : RowIn penc w a ps) (h0 : 0 < ps.length) (hl : ps.length ≤ 1000) : Calls Tryz.prog 28 #[.slice a ps.length cap] w fun e w' => ∃ g c, e = .returned (.slice (some ⟨g, 0, none⟩) (ppz ps).length c) ∧ RowIn penc w' (some ⟨g, 0, none⟩) (ppz ps) ∧ w.heap.size ≤ g ∧ Below w.heap.size w w' := by
 go_enter Tryz.func28, Tryz.ntmps28
 go_wp2_with fail
 refine (clonep_any a cap ps w h (by omega)).mono ?_
 rintro e w1 ⟨hb, ⟨_, hn, _⟩ | ⟨g, c, rfl, ho⟩⟩
 ·rw [hn] at h0; exact absurd h0 (by decide)
 ·have hc : ps.length ≤ c := by obtain ⟨_, _, X, hX, _⟩ := ho; omega
  have hg := ho.1
  go_wp2_with fail
  refine (pdel_any 62 #[] (fun p => p.am == 0) w.heap.size g c ps w1 (enters_of Tryz.func62 (by kernel_rfl) rfl) (partz_any _ _) ho (by omega) hc).mono ?_
  rintro e w2 ⟨rfl, hr, hb2⟩
  have cw : Below w.heap.size w w2 := by first | exact Below.trans hb hb2 | exact bl2 hb2 hb
  go_wp2_with fail
  go_ret
  exact ⟨g, c, rfl, hr, hg, cw⟩
theorem cloned_gv (a : Option Addr) (cap : Nat) (ds : List Du) (w : World) (h : DuesIn w a ds) (hl : ds.length ≤ 100000) : Calls Tryz.prog 31 #[.slice a ds.length cap] w fun e w' => ∃ v, e = .returned v ∧ DV w' w.heap.size v ds ∧ Below w.heap.size w w' :=
 (cloned_any a cap ds w h hl).mono fun e w' ⟨hb, h⟩ => by
  rcases h with ⟨_, rfl, rfl⟩ | ⟨g, c, rfl, ho⟩
  ·exact ⟨_, rfl, GV.nil _ _, hb⟩
  ·exact ⟨_, rfl, Sr.OwnR.gv denc_len (by decide) ho, hb⟩
theorem clonec_row (a : Option Addr) (cap : Nat) (cs : List Ch) (w : World) (h : RowIn cenc w a cs) (hl : cs.length ≤ 100000) : Calls Tryz.prog 35 #[.slice a cs.length cap] w fun e w' => ∃ a' c', e = .returned (.slice a' cs.length c') ∧ RowIn cenc w' a' cs ∧ (∀ ad, a' = some ad → w.heap.size ≤ ad.block) ∧ Below w.heap.size w w' :=
 (clonec_any a cap cs w h hl).mono fun e w' ⟨hb, h⟩ => by
  rcases h with ⟨_, rfl, rfl⟩ | ⟨g, c, rfl, ho⟩
  ·exact ⟨none, 0, rfl, fun h => absurd h (Nat.not_lt_zero _), fun ad h => (by cases h), hb⟩
  ·exact ⟨_, c, rfl, ho.row, fun ad h => (by cases h; exact ho.1), hb⟩
end Go.Proofs.YtaanicginfjgdaaGreatDoor.Pp
