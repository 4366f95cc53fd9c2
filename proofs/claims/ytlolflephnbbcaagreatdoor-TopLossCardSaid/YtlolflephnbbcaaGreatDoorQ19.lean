/-
  Parts of the proof: Lp1.
-/
import Derived.Test.YtlolflephnbbcaaGreatDoorQ18
namespace Go.Proofs.YtlolflephnbbcaaGreatDoor.Ln
open Go.RowKit
open Go.Proofs.YtlolflephnbbcaaGreatDoor
set_option maxRecDepth 100000

set_option maxHeartbeats 8000000 in
theorem pay_errs (l : Lo) (da ca : Option Addr) (dk ck : Nat) (n on : Int) (w : World) (h : DuesIn w da l.ds) (he : payE l n on ≠ 0) :
  Calls Tryz.prog 33 #[(.agg #[.int .i64 (l).id, .int .i64 (l).ac, .int .i64 (l).st, .int .i64 (l).pp, .int .i64 (l).pi, .int .i64 (l).fee, .int .i64 (l).pen, .int .i64 (l).chg, .int .i64 (l).prov, .int .i64 (l).loss, .int .i64 (l).rcv, .int .i64 ((l).tm).me, .int .i64 ((l).tm).pr, .int .i64 ((l).tm).ppm, .int .i64 ((l).tm).stt, .int .i64 ((l).tm).ev, .int .i64 ((l).tm).ct, .int .i64 ((l).tm).ba, .int .i64 ((l).tm).mo, .int .i64 ((l).tm).pen, .int .i64 ((l).tm).fe, .string ((l).tm).cal, .string ((l).tm).cur, .slice da (l).ds.length dk, .slice ca (l).cs.length ck]), .int .i64 n, .int .i64 on] w fun e w' => e = .returned (.tuple #[.agg #[.int .i64 0, .int .i64 0, .int .i64 0, .int .i64 0, .int .i64 0, .int .i64 0, .int .i64 0, .int .i64 0, .int .i64 0, .int .i64 0, .int .i64 0, .int .i64 0, .int .i64 0, .int .i64 0, .int .i64 0, .int .i64 0, .int .i64 0, .int .i64 0, .int .i64 0, .int .i64 0, .int .i64 0, .string .empty, .string .empty, .slice none 0 0, .slice none 0 0], .slice none 0 0, .int .i64 (payE l n on)]) ∧ Below w.heap.size w w' := by
 have HC := Lib.hid (fun (W : World) (hW : Below w.heap.size w W) => check_any l da ca dk ck W (h.later hW))
 have HV := Lib.hid (fun (W : World) => day_any on W)
 have b2 : Below w.heap.size w ((w.alloc (.cells #[.int .i64 (l).id, .int .i64 (l).ac, .int .i64 (l).st, .int .i64 (l).pp, .int .i64 (l).pi, .int .i64 (l).fee, .int .i64 (l).pen, .int .i64 (l).chg, .int .i64 (l).prov, .int .i64 (l).loss, .int .i64 (l).rcv, .int .i64 ((l).tm).me, .int .i64 ((l).tm).pr, .int .i64 ((l).tm).ppm, .int .i64 ((l).tm).stt, .int .i64 ((l).tm).ev, .int .i64 ((l).tm).ct, .int .i64 ((l).tm).ba, .int .i64 ((l).tm).mo, .int .i64 ((l).tm).pen, .int .i64 ((l).tm).fe, .string ((l).tm).cal, .string ((l).tm).cur, .slice da (l).ds.length dk, .slice ca (l).cs.length ck] 32)).alloc (.cells #[.int .i64 0, .int .i64 0, .int .i64 0, .int .i64 0, .int .i64 0, .int .i64 0, .int .i64 0, .int .i64 0, .int .i64 0, .int .i64 0, .int .i64 0, .int .i64 0, .int .i64 0, .int .i64 0, .int .i64 0, .int .i64 0, .int .i64 0, .int .i64 0, .int .i64 0, .int .i64 0, .int .i64 0, .string .empty, .string .empty, .slice none 0 0, .slice none 0 0] 32)) := ((Below.refl _ _).alloc (Nat.le_refl _) _).alloc (by simp) _
 have hw := pay_err l n on
 obtain ⟨r, hr⟩ : ∃ r, r = payE l n on := ⟨_, rfl⟩
 rw [← hr] at hw he ⊢
 obtain ⟨c, hc⟩ : ∃ c, c = chk l := ⟨_, rfl⟩
 rw [← hc] at hw HC
 clear hr hc h
 rcases hw with ⟨h1, rfl⟩ | ⟨rfl, h2, rfl⟩ | ⟨rfl, h2, h3, rfl⟩ | ⟨rfl, h2, h3, h4, rfl⟩ | ⟨rfl, h2, h3, h4, h5, rfl⟩ | ⟨rfl, h2, h3, h4, h5, rfl⟩
 ·have g1 : (c != 0) = true := bne_iff_ne.2 h1
  clear h1
  go_enter Tryz.func33, Tryz.ntmps33
  go_wp2_with (refine wpList_load_row rfl 32 _ rfl _ rfl _ _ _ _ Bk.Blk.nw20 Tryz.underlying32 rfl (by kernel_rfl) ?_)
  refine (HC.out _ b2).mono ?_
  rintro e w1 ⟨rfl, hb1⟩
  have hk := Bk.Blk.later (g := w.heap.size) hb1 (Bk.Blk.nw20 (W := w) (cs := #[.int .i64 (l).id, .int .i64 (l).ac, .int .i64 (l).st, .int .i64 (l).pp, .int .i64 (l).pi, .int .i64 (l).fee, .int .i64 (l).pen, .int .i64 (l).chg, .int .i64 (l).prov, .int .i64 (l).loss, .int .i64 (l).rcv, .int .i64 ((l).tm).me, .int .i64 ((l).tm).pr, .int .i64 ((l).tm).ppm, .int .i64 ((l).tm).stt, .int .i64 ((l).tm).ev, .int .i64 ((l).tm).ct, .int .i64 ((l).tm).ba, .int .i64 ((l).tm).mo, .int .i64 ((l).tm).pen, .int .i64 ((l).tm).fe, .string ((l).tm).cal, .string ((l).tm).cur, .slice da (l).ds.length dk, .slice ca (l).cs.length ck]) (t := 32) (o1 := .cells #[.int .i64 0, .int .i64 0, .int .i64 0, .int .i64 0, .int .i64 0, .int .i64 0, .int .i64 0, .int .i64 0, .int .i64 0, .int .i64 0, .int .i64 0, .int .i64 0, .int .i64 0, .int .i64 0, .int .i64 0, .int .i64 0, .int .i64 0, .int .i64 0, .int .i64 0, .int .i64 0, .int .i64 0, .string .empty, .string .empty, .slice none 0 0, .slice none 0 0] 32))
  have hz := Bk.Blk.later (g := w.heap.size + 1) hb1 (Bk.Blk.nw21 (W := w) (cs := #[.int .i64 0, .int .i64 0, .int .i64 0, .int .i64 0, .int .i64 0, .int .i64 0, .int .i64 0, .int .i64 0, .int .i64 0, .int .i64 0, .int .i64 0, .int .i64 0, .int .i64 0, .int .i64 0, .int .i64 0, .int .i64 0, .int .i64 0, .int .i64 0, .int .i64 0, .int .i64 0, .int .i64 0, .string .empty, .string .empty, .slice none 0 0, .slice none 0 0]) (t := 32) (o0 := .cells #[.int .i64 (l).id, .int .i64 (l).ac, .int .i64 (l).st, .int .i64 (l).pp, .int .i64 (l).pi, .int .i64 (l).fee, .int .i64 (l).pen, .int .i64 (l).chg, .int .i64 (l).prov, .int .i64 (l).loss, .int .i64 (l).rcv, .int .i64 ((l).tm).me, .int .i64 ((l).tm).pr, .int .i64 ((l).tm).ppm, .int .i64 ((l).tm).stt, .int .i64 ((l).tm).ev, .int .i64 ((l).tm).ct, .int .i64 ((l).tm).ba, .int .i64 ((l).tm).mo, .int .i64 ((l).tm).pen, .int .i64 ((l).tm).fe, .string ((l).tm).cal, .string ((l).tm).cur, .slice da (l).ds.length dk, .slice ca (l).cs.length ck] 32))
  have b1 := bl2 hb1 b2
  clear hb1
  go_upto_region 2 with fail
  go_wp2_with (refine wpList_store_row rfl 32 _ _ rfl _ _ rfl rfl _ _ hz (by kernel_rfl) rfl (one25 ..) ?_)
  (try simp only [Exit.inBlock, Exit.then])
  refine bodyPost_ret (results3_cell Tryz.results33 _ _ _ _ _ _ _ rfl (Blk_setRow_same hz) Tryz.underlying32 rfl (by kernel_rfl)) rfl ?_
  exact ⟨rfl, Below_setRow b1 (by omega) _⟩
 ·have g1 : decide (n < 1) = true := decide_eq_true h2
  go_enter Tryz.func33, Tryz.ntmps33
  go_wp2_with (refine wpList_load_row rfl 32 _ rfl _ rfl _ _ _ _ Bk.Blk.nw20 Tryz.underlying32 rfl (by kernel_rfl) ?_)
  refine (HC.out _ b2).mono ?_
  rintro e w1 ⟨rfl, hb1⟩
  have hk := Bk.Blk.later (g := w.heap.size) hb1 (Bk.Blk.nw20 (W := w) (cs := #[.int .i64 (l).id, .int .i64 (l).ac, .int .i64 (l).st, .int .i64 (l).pp, .int .i64 (l).pi, .int .i64 (l).fee, .int .i64 (l).pen, .int .i64 (l).chg, .int .i64 (l).prov, .int .i64 (l).loss, .int .i64 (l).rcv, .int .i64 ((l).tm).me, .int .i64 ((l).tm).pr, .int .i64 ((l).tm).ppm, .int .i64 ((l).tm).stt, .int .i64 ((l).tm).ev, .int .i64 ((l).tm).ct, .int .i64 ((l).tm).ba, .int .i64 ((l).tm).mo, .int .i64 ((l).tm).pen, .int .i64 ((l).tm).fe, .string ((l).tm).cal, .string ((l).tm).cur, .slice da (l).ds.length dk, .slice ca (l).cs.length ck]) (t := 32) (o1 := .cells #[.int .i64 0, .int .i64 0, .int .i64 0, .int .i64 0, .int .i64 0, .int .i64 0, .int .i64 0, .int .i64 0, .int .i64 0, .int .i64 0, .int .i64 0, .int .i64 0, .int .i64 0, .int .i64 0, .int .i64 0, .int .i64 0, .int .i64 0, .int .i64 0, .int .i64 0, .int .i64 0, .int .i64 0, .string .empty, .string .empty, .slice none 0 0, .slice none 0 0] 32))
  have hz := Bk.Blk.later (g := w.heap.size + 1) hb1 (Bk.Blk.nw21 (W := w) (cs := #[.int .i64 0, .int .i64 0, .int .i64 0, .int .i64 0, .int .i64 0, .int .i64 0, .int .i64 0, .int .i64 0, .int .i64 0, .int .i64 0, .int .i64 0, .int .i64 0, .int .i64 0, .int .i64 0, .int .i64 0, .int .i64 0, .int .i64 0, .int .i64 0, .int .i64 0, .int .i64 0, .int .i64 0, .string .empty, .string .empty, .slice none 0 0, .slice none 0 0]) (t := 32) (o0 := .cells #[.int .i64 (l).id, .int .i64 (l).ac, .int .i64 (l).st, .int .i64 (l).pp, .int .i64 (l).pi, .int .i64 (l).fee, .int .i64 (l).pen, .int .i64 (l).chg, .int .i64 (l).prov, .int .i64 (l).loss, .int .i64 (l).rcv, .int .i64 ((l).tm).me, .int .i64 ((l).tm).pr, .int .i64 ((l).tm).ppm, .int .i64 ((l).tm).stt, .int .i64 ((l).tm).ev, .int .i64 ((l).tm).ct, .int .i64 ((l).tm).ba, .int .i64 ((l).tm).mo, .int .i64 ((l).tm).pen, .int .i64 ((l).tm).fe, .string ((l).tm).cal, .string ((l).tm).cur, .slice da (l).ds.length dk, .slice ca (l).cs.length ck] 32))
  have b1 := bl2 hb1 b2
  clear hb1
  go_upto_region 2 with fail
  go_wp2_with (refine wpList_store_row rfl 32 _ _ rfl _ _ rfl rfl _ _ hz (by kernel_rfl) rfl (one25 ..) ?_)
  (try simp only [Exit.inBlock, Exit.then])
  refine bodyPost_ret (results3_cell Tryz.results33 _ _ _ _ _ _ _ rfl (Blk_setRow_same hz) Tryz.underlying32 rfl (by kernel_rfl)) rfl ?_
  exact ⟨rfl, Below_setRow b1 (by omega) _⟩
 ·have g1 : decide (n < 1) = false := decide_eq_false (by omega)
  have g2 : decide (1000000000000 < n) = true := decide_eq_true h3
  go_enter Tryz.func33, Tryz.ntmps33
  go_wp2_with (refine wpList_load_row rfl 32 _ rfl _ rfl _ _ _ _ Bk.Blk.nw20 Tryz.underlying32 rfl (by kernel_rfl) ?_)
  refine (HC.out _ b2).mono ?_
  rintro e w1 ⟨rfl, hb1⟩
  have hk := Bk.Blk.later (g := w.heap.size) hb1 (Bk.Blk.nw20 (W := w) (cs := #[.int .i64 (l).id, .int .i64 (l).ac, .int .i64 (l).st, .int .i64 (l).pp, .int .i64 (l).pi, .int .i64 (l).fee, .int .i64 (l).pen, .int .i64 (l).chg, .int .i64 (l).prov, .int .i64 (l).loss, .int .i64 (l).rcv, .int .i64 ((l).tm).me, .int .i64 ((l).tm).pr, .int .i64 ((l).tm).ppm, .int .i64 ((l).tm).stt, .int .i64 ((l).tm).ev, .int .i64 ((l).tm).ct, .int .i64 ((l).tm).ba, .int .i64 ((l).tm).mo, .int .i64 ((l).tm).pen, .int .i64 ((l).tm).fe, .string ((l).tm).cal, .string ((l).tm).cur, .slice da (l).ds.length dk, .slice ca (l).cs.length ck]) (t := 32) (o1 := .cells #[.int .i64 0, .int .i64 0, .int .i64 0, .int .i64 0, .int .i64 0, .int .i64 0, .int .i64 0, .int .i64 0, .int .i64 0, .int .i64 0, .int .i64 0, .int .i64 0, .int .i64 0, .int .i64 0, .int .i64 0, .int .i64 0, .int .i64 0, .int .i64 0, .int .i64 0, .int .i64 0, .int .i64 0, .string .empty, .string .empty, .slice none 0 0, .slice none 0 0] 32))
  have hz := Bk.Blk.later (g := w.heap.size + 1) hb1 (Bk.Blk.nw21 (W := w) (cs := #[.int .i64 0, .int .i64 0, .int .i64 0, .int .i64 0, .int .i64 0, .int .i64 0, .int .i64 0, .int .i64 0, .int .i64 0, .int .i64 0, .int .i64 0, .int .i64 0, .int .i64 0, .int .i64 0, .int .i64 0, .int .i64 0, .int .i64 0, .int .i64 0, .int .i64 0, .int .i64 0, .int .i64 0, .string .empty, .string .empty, .slice none 0 0, .slice none 0 0]) (t := 32) (o0 := .cells #[.int .i64 (l).id, .int .i64 (l).ac, .int .i64 (l).st, .int .i64 (l).pp, .int .i64 (l).pi, .int .i64 (l).fee, .int .i64 (l).pen, .int .i64 (l).chg, .int .i64 (l).prov, .int .i64 (l).loss, .int .i64 (l).rcv, .int .i64 ((l).tm).me, .int .i64 ((l).tm).pr, .int .i64 ((l).tm).ppm, .int .i64 ((l).tm).stt, .int .i64 ((l).tm).ev, .int .i64 ((l).tm).ct, .int .i64 ((l).tm).ba, .int .i64 ((l).tm).mo, .int .i64 ((l).tm).pen, .int .i64 ((l).tm).fe, .string ((l).tm).cal, .string ((l).tm).cur, .slice da (l).ds.length dk, .slice ca (l).cs.length ck] 32))
  have b1 := bl2 hb1 b2
  clear hb1
  go_upto_region 2 with fail
  go_wp2_with (refine wpList_store_row rfl 32 _ _ rfl _ _ rfl rfl _ _ hz (by kernel_rfl) rfl (one25 ..) ?_)
  (try simp only [Exit.inBlock, Exit.then])
  refine bodyPost_ret (results3_cell Tryz.results33 _ _ _ _ _ _ _ rfl (Blk_setRow_same hz) Tryz.underlying32 rfl (by kernel_rfl)) rfl ?_
  exact ⟨rfl, Below_setRow b1 (by omega) _⟩
 ·have g1 : decide (n < 1) = false := decide_eq_false (by omega)
  have g2 : decide (1000000000000 < n) = false := decide_eq_false (by omega)
  go_enter Tryz.func33, Tryz.ntmps33
  go_wp2_with (refine wpList_load_row rfl 32 _ rfl _ rfl _ _ _ _ Bk.Blk.nw20 Tryz.underlying32 rfl (by kernel_rfl) ?_)
  refine (HC.out _ b2).mono ?_
  rintro e w1 ⟨rfl, hb1⟩
  have hk := Bk.Blk.later (g := w.heap.size) hb1 (Bk.Blk.nw20 (W := w) (cs := #[.int .i64 (l).id, .int .i64 (l).ac, .int .i64 (l).st, .int .i64 (l).pp, .int .i64 (l).pi, .int .i64 (l).fee, .int .i64 (l).pen, .int .i64 (l).chg, .int .i64 (l).prov, .int .i64 (l).loss, .int .i64 (l).rcv, .int .i64 ((l).tm).me, .int .i64 ((l).tm).pr, .int .i64 ((l).tm).ppm, .int .i64 ((l).tm).stt, .int .i64 ((l).tm).ev, .int .i64 ((l).tm).ct, .int .i64 ((l).tm).ba, .int .i64 ((l).tm).mo, .int .i64 ((l).tm).pen, .int .i64 ((l).tm).fe, .string ((l).tm).cal, .string ((l).tm).cur, .slice da (l).ds.length dk, .slice ca (l).cs.length ck]) (t := 32) (o1 := .cells #[.int .i64 0, .int .i64 0, .int .i64 0, .int .i64 0, .int .i64 0, .int .i64 0, .int .i64 0, .int .i64 0, .int .i64 0, .int .i64 0, .int .i64 0, .int .i64 0, .int .i64 0, .int .i64 0, .int .i64 0, .int .i64 0, .int .i64 0, .int .i64 0, .int .i64 0, .int .i64 0, .int .i64 0, .string .empty, .string .empty, .slice none 0 0, .slice none 0 0] 32))
  have hz := Bk.Blk.later (g := w.heap.size + 1) hb1 (Bk.Blk.nw21 (W := w) (cs := #[.int .i64 0, .int .i64 0, .int .i64 0, .int .i64 0, .int .i64 0, .int .i64 0, .int .i64 0, .int .i64 0, .int .i64 0, .int .i64 0, .int .i64 0, .int .i64 0, .int .i64 0, .int .i64 0, .int .i64 0, .int .i64 0, .int .i64 0, .int .i64 0, .int .i64 0, .int .i64 0, .int .i64 0, .string .empty, .string .empty, .slice none 0 0, .slice none 0 0]) (t := 32) (o0 := .cells #[.int .i64 (l).id, .int .i64 (l).ac, .int .i64 (l).st, .int .i64 (l).pp, .int .i64 (l).pi, .int .i64 (l).fee, .int .i64 (l).pen, .int .i64 (l).chg, .int .i64 (l).prov, .int .i64 (l).loss, .int .i64 (l).rcv, .int .i64 ((l).tm).me, .int .i64 ((l).tm).pr, .int .i64 ((l).tm).ppm, .int .i64 ((l).tm).stt, .int .i64 ((l).tm).ev, .int .i64 ((l).tm).ct, .int .i64 ((l).tm).ba, .int .i64 ((l).tm).mo, .int .i64 ((l).tm).pen, .int .i64 ((l).tm).fe, .string ((l).tm).cal, .string ((l).tm).cur, .slice da (l).ds.length dk, .slice ca (l).cs.length ck] 32))
  have b1 := bl2 hb1 b2
  clear hb1
  go_wp2_with fail
  refine (HV.out _).mono ?_
  rintro e w2 ⟨rfl, rfl⟩
  rw [h4]
  go_upto_region 2 with fail
  go_wp2_with (refine wpList_store_row rfl 32 _ _ rfl _ _ rfl rfl _ _ hz (by kernel_rfl) rfl (one25 ..) ?_)
  (try simp only [Exit.inBlock, Exit.then])
  refine bodyPost_ret (results3_cell Tryz.results33 _ _ _ _ _ _ _ rfl (Blk_setRow_same hz) Tryz.underlying32 rfl (by kernel_rfl)) rfl ?_
  exact ⟨rfl, Below_setRow b1 (by omega) _⟩
 ·have g1 : decide (n < 1) = false := decide_eq_false (by omega)
  have g2 : decide (1000000000000 < n) = false := decide_eq_false (by omega)
  have g3 : (l.st != 1) = true := bne_iff_ne.2 h5
  clear h5
  go_enter Tryz.func33, Tryz.ntmps33
  go_wp2_with (refine wpList_load_row rfl 32 _ rfl _ rfl _ _ _ _ Bk.Blk.nw20 Tryz.underlying32 rfl (by kernel_rfl) ?_)
  refine (HC.out _ b2).mono ?_
  rintro e w1 ⟨rfl, hb1⟩
  have hk := Bk.Blk.later (g := w.heap.size) hb1 (Bk.Blk.nw20 (W := w) (cs := #[.int .i64 (l).id, .int .i64 (l).ac, .int .i64 (l).st, .int .i64 (l).pp, .int .i64 (l).pi, .int .i64 (l).fee, .int .i64 (l).pen, .int .i64 (l).chg, .int .i64 (l).prov, .int .i64 (l).loss, .int .i64 (l).rcv, .int .i64 ((l).tm).me, .int .i64 ((l).tm).pr, .int .i64 ((l).tm).ppm, .int .i64 ((l).tm).stt, .int .i64 ((l).tm).ev, .int .i64 ((l).tm).ct, .int .i64 ((l).tm).ba, .int .i64 ((l).tm).mo, .int .i64 ((l).tm).pen, .int .i64 ((l).tm).fe, .string ((l).tm).cal, .string ((l).tm).cur, .slice da (l).ds.length dk, .slice ca (l).cs.length ck]) (t := 32) (o1 := .cells #[.int .i64 0, .int .i64 0, .int .i64 0, .int .i64 0, .int .i64 0, .int .i64 0, .int .i64 0, .int .i64 0, .int .i64 0, .int .i64 0, .int .i64 0, .int .i64 0, .int .i64 0, .int .i64 0, .int .i64 0, .int .i64 0, .int .i64 0, .int .i64 0, .int .i64 0, .int .i64 0, .int .i64 0, .string .empty, .string .empty, .slice none 0 0, .slice none 0 0] 32))
  have hz := Bk.Blk.later (g := w.heap.size + 1) hb1 (Bk.Blk.nw21 (W := w) (cs := #[.int .i64 0, .int .i64 0, .int .i64 0, .int .i64 0, .int .i64 0, .int .i64 0, .int .i64 0, .int .i64 0, .int .i64 0, .int .i64 0, .int .i64 0, .int .i64 0, .int .i64 0, .int .i64 0, .int .i64 0, .int .i64 0, .int .i64 0, .int .i64 0, .int .i64 0, .int .i64 0, .int .i64 0, .string .empty, .string .empty, .slice none 0 0, .slice none 0 0]) (t := 32) (o0 := .cells #[.int .i64 (l).id, .int .i64 (l).ac, .int .i64 (l).st, .int .i64 (l).pp, .int .i64 (l).pi, .int .i64 (l).fee, .int .i64 (l).pen, .int .i64 (l).chg, .int .i64 (l).prov, .int .i64 (l).loss, .int .i64 (l).rcv, .int .i64 ((l).tm).me, .int .i64 ((l).tm).pr, .int .i64 ((l).tm).ppm, .int .i64 ((l).tm).stt, .int .i64 ((l).tm).ev, .int .i64 ((l).tm).ct, .int .i64 ((l).tm).ba, .int .i64 ((l).tm).mo, .int .i64 ((l).tm).pen, .int .i64 ((l).tm).fe, .string ((l).tm).cal, .string ((l).tm).cur, .slice da (l).ds.length dk, .slice ca (l).cs.length ck] 32))
  have b1 := bl2 hb1 b2
  clear hb1
  go_wp2_with fail
  refine (HV.out _).mono ?_
  rintro e w2 ⟨rfl, rfl⟩
  rw [h4]
  have l2 := hk.c2
  go_upto_region 4 with fail
  go_wp2_with (refine wpList_store_row rfl 32 _ _ rfl _ _ rfl rfl _ _ hz (by kernel_rfl) rfl (one25 ..) ?_)
  (try simp only [Exit.inBlock, Exit.then])
  refine bodyPost_ret (results3_cell Tryz.results33 _ _ _ _ _ _ _ rfl (Blk_setRow_same hz) Tryz.underlying32 rfl (by kernel_rfl)) rfl ?_
  exact ⟨rfl, Below_setRow b1 (by omega) _⟩
 ·exact absurd rfl he
end Go.Proofs.YtlolflephnbbcaaGreatDoor.Ln
