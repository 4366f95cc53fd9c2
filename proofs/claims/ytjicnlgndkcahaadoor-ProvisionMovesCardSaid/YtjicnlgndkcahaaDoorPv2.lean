/-
  Stages of loans and what is expected: the program's and the reference's.
-/
import Derived.Test.YtjicnlgndkcahaaDoorPv1
import Derived.Test.YtjicnlgndkcahaaDoorLc
import Derived.Test.YtjicnlgndkcahaaDoorRd4
import Derived.Test.YtjicnlgndkcahaaDoorLs1
namespace Go.Proofs.YtjicnlgndkcahaaDoor.Ln
open Go.RowKit
open Go.Proofs.YtjicnlgndkcahaaDoor
set_option linter.unusedSimpArgs false

set_option maxHeartbeats 4000000 in
theorem pstage_any (l : Lo) (da ca : Option Addr) (dk ck : Nat) (on : Int) (w : World) (h : DuesIn w da l.ds) (hC : Ctb w) :
    Calls Tryd.prog 9 #[(.agg #[.int .i64 (l).id, .int .i64 (l).ac, .int .i64 (l).st, .int .i64 (l).pp, .int .i64 (l).pi, .int .i64 (l).fee, .int .i64 (l).pen, .int .i64 (l).chg, .int .i64 (l).prov, .int .i64 (l).loss, .int .i64 (l).rcv, .int .i64 ((l).tm).me, .int .i64 ((l).tm).pr, .int .i64 ((l).tm).ppm, .int .i64 ((l).tm).stt, .int .i64 ((l).tm).ev, .int .i64 ((l).tm).ct, .int .i64 ((l).tm).ba, .int .i64 ((l).tm).mo, .int .i64 ((l).tm).pen, .int .i64 ((l).tm).fe, .string ((l).tm).cal, .string ((l).tm).cur, .slice da (l).ds.length dk, .slice ca (l).cs.length ck]), .int .i64 on] w fun e w' => e = .returned (.int .i64 (stgL l on)) ∧ Below w.heap.size w w' := by
  have b1 : Below w.heap.size w (w.alloc (.cells #[.int .i64 (l).id, .int .i64 (l).ac, .int .i64 (l).st, .int .i64 (l).pp, .int .i64 (l).pi, .int .i64 (l).fee, .int .i64 (l).pen, .int .i64 (l).chg, .int .i64 (l).prov, .int .i64 (l).loss, .int .i64 (l).rcv, .int .i64 ((l).tm).me, .int .i64 ((l).tm).pr, .int .i64 ((l).tm).ppm, .int .i64 ((l).tm).stt, .int .i64 ((l).tm).ev, .int .i64 ((l).tm).ct, .int .i64 ((l).tm).ba, .int .i64 ((l).tm).mo, .int .i64 ((l).tm).pen, .int .i64 ((l).tm).fe, .string ((l).tm).cal, .string ((l).tm).cur, .slice da (l).ds.length dk, .slice ca (l).cs.length ck] 27)) := (Below.refl _ _).alloc (Nat.le_refl _) _
  by_cases hs : l.st = 1
  · have HST := Lib.hid (show stgL l on = stgB (bkt (daysL l on)) from if_pos hs)
    have g1 : (l.st != 1) = false := by rw [hs]; rfl
    have b2 : Below w.heap.size w ((w.alloc (.cells #[.int .i64 (l).id, .int .i64 (l).ac, .int .i64 (l).st, .int .i64 (l).pp, .int .i64 (l).pi, .int .i64 (l).fee, .int .i64 (l).pen, .int .i64 (l).chg, .int .i64 (l).prov, .int .i64 (l).loss, .int .i64 (l).rcv, .int .i64 ((l).tm).me, .int .i64 ((l).tm).pr, .int .i64 ((l).tm).ppm, .int .i64 ((l).tm).stt, .int .i64 ((l).tm).ev, .int .i64 ((l).tm).ct, .int .i64 ((l).tm).ba, .int .i64 ((l).tm).mo, .int .i64 ((l).tm).pen, .int .i64 ((l).tm).fe, .string ((l).tm).cal, .string ((l).tm).cur, .slice da (l).ds.length dk, .slice ca (l).cs.length ck] 27)).alloc (.cells #[.int .i64 1, .int .i64 1, .int .i64 2, .int .i64 2, .int .i64 3] 51)) := b1.alloc (by simp) _
    have HDY := Lib.hid (days_any l da ca dk ck on _ (h.later b2))
    have hbw := bkt_ways (daysL l on)
    have HBK := Lib.hid (fun (W : World) (hW : Below w.heap.size w W) => bucket_any (daysL l on) W (hC.of hW))
    generalize daysL l on = d at *
    generalize bkt d = b at *
    have HB := Lib.hid (show b = 0 ∨ b = 1 ∨ b = 2 ∨ b = 3 ∨ b = 4 by omega)
    clear hs h hC hbw
    go_enter Tryd.func9, Tryd.ntmps9
    go_wp2_with (refine wpList_load_row rfl 27 _ rfl _ rfl _ _ _ _ Bk.Blk.nw20 Tryd.underlying27 rfl (by kernel_rfl) ?_)
    refine HDY.out.mono ?_
    rintro e w3 ⟨rfl, hb⟩
    have k5 := Bk.Blk.later (g := w.heap.size + 1) hb (Bk.Blk.nw21 (W := w) (o0 := .cells #[.int .i64 (l).id, .int .i64 (l).ac, .int .i64 (l).st, .int .i64 (l).pp, .int .i64 (l).pi, .int .i64 (l).fee, .int .i64 (l).pen, .int .i64 (l).chg, .int .i64 (l).prov, .int .i64 (l).loss, .int .i64 (l).rcv, .int .i64 ((l).tm).me, .int .i64 ((l).tm).pr, .int .i64 ((l).tm).ppm, .int .i64 ((l).tm).stt, .int .i64 ((l).tm).ev, .int .i64 ((l).tm).ct, .int .i64 ((l).tm).ba, .int .i64 ((l).tm).mo, .int .i64 ((l).tm).pen, .int .i64 ((l).tm).fe, .string ((l).tm).cal, .string ((l).tm).cur, .slice da (l).ds.length dk, .slice ca (l).cs.length ck] 27) (cs := #[.int .i64 1, .int .i64 1, .int .i64 2, .int .i64 2, .int .i64 3]) (t := 51))
    have b3 := bl2 hb b2
    have c0 := k5.c0
    have c1 := k5.c1
    have c2 := k5.c2
    have c3 := k5.c3
    have c4 := k5.c4
    clear hb b1 b2 k5
    go_wp2_with fail
    refine (HBK.out _ b3).mono ?_
    rintro e w' ⟨rfl, rfl⟩
    rcases HB.out with rfl | rfl | rfl | rfl | rfl
    · go_wp2_with fail
      go_ret
      exact ⟨by rw [HST.out]; rfl, b3⟩
    · go_wp2_with fail
      go_ret
      exact ⟨by rw [HST.out]; rfl, b3⟩
    · go_wp2_with fail
      go_ret
      exact ⟨by rw [HST.out]; rfl, b3⟩
    · go_wp2_with fail
      go_ret
      exact ⟨by rw [HST.out]; rfl, b3⟩
    · go_wp2_with fail
      go_ret
      exact ⟨by rw [HST.out]; rfl, b3⟩
  · have HST := Lib.hid (show stgL l on = 0 from if_neg hs)
    have g1 : (l.st != 1) = true := bne_iff_ne.2 hs
    clear hs h hC
    go_enter Tryd.func9, Tryd.ntmps9
    go_wp2_with fail
    go_ret
    exact ⟨by rw [HST.out]; rfl, b1⟩

set_option maxHeartbeats 4000000 in
theorem rpstage_any (l : Lo) (da ca : Option Addr) (dk ck : Nat) (on : Int) (w : World) (h : DuesIn w da l.ds) :
    Calls Tryd.prog 10 #[(.agg #[.int .i64 (l).id, .int .i64 (l).ac, .int .i64 (l).st, .int .i64 (l).pp, .int .i64 (l).pi, .int .i64 (l).fee, .int .i64 (l).pen, .int .i64 (l).chg, .int .i64 (l).prov, .int .i64 (l).loss, .int .i64 (l).rcv, .int .i64 ((l).tm).me, .int .i64 ((l).tm).pr, .int .i64 ((l).tm).ppm, .int .i64 ((l).tm).stt, .int .i64 ((l).tm).ev, .int .i64 ((l).tm).ct, .int .i64 ((l).tm).ba, .int .i64 ((l).tm).mo, .int .i64 ((l).tm).pen, .int .i64 ((l).tm).fe, .string ((l).tm).cal, .string ((l).tm).cur, .slice da (l).ds.length dk, .slice ca (l).cs.length ck]), .int .i64 on] w fun e w' => e = .returned (.int .i64 (stgL l on)) ∧ Below w.heap.size w w' := by
  have b1 : Below w.heap.size w (w.alloc (.cells #[.int .i64 (l).id, .int .i64 (l).ac, .int .i64 (l).st, .int .i64 (l).pp, .int .i64 (l).pi, .int .i64 (l).fee, .int .i64 (l).pen, .int .i64 (l).chg, .int .i64 (l).prov, .int .i64 (l).loss, .int .i64 (l).rcv, .int .i64 ((l).tm).me, .int .i64 ((l).tm).pr, .int .i64 ((l).tm).ppm, .int .i64 ((l).tm).stt, .int .i64 ((l).tm).ev, .int .i64 ((l).tm).ct, .int .i64 ((l).tm).ba, .int .i64 ((l).tm).mo, .int .i64 ((l).tm).pen, .int .i64 ((l).tm).fe, .string ((l).tm).cal, .string ((l).tm).cur, .slice da (l).ds.length dk, .slice ca (l).cs.length ck] 27)) := (Below.refl _ _).alloc (Nat.le_refl _) _
  by_cases hs : l.st = 1
  · have HST := Lib.hid (show stgL l on = stgB (bkt (daysL l on)) from if_pos hs)
    have g1 : (l.st != 1) = false := by rw [hs]; rfl
    have HDY := Lib.hid (rdays_any l da ca dk ck on _ (h.later b1))
    have hbw := bkt_ways (daysL l on)
    have HBK := Lib.hid (fun (W : World) => rbucket_any (daysL l on) W)
    generalize daysL l on = d at *
    generalize bkt d = b at *
    have HB := Lib.hid (show b = 0 ∨ b = 1 ∨ b = 2 ∨ b = 3 ∨ b = 4 by omega)
    clear hs h hbw
    go_enter Tryd.func10, Tryd.ntmps10
    go_wp2_with (refine wpList_load_row rfl 27 _ rfl _ rfl _ _ _ _ (Bk.Blk.nw10) Tryd.underlying27 rfl (by kernel_rfl) ?_)
    refine HDY.out.mono ?_
    rintro e w3 ⟨rfl, hb⟩
    have b3 := bl2 hb b1
    clear hb b1
    go_wp2_with fail
    refine (HBK.out _).mono ?_
    rintro e w' ⟨rfl, rfl⟩
    rcases HB.out with rfl | rfl | rfl | rfl | rfl
    · go_wp2_with fail
      go_ret
      exact ⟨by rw [HST.out]; rfl, b3⟩
    · go_wp2_with fail
      go_ret
      exact ⟨by rw [HST.out]; rfl, b3⟩
    · go_wp2_with fail
      go_ret
      exact ⟨by rw [HST.out]; rfl, b3⟩
    · go_wp2_with fail
      go_ret
      exact ⟨by rw [HST.out]; rfl, b3⟩
    · go_wp2_with fail
      go_ret
      exact ⟨by rw [HST.out]; rfl, b3⟩
  · have HST := Lib.hid (show stgL l on = 0 from if_neg hs)
    have g1 : (l.st != 1) = true := bne_iff_ne.2 hs
    clear hs h
    go_enter Tryd.func10, Tryd.ntmps10
    go_wp2_with fail
    go_ret
    exact ⟨by rw [HST.out]; rfl, b1⟩

/-- What is expected, and the error. -/
noncomputable def exV (l : Lo) (on : Int) : Int := Rd.pcV (wrap64 (P l.ds - l.pp)) (rteS (stgL l on)) 2
noncomputable def exE (l : Lo) (on : Int) : Int := Rd.pcE (wrap64 (P l.ds - l.pp)) (rteS (stgL l on)) 2
theorem pp_out {a p m : Int} {w w' : World} {e : Ending} (h : Rd.PPost a p m w e w') : e = .returned (.tuple #[.int .i64 (Rd.pcV a p m), .int .i64 (Rd.pcE a p m)]) ∧ Below w.heap.size w w' := h
theorem rte_bd (s : Int) : 0 ≤ rteS s ∧ rteS s ≤ 450000 := by have := rteS_ways s; omega
theorem i64_wrap (n : Int) : Wm.I64 (wrap64 n) := by unfold Wm.I64 wrap64; omega
theorem i64_rte (s : Int) : Wm.I64 (rteS s) := by have := rte_bd s; unfold Wm.I64; omega

set_option maxHeartbeats 4000000 in
theorem expd_any (l : Lo) (da ca : Option Addr) (dk ck : Nat) (on : Int) (w : World) (h : DuesIn w da l.ds) (hC : Ctb w) (hSt : Rd.Stp w) :
    Calls Tryd.prog 14 #[(.agg #[.int .i64 (l).id, .int .i64 (l).ac, .int .i64 (l).st, .int .i64 (l).pp, .int .i64 (l).pi, .int .i64 (l).fee, .int .i64 (l).pen, .int .i64 (l).chg, .int .i64 (l).prov, .int .i64 (l).loss, .int .i64 (l).rcv, .int .i64 ((l).tm).me, .int .i64 ((l).tm).pr, .int .i64 ((l).tm).ppm, .int .i64 ((l).tm).stt, .int .i64 ((l).tm).ev, .int .i64 ((l).tm).ct, .int .i64 ((l).tm).ba, .int .i64 ((l).tm).mo, .int .i64 ((l).tm).pen, .int .i64 ((l).tm).fe, .string ((l).tm).cal, .string ((l).tm).cur, .slice da (l).ds.length dk, .slice ca (l).cs.length ck]), .int .i64 on] w fun e w' => e = .returned (.tuple #[.int .i64 (exV l on), .int .i64 (exE l on)]) ∧ Below w.heap.size w w' := by
  have b1 : Below w.heap.size w (w.alloc (.cells #[.int .i64 (l).id, .int .i64 (l).ac, .int .i64 (l).st, .int .i64 (l).pp, .int .i64 (l).pi, .int .i64 (l).fee, .int .i64 (l).pen, .int .i64 (l).chg, .int .i64 (l).prov, .int .i64 (l).loss, .int .i64 (l).rcv, .int .i64 ((l).tm).me, .int .i64 ((l).tm).pr, .int .i64 ((l).tm).ppm, .int .i64 ((l).tm).stt, .int .i64 ((l).tm).ev, .int .i64 ((l).tm).ct, .int .i64 ((l).tm).ba, .int .i64 ((l).tm).mo, .int .i64 ((l).tm).pen, .int .i64 ((l).tm).fe, .string ((l).tm).cal, .string ((l).tm).cur, .slice da (l).ds.length dk, .slice ca (l).cs.length ck] 27)) := (Below.refl _ _).alloc (Nat.le_refl _) _
  have C1 := Lib.hid (fun (W : World) (hW : Below w.heap.size w W) => out_any l da ca dk ck W (h.later hW))
  have C2 := Lib.hid (fun (W : World) (hW : Below w.heap.size w W) => pstage_any l da ca dk ck on W (h.later hW) (hC.of hW))
  have C3 := Lib.hid (fun (W : World) => prate_any (stgL l on) W)
  have C4 := Lib.hid (fun (W : World) (hW : Below w.heap.size w W) => (Rd.percent_any (wrap64 (P l.ds - l.pp)) (rteS (stgL l on)) 2 W (hSt.of hW) (i64_wrap _) (i64_rte _)).mono fun _ _ h => pp_out h)
  have hS0 : SQ (w.alloc (.cells #[.int .i64 (l).id, .int .i64 (l).ac, .int .i64 (l).st, .int .i64 (l).pp, .int .i64 (l).pi, .int .i64 (l).fee, .int .i64 (l).pen, .int .i64 (l).chg, .int .i64 (l).prov, .int .i64 (l).loss, .int .i64 (l).rcv, .int .i64 ((l).tm).me, .int .i64 ((l).tm).pr, .int .i64 ((l).tm).ppm, .int .i64 ((l).tm).stt, .int .i64 ((l).tm).ev, .int .i64 ((l).tm).ct, .int .i64 ((l).tm).ba, .int .i64 ((l).tm).mo, .int .i64 ((l).tm).pen, .int .i64 ((l).tm).fe, .string ((l).tm).cal, .string ((l).tm).cur, .slice da (l).ds.length dk, .slice ca (l).cs.length ck] 27)) w.heap.size #[.int .i64 (l).id, .int .i64 (l).ac, .int .i64 (l).st, .int .i64 (l).pp, .int .i64 (l).pi, .int .i64 (l).fee, .int .i64 (l).pen, .int .i64 (l).chg, .int .i64 (l).prov, .int .i64 (l).loss, .int .i64 (l).rcv, .int .i64 ((l).tm).me, .int .i64 ((l).tm).pr, .int .i64 ((l).tm).ppm, .int .i64 ((l).tm).stt, .int .i64 ((l).tm).ev, .int .i64 ((l).tm).ct, .int .i64 ((l).tm).ba, .int .i64 ((l).tm).mo, .int .i64 ((l).tm).pen, .int .i64 ((l).tm).fe, .string ((l).tm).cal, .string ((l).tm).cur, .slice da (l).ds.length dk, .slice ca (l).cs.length ck] 27 (w.alloc (.cells #[.int .i64 (l).id, .int .i64 (l).ac, .int .i64 (l).st, .int .i64 (l).pp, .int .i64 (l).pi, .int .i64 (l).fee, .int .i64 (l).pen, .int .i64 (l).chg, .int .i64 (l).prov, .int .i64 (l).loss, .int .i64 (l).rcv, .int .i64 ((l).tm).me, .int .i64 ((l).tm).pr, .int .i64 ((l).tm).ppm, .int .i64 ((l).tm).stt, .int .i64 ((l).tm).ev, .int .i64 ((l).tm).ct, .int .i64 ((l).tm).ba, .int .i64 ((l).tm).mo, .int .i64 ((l).tm).pen, .int .i64 ((l).tm).fe, .string ((l).tm).cal, .string ((l).tm).cur, .slice da (l).ds.length dk, .slice ca (l).cs.length ck] 27)).drew := ⟨Bk.Blk.drew Bk.Blk.nw10, (Below.refl _ _).drew⟩
  have HE := Lib.hid (show exV l on = Rd.pcV (wrap64 (P l.ds - l.pp)) (rteS (stgL l on)) 2 ∧ exE l on = Rd.pcE (wrap64 (P l.ds - l.pp)) (rteS (stgL l on)) 2 from ⟨rfl, rfl⟩)
  have hup : ∀ W, SQ (w.alloc (.cells #[.int .i64 (l).id, .int .i64 (l).ac, .int .i64 (l).st, .int .i64 (l).pp, .int .i64 (l).pi, .int .i64 (l).fee, .int .i64 (l).pen, .int .i64 (l).chg, .int .i64 (l).prov, .int .i64 (l).loss, .int .i64 (l).rcv, .int .i64 ((l).tm).me, .int .i64 ((l).tm).pr, .int .i64 ((l).tm).ppm, .int .i64 ((l).tm).stt, .int .i64 ((l).tm).ev, .int .i64 ((l).tm).ct, .int .i64 ((l).tm).ba, .int .i64 ((l).tm).mo, .int .i64 ((l).tm).pen, .int .i64 ((l).tm).fe, .string ((l).tm).cal, .string ((l).tm).cur, .slice da (l).ds.length dk, .slice ca (l).cs.length ck] 27)) w.heap.size #[.int .i64 (l).id, .int .i64 (l).ac, .int .i64 (l).st, .int .i64 (l).pp, .int .i64 (l).pi, .int .i64 (l).fee, .int .i64 (l).pen, .int .i64 (l).chg, .int .i64 (l).prov, .int .i64 (l).loss, .int .i64 (l).rcv, .int .i64 ((l).tm).me, .int .i64 ((l).tm).pr, .int .i64 ((l).tm).ppm, .int .i64 ((l).tm).stt, .int .i64 ((l).tm).ev, .int .i64 ((l).tm).ct, .int .i64 ((l).tm).ba, .int .i64 ((l).tm).mo, .int .i64 ((l).tm).pen, .int .i64 ((l).tm).fe, .string ((l).tm).cal, .string ((l).tm).cur, .slice da (l).ds.length dk, .slice ca (l).cs.length ck] 27 W → Below w.heap.size w W := fun W hW => bl2 hW.2 b1
  have HUP := Lib.hid hup
  clear hup
  generalize wrap64 (P l.ds - l.pp) = ou at *
  generalize stgL l on = sg at *
  generalize rteS sg = rt at *
  generalize Rd.pcV ou rt 2 = v at *
  generalize Rd.pcE ou rt 2 = c at *
  go_enter Tryd.func14, Tryd.ntmps14
  go_upto_region 1 with fail
  refine wp_region_held_drew (S := SQ (w.alloc (.cells #[.int .i64 (l).id, .int .i64 (l).ac, .int .i64 (l).st, .int .i64 (l).pp, .int .i64 (l).pi, .int .i64 (l).fee, .int .i64 (l).pen, .int .i64 (l).chg, .int .i64 (l).prov, .int .i64 (l).loss, .int .i64 (l).rcv, .int .i64 ((l).tm).me, .int .i64 ((l).tm).pr, .int .i64 ((l).tm).ppm, .int .i64 ((l).tm).stt, .int .i64 ((l).tm).ev, .int .i64 ((l).tm).ct, .int .i64 ((l).tm).ba, .int .i64 ((l).tm).mo, .int .i64 ((l).tm).pen, .int .i64 ((l).tm).fe, .string ((l).tm).cal, .string ((l).tm).cur, .slice da (l).ds.length dk, .slice ca (l).cs.length ck] 27)) w.heap.size #[.int .i64 (l).id, .int .i64 (l).ac, .int .i64 (l).st, .int .i64 (l).pp, .int .i64 (l).pi, .int .i64 (l).fee, .int .i64 (l).pen, .int .i64 (l).chg, .int .i64 (l).prov, .int .i64 (l).loss, .int .i64 (l).rcv, .int .i64 ((l).tm).me, .int .i64 ((l).tm).pr, .int .i64 ((l).tm).ppm, .int .i64 ((l).tm).stt, .int .i64 ((l).tm).ev, .int .i64 ((l).tm).ct, .int .i64 ((l).tm).ba, .int .i64 ((l).tm).mo, .int .i64 ((l).tm).pen, .int .i64 ((l).tm).fe, .string ((l).tm).cal, .string ((l).tm).cur, .slice da (l).ds.length dk, .slice ca (l).cs.length ck] 27) (by kernel_rfl) hS0 (fun hS => ?_)
  clear hS0 b1
  refine take_at 0 (by decide) (by kernel_rfl) (by kernel_rfl) (by kernel_rfl) (fun _ _ _ h => h) hS (yields_load_row (by rfl) 27 (.tmp 2) rfl w.heap.size rfl _ _ _ _ (fun W hW => hW.1) Tryd.underlying27 rfl (by kernel_rfl)) ?_
  simp only [List.getElem_cons_zero, List.getElem_cons_succ, Act.put, List.setIfInBounds_toArray, List.set_cons_zero, List.set_cons_succ]
  refine take_at 2 (by decide) (by kernel_rfl) (by kernel_rfl) (by kernel_rfl) (fun _ _ _ h => h) hS (yields_load_row (by rfl) 27 (.tmp 2) rfl w.heap.size rfl _ _ _ _ (fun W hW => hW.1) Tryd.underlying27 rfl (by kernel_rfl)) ?_
  simp only [List.getElem_cons_zero, List.getElem_cons_succ, Act.put, List.setIfInBounds_toArray, List.set_cons_zero, List.set_cons_succ]
  refine take_at 3 (by decide) (v := ?_) (by kernel_rfl) (by kernel_rfl) (by kernel_rfl) (fun _ _ _ h => h) hS (Or.inl ⟨by rfl, ?_⟩) ?_
  rotate_left
  · intro W hW
    skip
    clear hW
    simp only [List.getElem_cons_zero, List.getElem_cons_succ]
    go_simp
    first | done | with_reducible rfl
  simp only [List.getElem_cons_zero, List.getElem_cons_succ, Act.put, List.setIfInBounds_toArray, List.set_cons_zero, List.set_cons_succ]
  refine call_at 1 (by decide) (Pi := (fun vv _ => vv = .int .i64 ou)) (by kernel_rfl) (by rfl) (by simp only [List.getElem_cons_zero, List.getElem_cons_succ]; go_simp; first | done | rfl | exact ⟨rfl, rfl⟩) (call_one SQ.mono hS (C1.out _ (HUP.out _ hS))) ?_
  clear hS
  rintro w1 u hS rfl
  simp only [List.getElem_cons_zero, List.getElem_cons_succ, Act.put, List.setIfInBounds_toArray, List.set_cons_zero, List.set_cons_succ]
  refine call_at 4 (by decide) (Pi := (fun vv _ => vv = .int .i64 sg)) (by kernel_rfl) (by rfl) (by simp only [List.getElem_cons_zero, List.getElem_cons_succ]; go_simp; first | done | rfl | exact ⟨rfl, rfl⟩) (call_one SQ.mono hS (C2.out _ (HUP.out _ hS))) ?_
  clear hS
  rintro w2 u hS rfl
  simp only [List.getElem_cons_zero, List.getElem_cons_succ, Act.put, List.setIfInBounds_toArray, List.set_cons_zero, List.set_cons_succ]
  refine call_at 5 (by decide) (Pi := (fun vv _ => vv = .int .i64 rt)) (by kernel_rfl) (by rfl) (by simp only [List.getElem_cons_zero, List.getElem_cons_succ]; go_simp; first | done | rfl | exact ⟨rfl, rfl⟩) (call_one SQ.mono hS (C3.out _)) ?_
  clear hS
  rintro w3 u hS rfl
  simp only [List.getElem_cons_zero, List.getElem_cons_succ, Act.put, List.setIfInBounds_toArray, List.set_cons_zero, List.set_cons_succ]
  refine call_at 6 (by decide) (Pi := (fun vv _ => vv = .tuple #[.int .i64 v, .int .i64 c])) (by kernel_rfl) (by rfl) (by simp only [List.getElem_cons_zero, List.getElem_cons_succ]; go_simp; first | done | rfl | exact ⟨rfl, rfl⟩) (call_one SQ.mono hS (C4.out _ (HUP.out _ hS))) ?_
  clear hS
  rintro w4 u hS rfl
  simp only [List.getElem_cons_zero, List.getElem_cons_succ, Act.put, List.setIfInBounds_toArray, List.set_cons_zero, List.set_cons_succ]
  refine take_at 7 (by decide) (v := ?_) (by kernel_rfl) (by kernel_rfl) (by kernel_rfl) (fun _ _ _ h => h) hS (Or.inl ⟨by rfl, ?_⟩) ?_
  rotate_left
  · intro W hW
    skip
    clear hW
    simp only [List.getElem_cons_zero, List.getElem_cons_succ]
    go_simp
    first | done | with_reducible rfl
  simp only [List.getElem_cons_zero, List.getElem_cons_succ, Act.put, List.setIfInBounds_toArray, List.set_cons_zero, List.set_cons_succ]
  refine take_at 8 (by decide) (v := ?_) (by kernel_rfl) (by kernel_rfl) (by kernel_rfl) (fun _ _ _ h => h) hS (Or.inl ⟨by rfl, ?_⟩) ?_
  rotate_left
  · intro W hW
    skip
    clear hW
    simp only [List.getElem_cons_zero, List.getElem_cons_succ]
    go_simp
    first | done | with_reducible rfl
  simp only [List.getElem_cons_zero, List.getElem_cons_succ, Act.put, List.setIfInBounds_toArray, List.set_cons_zero, List.set_cons_succ]
  refine take_at 9 (by decide) (v := ?_) (by kernel_rfl) (by kernel_rfl) (by kernel_rfl) (fun _ _ _ h => h) hS (Or.inl ⟨by rfl, ?_⟩) ?_
  rotate_left
  · intro W hW
    skip
    clear hW
    simp only [List.getElem_cons_zero, List.getElem_cons_succ]
    go_simp
    first | done | with_reducible rfl
  simp only [List.getElem_cons_zero, List.getElem_cons_succ, Act.put, List.setIfInBounds_toArray, List.set_cons_zero, List.set_cons_succ]
  refine take_at 10 (by decide) (v := ?_) (by kernel_rfl) (by kernel_rfl) (by kernel_rfl) (fun _ _ _ h => h) hS (Or.inl ⟨by rfl, ?_⟩) ?_
  rotate_left
  · intro W hW
    skip
    clear hW
    simp only [List.getElem_cons_zero, List.getElem_cons_succ]
    go_simp
    first | done | with_reducible rfl
  simp only [List.getElem_cons_zero, List.getElem_cons_succ, Act.put, List.setIfInBounds_toArray, List.set_cons_zero, List.set_cons_succ]
  refine wpAnyH_done (by kernel_rfl) ?_ _
  go_wp2_with fail
  go_ret2
  exact ⟨by rw [HE.out.1, HE.out.2]; rfl, HUP.out _ hS⟩

set_option maxHeartbeats 4000000 in
theorem rexpd_any (l : Lo) (da ca : Option Addr) (dk ck : Nat) (on : Int) (w : World) (h : DuesIn w da l.ds) (hd : Dok l.ds) :
    Calls Tryd.prog 15 #[(.agg #[.int .i64 (l).id, .int .i64 (l).ac, .int .i64 (l).st, .int .i64 (l).pp, .int .i64 (l).pi, .int .i64 (l).fee, .int .i64 (l).pen, .int .i64 (l).chg, .int .i64 (l).prov, .int .i64 (l).loss, .int .i64 (l).rcv, .int .i64 ((l).tm).me, .int .i64 ((l).tm).pr, .int .i64 ((l).tm).ppm, .int .i64 ((l).tm).stt, .int .i64 ((l).tm).ev, .int .i64 ((l).tm).ct, .int .i64 ((l).tm).ba, .int .i64 ((l).tm).mo, .int .i64 ((l).tm).pen, .int .i64 ((l).tm).fe, .string ((l).tm).cal, .string ((l).tm).cur, .slice da (l).ds.length dk, .slice ca (l).cs.length ck]), .int .i64 on] w fun e w' => e = .returned (.tuple #[.int .i64 (exV l on), .int .i64 (exE l on)]) ∧ Below w.heap.size w w' := by
  have b1 : Below w.heap.size w (w.alloc (.cells #[.int .i64 (l).id, .int .i64 (l).ac, .int .i64 (l).st, .int .i64 (l).pp, .int .i64 (l).pi, .int .i64 (l).fee, .int .i64 (l).pen, .int .i64 (l).chg, .int .i64 (l).prov, .int .i64 (l).loss, .int .i64 (l).rcv, .int .i64 ((l).tm).me, .int .i64 ((l).tm).pr, .int .i64 ((l).tm).ppm, .int .i64 ((l).tm).stt, .int .i64 ((l).tm).ev, .int .i64 ((l).tm).ct, .int .i64 ((l).tm).ba, .int .i64 ((l).tm).mo, .int .i64 ((l).tm).pen, .int .i64 ((l).tm).fe, .string ((l).tm).cal, .string ((l).tm).cur, .slice da (l).ds.length dk, .slice ca (l).cs.length ck] 27)) := (Below.refl _ _).alloc (Nat.le_refl _) _
  have C1 := Lib.hid (fun (W : World) (hW : Below w.heap.size w W) => rout_any l da ca dk ck W (h.later hW) hd)
  have C2 := Lib.hid (fun (W : World) (hW : Below w.heap.size w W) => rpstage_any l da ca dk ck on W (h.later hW))
  have C3 := Lib.hid (fun (W : World) => prrate_any (stgL l on) W)
  have C4 := Lib.hid (fun (W : World) (hW : Below w.heap.size w W) => (Rd.rpercent_any (wrap64 (P l.ds - l.pp)) (rteS (stgL l on)) 2 W (i64_wrap _) (i64_rte _)).mono fun _ _ h => pp_out h)
  have hS0 : SQ (w.alloc (.cells #[.int .i64 (l).id, .int .i64 (l).ac, .int .i64 (l).st, .int .i64 (l).pp, .int .i64 (l).pi, .int .i64 (l).fee, .int .i64 (l).pen, .int .i64 (l).chg, .int .i64 (l).prov, .int .i64 (l).loss, .int .i64 (l).rcv, .int .i64 ((l).tm).me, .int .i64 ((l).tm).pr, .int .i64 ((l).tm).ppm, .int .i64 ((l).tm).stt, .int .i64 ((l).tm).ev, .int .i64 ((l).tm).ct, .int .i64 ((l).tm).ba, .int .i64 ((l).tm).mo, .int .i64 ((l).tm).pen, .int .i64 ((l).tm).fe, .string ((l).tm).cal, .string ((l).tm).cur, .slice da (l).ds.length dk, .slice ca (l).cs.length ck] 27)) w.heap.size #[.int .i64 (l).id, .int .i64 (l).ac, .int .i64 (l).st, .int .i64 (l).pp, .int .i64 (l).pi, .int .i64 (l).fee, .int .i64 (l).pen, .int .i64 (l).chg, .int .i64 (l).prov, .int .i64 (l).loss, .int .i64 (l).rcv, .int .i64 ((l).tm).me, .int .i64 ((l).tm).pr, .int .i64 ((l).tm).ppm, .int .i64 ((l).tm).stt, .int .i64 ((l).tm).ev, .int .i64 ((l).tm).ct, .int .i64 ((l).tm).ba, .int .i64 ((l).tm).mo, .int .i64 ((l).tm).pen, .int .i64 ((l).tm).fe, .string ((l).tm).cal, .string ((l).tm).cur, .slice da (l).ds.length dk, .slice ca (l).cs.length ck] 27 (w.alloc (.cells #[.int .i64 (l).id, .int .i64 (l).ac, .int .i64 (l).st, .int .i64 (l).pp, .int .i64 (l).pi, .int .i64 (l).fee, .int .i64 (l).pen, .int .i64 (l).chg, .int .i64 (l).prov, .int .i64 (l).loss, .int .i64 (l).rcv, .int .i64 ((l).tm).me, .int .i64 ((l).tm).pr, .int .i64 ((l).tm).ppm, .int .i64 ((l).tm).stt, .int .i64 ((l).tm).ev, .int .i64 ((l).tm).ct, .int .i64 ((l).tm).ba, .int .i64 ((l).tm).mo, .int .i64 ((l).tm).pen, .int .i64 ((l).tm).fe, .string ((l).tm).cal, .string ((l).tm).cur, .slice da (l).ds.length dk, .slice ca (l).cs.length ck] 27)).drew := ⟨Bk.Blk.drew Bk.Blk.nw10, (Below.refl _ _).drew⟩
  have HE := Lib.hid (show exV l on = Rd.pcV (wrap64 (P l.ds - l.pp)) (rteS (stgL l on)) 2 ∧ exE l on = Rd.pcE (wrap64 (P l.ds - l.pp)) (rteS (stgL l on)) 2 from ⟨rfl, rfl⟩)
  have hup : ∀ W, SQ (w.alloc (.cells #[.int .i64 (l).id, .int .i64 (l).ac, .int .i64 (l).st, .int .i64 (l).pp, .int .i64 (l).pi, .int .i64 (l).fee, .int .i64 (l).pen, .int .i64 (l).chg, .int .i64 (l).prov, .int .i64 (l).loss, .int .i64 (l).rcv, .int .i64 ((l).tm).me, .int .i64 ((l).tm).pr, .int .i64 ((l).tm).ppm, .int .i64 ((l).tm).stt, .int .i64 ((l).tm).ev, .int .i64 ((l).tm).ct, .int .i64 ((l).tm).ba, .int .i64 ((l).tm).mo, .int .i64 ((l).tm).pen, .int .i64 ((l).tm).fe, .string ((l).tm).cal, .string ((l).tm).cur, .slice da (l).ds.length dk, .slice ca (l).cs.length ck] 27)) w.heap.size #[.int .i64 (l).id, .int .i64 (l).ac, .int .i64 (l).st, .int .i64 (l).pp, .int .i64 (l).pi, .int .i64 (l).fee, .int .i64 (l).pen, .int .i64 (l).chg, .int .i64 (l).prov, .int .i64 (l).loss, .int .i64 (l).rcv, .int .i64 ((l).tm).me, .int .i64 ((l).tm).pr, .int .i64 ((l).tm).ppm, .int .i64 ((l).tm).stt, .int .i64 ((l).tm).ev, .int .i64 ((l).tm).ct, .int .i64 ((l).tm).ba, .int .i64 ((l).tm).mo, .int .i64 ((l).tm).pen, .int .i64 ((l).tm).fe, .string ((l).tm).cal, .string ((l).tm).cur, .slice da (l).ds.length dk, .slice ca (l).cs.length ck] 27 W → Below w.heap.size w W := fun W hW => bl2 hW.2 b1
  have HUP := Lib.hid hup
  clear hup
  generalize wrap64 (P l.ds - l.pp) = ou at *
  generalize stgL l on = sg at *
  generalize rteS sg = rt at *
  generalize Rd.pcV ou rt 2 = v at *
  generalize Rd.pcE ou rt 2 = c at *
  go_enter Tryd.func15, Tryd.ntmps15
  go_upto_region 1 with fail
  refine wp_region_held_drew (S := SQ (w.alloc (.cells #[.int .i64 (l).id, .int .i64 (l).ac, .int .i64 (l).st, .int .i64 (l).pp, .int .i64 (l).pi, .int .i64 (l).fee, .int .i64 (l).pen, .int .i64 (l).chg, .int .i64 (l).prov, .int .i64 (l).loss, .int .i64 (l).rcv, .int .i64 ((l).tm).me, .int .i64 ((l).tm).pr, .int .i64 ((l).tm).ppm, .int .i64 ((l).tm).stt, .int .i64 ((l).tm).ev, .int .i64 ((l).tm).ct, .int .i64 ((l).tm).ba, .int .i64 ((l).tm).mo, .int .i64 ((l).tm).pen, .int .i64 ((l).tm).fe, .string ((l).tm).cal, .string ((l).tm).cur, .slice da (l).ds.length dk, .slice ca (l).cs.length ck] 27)) w.heap.size #[.int .i64 (l).id, .int .i64 (l).ac, .int .i64 (l).st, .int .i64 (l).pp, .int .i64 (l).pi, .int .i64 (l).fee, .int .i64 (l).pen, .int .i64 (l).chg, .int .i64 (l).prov, .int .i64 (l).loss, .int .i64 (l).rcv, .int .i64 ((l).tm).me, .int .i64 ((l).tm).pr, .int .i64 ((l).tm).ppm, .int .i64 ((l).tm).stt, .int .i64 ((l).tm).ev, .int .i64 ((l).tm).ct, .int .i64 ((l).tm).ba, .int .i64 ((l).tm).mo, .int .i64 ((l).tm).pen, .int .i64 ((l).tm).fe, .string ((l).tm).cal, .string ((l).tm).cur, .slice da (l).ds.length dk, .slice ca (l).cs.length ck] 27) (by kernel_rfl) hS0 (fun hS => ?_)
  clear hS0 b1
  refine take_at 0 (by decide) (by kernel_rfl) (by kernel_rfl) (by kernel_rfl) (fun _ _ _ h => h) hS (yields_load_row (by rfl) 27 (.tmp 2) rfl w.heap.size rfl _ _ _ _ (fun W hW => hW.1) Tryd.underlying27 rfl (by kernel_rfl)) ?_
  simp only [List.getElem_cons_zero, List.getElem_cons_succ, Act.put, List.setIfInBounds_toArray, List.set_cons_zero, List.set_cons_succ]
  refine take_at 2 (by decide) (by kernel_rfl) (by kernel_rfl) (by kernel_rfl) (fun _ _ _ h => h) hS (yields_load_row (by rfl) 27 (.tmp 2) rfl w.heap.size rfl _ _ _ _ (fun W hW => hW.1) Tryd.underlying27 rfl (by kernel_rfl)) ?_
  simp only [List.getElem_cons_zero, List.getElem_cons_succ, Act.put, List.setIfInBounds_toArray, List.set_cons_zero, List.set_cons_succ]
  refine take_at 3 (by decide) (v := ?_) (by kernel_rfl) (by kernel_rfl) (by kernel_rfl) (fun _ _ _ h => h) hS (Or.inl ⟨by rfl, ?_⟩) ?_
  rotate_left
  · intro W hW
    skip
    clear hW
    simp only [List.getElem_cons_zero, List.getElem_cons_succ]
    go_simp
    first | done | with_reducible rfl
  simp only [List.getElem_cons_zero, List.getElem_cons_succ, Act.put, List.setIfInBounds_toArray, List.set_cons_zero, List.set_cons_succ]
  refine call_at 1 (by decide) (Pi := (fun vv _ => vv = .int .i64 ou)) (by kernel_rfl) (by rfl) (by simp only [List.getElem_cons_zero, List.getElem_cons_succ]; go_simp; first | done | rfl | exact ⟨rfl, rfl⟩) (call_one SQ.mono hS (C1.out _ (HUP.out _ hS))) ?_
  clear hS
  rintro w1 u hS rfl
  simp only [List.getElem_cons_zero, List.getElem_cons_succ, Act.put, List.setIfInBounds_toArray, List.set_cons_zero, List.set_cons_succ]
  refine call_at 4 (by decide) (Pi := (fun vv _ => vv = .int .i64 sg)) (by kernel_rfl) (by rfl) (by simp only [List.getElem_cons_zero, List.getElem_cons_succ]; go_simp; first | done | rfl | exact ⟨rfl, rfl⟩) (call_one SQ.mono hS (C2.out _ (HUP.out _ hS))) ?_
  clear hS
  rintro w2 u hS rfl
  simp only [List.getElem_cons_zero, List.getElem_cons_succ, Act.put, List.setIfInBounds_toArray, List.set_cons_zero, List.set_cons_succ]
  refine call_at 5 (by decide) (Pi := (fun vv _ => vv = .int .i64 rt)) (by kernel_rfl) (by rfl) (by simp only [List.getElem_cons_zero, List.getElem_cons_succ]; go_simp; first | done | rfl | exact ⟨rfl, rfl⟩) (call_one SQ.mono hS (C3.out _)) ?_
  clear hS
  rintro w3 u hS rfl
  simp only [List.getElem_cons_zero, List.getElem_cons_succ, Act.put, List.setIfInBounds_toArray, List.set_cons_zero, List.set_cons_succ]
  refine call_at 6 (by decide) (Pi := (fun vv _ => vv = .tuple #[.int .i64 v, .int .i64 c])) (by kernel_rfl) (by rfl) (by simp only [List.getElem_cons_zero, List.getElem_cons_succ]; go_simp; first | done | rfl | exact ⟨rfl, rfl⟩) (call_one SQ.mono hS (C4.out _ (HUP.out _ hS))) ?_
  clear hS
  rintro w4 u hS rfl
  simp only [List.getElem_cons_zero, List.getElem_cons_succ, Act.put, List.setIfInBounds_toArray, List.set_cons_zero, List.set_cons_succ]
  refine take_at 7 (by decide) (v := ?_) (by kernel_rfl) (by kernel_rfl) (by kernel_rfl) (fun _ _ _ h => h) hS (Or.inl ⟨by rfl, ?_⟩) ?_
  rotate_left
  · intro W hW
    skip
    clear hW
    simp only [List.getElem_cons_zero, List.getElem_cons_succ]
    go_simp
    first | done | with_reducible rfl
  simp only [List.getElem_cons_zero, List.getElem_cons_succ, Act.put, List.setIfInBounds_toArray, List.set_cons_zero, List.set_cons_succ]
  refine take_at 8 (by decide) (v := ?_) (by kernel_rfl) (by kernel_rfl) (by kernel_rfl) (fun _ _ _ h => h) hS (Or.inl ⟨by rfl, ?_⟩) ?_
  rotate_left
  · intro W hW
    skip
    clear hW
    simp only [List.getElem_cons_zero, List.getElem_cons_succ]
    go_simp
    first | done | with_reducible rfl
  simp only [List.getElem_cons_zero, List.getElem_cons_succ, Act.put, List.setIfInBounds_toArray, List.set_cons_zero, List.set_cons_succ]
  refine take_at 9 (by decide) (v := ?_) (by kernel_rfl) (by kernel_rfl) (by kernel_rfl) (fun _ _ _ h => h) hS (Or.inl ⟨by rfl, ?_⟩) ?_
  rotate_left
  · intro W hW
    skip
    clear hW
    simp only [List.getElem_cons_zero, List.getElem_cons_succ]
    go_simp
    first | done | with_reducible rfl
  simp only [List.getElem_cons_zero, List.getElem_cons_succ, Act.put, List.setIfInBounds_toArray, List.set_cons_zero, List.set_cons_succ]
  refine take_at 10 (by decide) (v := ?_) (by kernel_rfl) (by kernel_rfl) (by kernel_rfl) (fun _ _ _ h => h) hS (Or.inl ⟨by rfl, ?_⟩) ?_
  rotate_left
  · intro W hW
    skip
    clear hW
    simp only [List.getElem_cons_zero, List.getElem_cons_succ]
    go_simp
    first | done | with_reducible rfl
  simp only [List.getElem_cons_zero, List.getElem_cons_succ, Act.put, List.setIfInBounds_toArray, List.set_cons_zero, List.set_cons_succ]
  refine wpAnyH_done (by kernel_rfl) ?_ _
  go_wp2_with fail
  go_ret2
  exact ⟨by rw [HE.out.1, HE.out.2]; rfl, HUP.out _ hS⟩
end Go.Proofs.YtjicnlgndkcahaaDoor.Ln
