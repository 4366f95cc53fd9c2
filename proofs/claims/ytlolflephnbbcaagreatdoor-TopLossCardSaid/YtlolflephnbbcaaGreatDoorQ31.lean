/-
  Parts of the proof: Amc, Ar2, Pv2, Pv3, Ldm, Pvr.
-/
import Derived.Test.YtlolflephnbbcaaGreatDoorQ16
import Derived.Test.YtlolflephnbbcaaGreatDoorQ07
import Derived.Test.YtlolflephnbbcaaGreatDoorQ12
import Derived.Test.YtlolflephnbbcaaGreatDoorQ32
import Derived.Test.YtlolflephnbbcaaGreatDoorQ06
import Derived.Test.YtlolflephnbbcaaGreatDoorQ11
import Derived.Test.YtlolflephnbbcaaGreatDoorQ15
import Derived.Test.YtlolflephnbbcaaGreatDoorQ08
import Derived.Test.YtlolflephnbbcaaGreatDoorQ09
namespace Go.Proofs.YtlolflephnbbcaaGreatDoor.Ln
open Go.RowKit
open Go.Proofs.YtlolflephnbbcaaGreatDoor

noncomputable def chgG (l : Lo) (on : Int) : Int := penV l l.chg on
noncomputable def chgM (l : Lo) (on : Int) : Int := Rd.amV (chgG l on) 6
noncomputable def chgE (l : Lo) (on : Int) : Int := if chk l = 0 ∧ dayB on = true then (if l.st = 1 then (if on < l.chg then 10 else if penE l l.chg on = 0 then (if Rd.amE (chgG l on) 6 = 0 ∧ l.pen + chgM l on ≤ 1000000000000 then 0 else 6) else 1) else 17) else 1
noncomputable def chgN (l : Lo) (on : Int) : Int := if chgE l on = 0 then chgM l on else 0
def Lo.chd (l : Lo) (n on : Int) : Lo := { l with pen := l.pen + n, chg := on }
def zTmA : Tm := ⟨0, 0, 0, 0, 0, 0, 0, 0, 0, 0, .empty, .empty⟩
def zLoA : Lo := ⟨0, 0, 0, 0, 0, 0, 0, 0, 0, 0, 0, zTmA, [], []⟩
noncomputable def chgL (l : Lo) (on : Int) : Lo := if chgE l on = 0 then l.chd (chgM l on) on else zLoA
theorem Ok.chd {l : Lo} (h : Ok l) (hst : l.st = 1) {n on : Int} (hn : 0 ≤ n) (hm : l.pen + n ≤ 1000000000000) (hd : dayB on = true) : Ok (l.chd n on) := by
 have hp := amt_iff.1 h.pen
 have hl : leftB l = true := by
  rcases h.left with h3 | h3
  ·omega
  ·rw [h3, hst]; rfl
 have hl' : leftB (l.chd n on) = true := by
  rw [left_iff] at hl ⊢
  show l.pp ≠ P l.ds ∨ l.pi ≠ I l.ds ∨ l.fee ≠ 0 ∨ l.pen + n ≠ 0
  omega
 exact { id := h.id, ac := h.ac, st1 := h.st1, st3 := h.st3, pp := h.pp, pi := h.pi, rcv := h.rcv, chg := hd, rp := h.rp, rf := h.rf, n1 := h.n1, n2 := h.n2, cs := h.cs, fee := h.fee, pen := amt_iff.2 ⟨by show 0 ≤ l.pen + n; omega, hm⟩, prov := h.prov, loss := h.loss, each := h.each, ord := h.ord, pp' := h.pp', pi' := h.pi', rcv' := h.rcv', tm := h.tm, left := .inr (by rw [hl']; show true = decide (l.st = 1); rw [hst]; rfl), los := h.los }
open Go.Proofs.YtlolflephnbbcaaGreatDoor.Wm Go.Proofs.YtlolflephnbbcaaGreatDoor.Wt
set_option linter.unusedSimpArgs false

def PenP (l : Lo) (a b : Int) (w : World) (e : Ending) (w' : World) : Prop := e = .returned (.tuple #[.agg #[.int .i64 (hi (penV l a b)), .int .u64 (lo (penV l a b))], .int .i64 (penE l a b)]) ∧ Below w.heap.size w w'
structure PenD (l : Lo) (d : Int) : Prop where
 a : I64 (ovL l d)
 b : I64 l.tm.pen
 m : I128 (ovL l d * l.tm.pen)
 v : I64 (Cal.wei 3 d)
 x : I128 (Ln.penT l d)
def penR (w : World) (l : Lo) (da ca : Option Addr) (dk ck : Nat) (a b : Int) (g8 : Nat) (g : Nat) (s9 : Value) (W : World) : Prop := ∃ k : Nat, k + g = (b - a).toNat ∧ s9 = .int .i64 (a + k) ∧ Bk.Blk W w.heap.size #[.int .i64 (l).id, .int .i64 (l).ac, .int .i64 (l).st, .int .i64 (l).pp, .int .i64 (l).pi, .int .i64 (l).fee, .int .i64 (l).pen, .int .i64 (l).chg, .int .i64 (l).prov, .int .i64 (l).loss, .int .i64 (l).rcv, .int .i64 ((l).tm).me, .int .i64 ((l).tm).pr, .int .i64 ((l).tm).ppm, .int .i64 ((l).tm).stt, .int .i64 ((l).tm).ev, .int .i64 ((l).tm).ct, .int .i64 ((l).tm).ba, .int .i64 ((l).tm).mo, .int .i64 ((l).tm).pen, .int .i64 ((l).tm).fe, .string ((l).tm).cal, .string ((l).tm).cur, .slice da (l).ds.length dk, .slice ca (l).cs.length ck] 32 ∧
  Bk.Blk W (w.heap.size + 1) #[.int .i64 0, .int .u64 0] 152 ∧ Bk.Blk W g8 #[.int .i64 (hi (Ln.penS l a k)), .int .u64 (lo (Ln.penS l a k))] 152 ∧ Below w.heap.size w W
end Go.Proofs.YtlolflephnbbcaaGreatDoor.Ln
namespace Go.Proofs.YtlolflephnbbcaaGreatDoor.Ln
open Go.RowKit
open Go.Proofs.YtlolflephnbbcaaGreatDoor
set_option linter.unusedSimpArgs false

set_option maxHeartbeats 4000000 in
theorem pstage_any (l : Lo) (da ca : Option Addr) (dk ck : Nat) (on : Int) (w : World) (h : DuesIn w da l.ds) (hC : Ctb w) :
  Calls Tryz.prog 40 #[(.agg #[.int .i64 (l).id, .int .i64 (l).ac, .int .i64 (l).st, .int .i64 (l).pp, .int .i64 (l).pi, .int .i64 (l).fee, .int .i64 (l).pen, .int .i64 (l).chg, .int .i64 (l).prov, .int .i64 (l).loss, .int .i64 (l).rcv, .int .i64 ((l).tm).me, .int .i64 ((l).tm).pr, .int .i64 ((l).tm).ppm, .int .i64 ((l).tm).stt, .int .i64 ((l).tm).ev, .int .i64 ((l).tm).ct, .int .i64 ((l).tm).ba, .int .i64 ((l).tm).mo, .int .i64 ((l).tm).pen, .int .i64 ((l).tm).fe, .string ((l).tm).cal, .string ((l).tm).cur, .slice da (l).ds.length dk, .slice ca (l).cs.length ck]), .int .i64 on] w fun e w' => e = .returned (.int .i64 (stgL l on)) ∧ Below w.heap.size w w' := by
 have b1 : Below w.heap.size w (w.alloc (.cells #[.int .i64 (l).id, .int .i64 (l).ac, .int .i64 (l).st, .int .i64 (l).pp, .int .i64 (l).pi, .int .i64 (l).fee, .int .i64 (l).pen, .int .i64 (l).chg, .int .i64 (l).prov, .int .i64 (l).loss, .int .i64 (l).rcv, .int .i64 ((l).tm).me, .int .i64 ((l).tm).pr, .int .i64 ((l).tm).ppm, .int .i64 ((l).tm).stt, .int .i64 ((l).tm).ev, .int .i64 ((l).tm).ct, .int .i64 ((l).tm).ba, .int .i64 ((l).tm).mo, .int .i64 ((l).tm).pen, .int .i64 ((l).tm).fe, .string ((l).tm).cal, .string ((l).tm).cur, .slice da (l).ds.length dk, .slice ca (l).cs.length ck] 32)) := (Below.refl _ _).alloc (Nat.le_refl _) _
 by_cases hs : l.st = 1
 ·have HST := Lib.hid (show stgL l on = stgB (bkt (daysL l on)) from if_pos hs)
  have g1 : (l.st != 1) = false := by rw [hs]; rfl
  have b2 : Below w.heap.size w ((w.alloc (.cells #[.int .i64 (l).id, .int .i64 (l).ac, .int .i64 (l).st, .int .i64 (l).pp, .int .i64 (l).pi, .int .i64 (l).fee, .int .i64 (l).pen, .int .i64 (l).chg, .int .i64 (l).prov, .int .i64 (l).loss, .int .i64 (l).rcv, .int .i64 ((l).tm).me, .int .i64 ((l).tm).pr, .int .i64 ((l).tm).ppm, .int .i64 ((l).tm).stt, .int .i64 ((l).tm).ev, .int .i64 ((l).tm).ct, .int .i64 ((l).tm).ba, .int .i64 ((l).tm).mo, .int .i64 ((l).tm).pen, .int .i64 ((l).tm).fe, .string ((l).tm).cal, .string ((l).tm).cur, .slice da (l).ds.length dk, .slice ca (l).cs.length ck] 32)).alloc (.cells #[.int .i64 1, .int .i64 1, .int .i64 2, .int .i64 2, .int .i64 3] 142)) := b1.alloc (by simp) _
  have HDY := Lib.hid (days_any l da ca dk ck on _ (h.later b2))
  have hbw := bkt_ways (daysL l on)
  have HBK := Lib.hid (fun (W : World) (hW : Below w.heap.size w W) => bucket_any (daysL l on) W (hC.of hW))
  generalize daysL l on = d at *
  generalize bkt d = b at *
  have HB := Lib.hid (show b = 0 ∨ b = 1 ∨ b = 2 ∨ b = 3 ∨ b = 4 by omega)
  clear hs h hC hbw
  go_enter Tryz.func40, Tryz.ntmps40
  go_wp2_with (refine wpList_load_row rfl 32 _ rfl _ rfl _ _ _ _ Bk.Blk.nw20 Tryz.underlying32 rfl (by kernel_rfl) ?_)
  refine HDY.out.mono ?_
  rintro e w3 ⟨rfl, hb⟩
  have k5 := Bk.Blk.later (g := w.heap.size + 1) hb (Bk.Blk.nw21 (W := w) (o0 := .cells #[.int .i64 (l).id, .int .i64 (l).ac, .int .i64 (l).st, .int .i64 (l).pp, .int .i64 (l).pi, .int .i64 (l).fee, .int .i64 (l).pen, .int .i64 (l).chg, .int .i64 (l).prov, .int .i64 (l).loss, .int .i64 (l).rcv, .int .i64 ((l).tm).me, .int .i64 ((l).tm).pr, .int .i64 ((l).tm).ppm, .int .i64 ((l).tm).stt, .int .i64 ((l).tm).ev, .int .i64 ((l).tm).ct, .int .i64 ((l).tm).ba, .int .i64 ((l).tm).mo, .int .i64 ((l).tm).pen, .int .i64 ((l).tm).fe, .string ((l).tm).cal, .string ((l).tm).cur, .slice da (l).ds.length dk, .slice ca (l).cs.length ck] 32) (cs := #[.int .i64 1, .int .i64 1, .int .i64 2, .int .i64 2, .int .i64 3]) (t := 142))
  have b3 := bl2 hb b2
  have c0 := k5.c0
  have c1 := k5.c1
  have c2 := k5.c2
  have c3 := k5.c3
  have c4 := k5.c4
  clear hb b1 b2 k5
  go_wp2_with fail
  refine (HBK.out _ b3).mono ?_
  rintro e w' ⟨rfl, rfl⟩
  rcases HB.out with rfl | rfl | rfl | rfl | rfl
  ·go_wp2_with fail
   go_ret
   exact ⟨by rw [HST.out]; rfl, b3⟩
  ·go_wp2_with fail
   go_ret
   exact ⟨by rw [HST.out]; rfl, b3⟩
  ·go_wp2_with fail
   go_ret
   exact ⟨by rw [HST.out]; rfl, b3⟩
  ·go_wp2_with fail
   go_ret
   exact ⟨by rw [HST.out]; rfl, b3⟩
  ·go_wp2_with fail
   go_ret
   exact ⟨by rw [HST.out]; rfl, b3⟩
 ·have HST := Lib.hid (show stgL l on = 0 from if_neg hs)
  have g1 : (l.st != 1) = true := bne_iff_ne.2 hs
  clear hs h hC
  go_enter Tryz.func40, Tryz.ntmps40
  go_wp2_with fail
  go_ret
  exact ⟨by rw [HST.out]; rfl, b1⟩

noncomputable def exV (l : Lo) (on : Int) : Int := Rd.pcV (wrap64 (P l.ds - l.pp)) (rteS (stgL l on)) 2
noncomputable def exE (l : Lo) (on : Int) : Int := Rd.pcE (wrap64 (P l.ds - l.pp)) (rteS (stgL l on)) 2
theorem pp_out {a p m : Int} {w w' : World} {e : Ending} (h : Rd.PPost a p m w e w') : e = .returned (.tuple #[.int .i64 (Rd.pcV a p m), .int .i64 (Rd.pcE a p m)]) ∧ Below w.heap.size w w' := h
theorem rte_bd (s : Int) : 0 ≤ rteS s ∧ rteS s ≤ 450000 := by have := rteS_ways s; omega
theorem i64_wrap (n : Int) : Wm.I64 (wrap64 n) := by unfold Wm.I64 wrap64; omega
theorem i64_rte (s : Int) : Wm.I64 (rteS s) := by have := rte_bd s; unfold Wm.I64; omega

set_option maxHeartbeats 4000000 in
theorem expd_any (l : Lo) (da ca : Option Addr) (dk ck : Nat) (on : Int) (w : World) (h : DuesIn w da l.ds) (hC : Ctb w) (hSt : Rd.Stp w) :
  Calls Tryz.prog 16 #[(.agg #[.int .i64 (l).id, .int .i64 (l).ac, .int .i64 (l).st, .int .i64 (l).pp, .int .i64 (l).pi, .int .i64 (l).fee, .int .i64 (l).pen, .int .i64 (l).chg, .int .i64 (l).prov, .int .i64 (l).loss, .int .i64 (l).rcv, .int .i64 ((l).tm).me, .int .i64 ((l).tm).pr, .int .i64 ((l).tm).ppm, .int .i64 ((l).tm).stt, .int .i64 ((l).tm).ev, .int .i64 ((l).tm).ct, .int .i64 ((l).tm).ba, .int .i64 ((l).tm).mo, .int .i64 ((l).tm).pen, .int .i64 ((l).tm).fe, .string ((l).tm).cal, .string ((l).tm).cur, .slice da (l).ds.length dk, .slice ca (l).cs.length ck]), .int .i64 on] w fun e w' => e = .returned (.tuple #[.int .i64 (exV l on), .int .i64 (exE l on)]) ∧ Below w.heap.size w w' := by
 have b1 : Below w.heap.size w (w.alloc (.cells #[.int .i64 (l).id, .int .i64 (l).ac, .int .i64 (l).st, .int .i64 (l).pp, .int .i64 (l).pi, .int .i64 (l).fee, .int .i64 (l).pen, .int .i64 (l).chg, .int .i64 (l).prov, .int .i64 (l).loss, .int .i64 (l).rcv, .int .i64 ((l).tm).me, .int .i64 ((l).tm).pr, .int .i64 ((l).tm).ppm, .int .i64 ((l).tm).stt, .int .i64 ((l).tm).ev, .int .i64 ((l).tm).ct, .int .i64 ((l).tm).ba, .int .i64 ((l).tm).mo, .int .i64 ((l).tm).pen, .int .i64 ((l).tm).fe, .string ((l).tm).cal, .string ((l).tm).cur, .slice da (l).ds.length dk, .slice ca (l).cs.length ck] 32)) := (Below.refl _ _).alloc (Nat.le_refl _) _
 have C1 := Lib.hid (fun (W : World) (hW : Below w.heap.size w W) => out_any l da ca dk ck W (h.later hW))
 have C2 := Lib.hid (fun (W : World) (hW : Below w.heap.size w W) => pstage_any l da ca dk ck on W (h.later hW) (hC.of hW))
 have C3 := Lib.hid (fun (W : World) => prate_any (stgL l on) W)
 have C4 := Lib.hid (fun (W : World) (hW : Below w.heap.size w W) => (Rd.percent_any (wrap64 (P l.ds - l.pp)) (rteS (stgL l on)) 2 W (hSt.of hW) (i64_wrap _) (i64_rte _)).mono fun _ _ h => pp_out h)
 have hS0 : SQ (w.alloc (.cells #[.int .i64 (l).id, .int .i64 (l).ac, .int .i64 (l).st, .int .i64 (l).pp, .int .i64 (l).pi, .int .i64 (l).fee, .int .i64 (l).pen, .int .i64 (l).chg, .int .i64 (l).prov, .int .i64 (l).loss, .int .i64 (l).rcv, .int .i64 ((l).tm).me, .int .i64 ((l).tm).pr, .int .i64 ((l).tm).ppm, .int .i64 ((l).tm).stt, .int .i64 ((l).tm).ev, .int .i64 ((l).tm).ct, .int .i64 ((l).tm).ba, .int .i64 ((l).tm).mo, .int .i64 ((l).tm).pen, .int .i64 ((l).tm).fe, .string ((l).tm).cal, .string ((l).tm).cur, .slice da (l).ds.length dk, .slice ca (l).cs.length ck] 32)) w.heap.size #[.int .i64 (l).id, .int .i64 (l).ac, .int .i64 (l).st, .int .i64 (l).pp, .int .i64 (l).pi, .int .i64 (l).fee, .int .i64 (l).pen, .int .i64 (l).chg, .int .i64 (l).prov, .int .i64 (l).loss, .int .i64 (l).rcv, .int .i64 ((l).tm).me, .int .i64 ((l).tm).pr, .int .i64 ((l).tm).ppm, .int .i64 ((l).tm).stt, .int .i64 ((l).tm).ev, .int .i64 ((l).tm).ct, .int .i64 ((l).tm).ba, .int .i64 ((l).tm).mo, .int .i64 ((l).tm).pen, .int .i64 ((l).tm).fe, .string ((l).tm).cal, .string ((l).tm).cur, .slice da (l).ds.length dk, .slice ca (l).cs.length ck] 32 (w.alloc (.cells #[.int .i64 (l).id, .int .i64 (l).ac, .int .i64 (l).st, .int .i64 (l).pp, .int .i64 (l).pi, .int .i64 (l).fee, .int .i64 (l).pen, .int .i64 (l).chg, .int .i64 (l).prov, .int .i64 (l).loss, .int .i64 (l).rcv, .int .i64 ((l).tm).me, .int .i64 ((l).tm).pr, .int .i64 ((l).tm).ppm, .int .i64 ((l).tm).stt, .int .i64 ((l).tm).ev, .int .i64 ((l).tm).ct, .int .i64 ((l).tm).ba, .int .i64 ((l).tm).mo, .int .i64 ((l).tm).pen, .int .i64 ((l).tm).fe, .string ((l).tm).cal, .string ((l).tm).cur, .slice da (l).ds.length dk, .slice ca (l).cs.length ck] 32)).drew := ⟨Bk.Blk.drew Bk.Blk.nw10, (Below.refl _ _).drew⟩
 have HE := Lib.hid (show exV l on = Rd.pcV (wrap64 (P l.ds - l.pp)) (rteS (stgL l on)) 2 ∧ exE l on = Rd.pcE (wrap64 (P l.ds - l.pp)) (rteS (stgL l on)) 2 from ⟨rfl, rfl⟩)
 have hup : ∀ W, SQ (w.alloc (.cells #[.int .i64 (l).id, .int .i64 (l).ac, .int .i64 (l).st, .int .i64 (l).pp, .int .i64 (l).pi, .int .i64 (l).fee, .int .i64 (l).pen, .int .i64 (l).chg, .int .i64 (l).prov, .int .i64 (l).loss, .int .i64 (l).rcv, .int .i64 ((l).tm).me, .int .i64 ((l).tm).pr, .int .i64 ((l).tm).ppm, .int .i64 ((l).tm).stt, .int .i64 ((l).tm).ev, .int .i64 ((l).tm).ct, .int .i64 ((l).tm).ba, .int .i64 ((l).tm).mo, .int .i64 ((l).tm).pen, .int .i64 ((l).tm).fe, .string ((l).tm).cal, .string ((l).tm).cur, .slice da (l).ds.length dk, .slice ca (l).cs.length ck] 32)) w.heap.size #[.int .i64 (l).id, .int .i64 (l).ac, .int .i64 (l).st, .int .i64 (l).pp, .int .i64 (l).pi, .int .i64 (l).fee, .int .i64 (l).pen, .int .i64 (l).chg, .int .i64 (l).prov, .int .i64 (l).loss, .int .i64 (l).rcv, .int .i64 ((l).tm).me, .int .i64 ((l).tm).pr, .int .i64 ((l).tm).ppm, .int .i64 ((l).tm).stt, .int .i64 ((l).tm).ev, .int .i64 ((l).tm).ct, .int .i64 ((l).tm).ba, .int .i64 ((l).tm).mo, .int .i64 ((l).tm).pen, .int .i64 ((l).tm).fe, .string ((l).tm).cal, .string ((l).tm).cur, .slice da (l).ds.length dk, .slice ca (l).cs.length ck] 32 W → Below w.heap.size w W := fun W hW => bl2 hW.2 b1
 have HUP := Lib.hid hup
 clear hup
 generalize wrap64 (P l.ds - l.pp) = ou at *
 generalize stgL l on = sg at *
 generalize rteS sg = rt at *
 generalize Rd.pcV ou rt 2 = v at *
 generalize Rd.pcE ou rt 2 = c at *
 go_enter Tryz.func16, Tryz.ntmps16
 go_upto_region 1 with fail
 refine wp_region_held_drew (S := SQ (w.alloc (.cells #[.int .i64 (l).id, .int .i64 (l).ac, .int .i64 (l).st, .int .i64 (l).pp, .int .i64 (l).pi, .int .i64 (l).fee, .int .i64 (l).pen, .int .i64 (l).chg, .int .i64 (l).prov, .int .i64 (l).loss, .int .i64 (l).rcv, .int .i64 ((l).tm).me, .int .i64 ((l).tm).pr, .int .i64 ((l).tm).ppm, .int .i64 ((l).tm).stt, .int .i64 ((l).tm).ev, .int .i64 ((l).tm).ct, .int .i64 ((l).tm).ba, .int .i64 ((l).tm).mo, .int .i64 ((l).tm).pen, .int .i64 ((l).tm).fe, .string ((l).tm).cal, .string ((l).tm).cur, .slice da (l).ds.length dk, .slice ca (l).cs.length ck] 32)) w.heap.size #[.int .i64 (l).id, .int .i64 (l).ac, .int .i64 (l).st, .int .i64 (l).pp, .int .i64 (l).pi, .int .i64 (l).fee, .int .i64 (l).pen, .int .i64 (l).chg, .int .i64 (l).prov, .int .i64 (l).loss, .int .i64 (l).rcv, .int .i64 ((l).tm).me, .int .i64 ((l).tm).pr, .int .i64 ((l).tm).ppm, .int .i64 ((l).tm).stt, .int .i64 ((l).tm).ev, .int .i64 ((l).tm).ct, .int .i64 ((l).tm).ba, .int .i64 ((l).tm).mo, .int .i64 ((l).tm).pen, .int .i64 ((l).tm).fe, .string ((l).tm).cal, .string ((l).tm).cur, .slice da (l).ds.length dk, .slice ca (l).cs.length ck] 32) (by kernel_rfl) hS0 (fun hS => ?_)
 clear hS0 b1
 refine take_at 0 (by decide) (by kernel_rfl) (by kernel_rfl) (by kernel_rfl) (fun _ _ _ h => h) hS (yields_load_row (by rfl) 32 (.tmp 2) rfl w.heap.size rfl _ _ _ _ (fun W hW => hW.1) Tryz.underlying32 rfl (by kernel_rfl)) ?_
 simp only [List.getElem_cons_zero, List.getElem_cons_succ, Act.put, List.setIfInBounds_toArray, List.set_cons_zero, List.set_cons_succ]
 refine take_at 2 (by decide) (by kernel_rfl) (by kernel_rfl) (by kernel_rfl) (fun _ _ _ h => h) hS (yields_load_row (by rfl) 32 (.tmp 2) rfl w.heap.size rfl _ _ _ _ (fun W hW => hW.1) Tryz.underlying32 rfl (by kernel_rfl)) ?_
 simp only [List.getElem_cons_zero, List.getElem_cons_succ, Act.put, List.setIfInBounds_toArray, List.set_cons_zero, List.set_cons_succ]
 refine take_at 3 (by decide) (v := ?_) (by kernel_rfl) (by kernel_rfl) (by kernel_rfl) (fun _ _ _ h => h) hS (Or.inl ⟨by rfl, ?_⟩) ?_
 rotate_left
 ·intro W hW
  skip
  clear hW
  simp only [List.getElem_cons_zero, List.getElem_cons_succ]
  go_simp
  first | done | with_reducible rfl
 simp only [List.getElem_cons_zero, List.getElem_cons_succ, Act.put, List.setIfInBounds_toArray, List.set_cons_zero, List.set_cons_succ]
 refine call_at 1 (by decide) (Pi := (fun vv _ => vv = .int .i64 ou)) (by kernel_rfl) (by rfl) (by simp only [List.getElem_cons_zero, List.getElem_cons_succ]; go_simp; first | done | rfl | exact ⟨rfl, rfl⟩) (call_one SQ.mono hS (C1.out _ (HUP.out _ hS))) ?_
 clear hS
 rintro w1 u hS rfl
 simp only [List.getElem_cons_zero, List.getElem_cons_succ, Act.put, List.setIfInBounds_toArray, List.set_cons_zero, List.set_cons_succ]
 refine call_at 4 (by decide) (Pi := (fun vv _ => vv = .int .i64 sg)) (by kernel_rfl) (by rfl) (by simp only [List.getElem_cons_zero, List.getElem_cons_succ]; go_simp; first | done | rfl | exact ⟨rfl, rfl⟩) (call_one SQ.mono hS (C2.out _ (HUP.out _ hS))) ?_
 clear hS
 rintro w2 u hS rfl
 simp only [List.getElem_cons_zero, List.getElem_cons_succ, Act.put, List.setIfInBounds_toArray, List.set_cons_zero, List.set_cons_succ]
 refine call_at 5 (by decide) (Pi := (fun vv _ => vv = .int .i64 rt)) (by kernel_rfl) (by rfl) (by simp only [List.getElem_cons_zero, List.getElem_cons_succ]; go_simp; first | done | rfl | exact ⟨rfl, rfl⟩) (call_one SQ.mono hS (C3.out _)) ?_
 clear hS
 rintro w3 u hS rfl
 simp only [List.getElem_cons_zero, List.getElem_cons_succ, Act.put, List.setIfInBounds_toArray, List.set_cons_zero, List.set_cons_succ]
 refine call_at 6 (by decide) (Pi := (fun vv _ => vv = .tuple #[.int .i64 v, .int .i64 c])) (by kernel_rfl) (by rfl) (by simp only [List.getElem_cons_zero, List.getElem_cons_succ]; go_simp; first | done | rfl | exact ⟨rfl, rfl⟩) (call_one SQ.mono hS (C4.out _ (HUP.out _ hS))) ?_
 clear hS
 rintro w4 u hS rfl
 simp only [List.getElem_cons_zero, List.getElem_cons_succ, Act.put, List.setIfInBounds_toArray, List.set_cons_zero, List.set_cons_succ]
 refine take_at 7 (by decide) (v := ?_) (by kernel_rfl) (by kernel_rfl) (by kernel_rfl) (fun _ _ _ h => h) hS (Or.inl ⟨by rfl, ?_⟩) ?_
 rotate_left
 ·intro W hW
  skip
  clear hW
  simp only [List.getElem_cons_zero, List.getElem_cons_succ]
  go_simp
  first | done | with_reducible rfl
 simp only [List.getElem_cons_zero, List.getElem_cons_succ, Act.put, List.setIfInBounds_toArray, List.set_cons_zero, List.set_cons_succ]
 refine take_at 8 (by decide) (v := ?_) (by kernel_rfl) (by kernel_rfl) (by kernel_rfl) (fun _ _ _ h => h) hS (Or.inl ⟨by rfl, ?_⟩) ?_
 rotate_left
 ·intro W hW
  skip
  clear hW
  simp only [List.getElem_cons_zero, List.getElem_cons_succ]
  go_simp
  first | done | with_reducible rfl
 simp only [List.getElem_cons_zero, List.getElem_cons_succ, Act.put, List.setIfInBounds_toArray, List.set_cons_zero, List.set_cons_succ]
 refine take_at 9 (by decide) (v := ?_) (by kernel_rfl) (by kernel_rfl) (by kernel_rfl) (fun _ _ _ h => h) hS (Or.inl ⟨by rfl, ?_⟩) ?_
 rotate_left
 ·intro W hW
  skip
  clear hW
  simp only [List.getElem_cons_zero, List.getElem_cons_succ]
  go_simp
  first | done | with_reducible rfl
 simp only [List.getElem_cons_zero, List.getElem_cons_succ, Act.put, List.setIfInBounds_toArray, List.set_cons_zero, List.set_cons_succ]
 refine take_at 10 (by decide) (v := ?_) (by kernel_rfl) (by kernel_rfl) (by kernel_rfl) (fun _ _ _ h => h) hS (Or.inl ⟨by rfl, ?_⟩) ?_
 rotate_left
 ·intro W hW
  skip
  clear hW
  simp only [List.getElem_cons_zero, List.getElem_cons_succ]
  go_simp
  first | done | with_reducible rfl
 simp only [List.getElem_cons_zero, List.getElem_cons_succ, Act.put, List.setIfInBounds_toArray, List.set_cons_zero, List.set_cons_succ]
 refine wpAnyH_done (by kernel_rfl) ?_ _
 go_wp2_with fail
 go_ret2
 exact ⟨by rw [HE.out.1, HE.out.2]; rfl, HUP.out _ hS⟩

def longT (t : Tm) : Bool := decide (100 < t.cal.size) || decide (100 < t.cur.size)
def great38 (l : Lo) : Bool := decide (260 < l.ds.length) || decide (70 < l.cs.length) || longT l.tm || l.cs.any (fun c => longT c.old)
def grR (w : World) (l : Lo) (da ca : Option Addr) (dk ck : Nat) (g : Nat) (s3 : Value) (W : World) : Prop := ∃ k : Nat, k + g = l.cs.length ∧ s3 = .int .i64 k ∧ (∀ j, j < k → longT l.cs[j]!.old = false) ∧ Bk.Blk W w.heap.size #[.int .i64 (l).id, .int .i64 (l).ac, .int .i64 (l).st, .int .i64 (l).pp, .int .i64 (l).pi, .int .i64 (l).fee, .int .i64 (l).pen, .int .i64 (l).chg, .int .i64 (l).prov, .int .i64 (l).loss, .int .i64 (l).rcv, .int .i64 ((l).tm).me, .int .i64 ((l).tm).pr, .int .i64 ((l).tm).ppm, .int .i64 ((l).tm).stt, .int .i64 ((l).tm).ev, .int .i64 ((l).tm).ct, .int .i64 ((l).tm).ba, .int .i64 ((l).tm).mo, .int .i64 ((l).tm).pen, .int .i64 ((l).tm).fe, .string ((l).tm).cal, .string ((l).tm).cur, .slice da (l).ds.length dk, .slice ca (l).cs.length ck] 32 ∧ Below w.heap.size w W
end Go.Proofs.YtlolflephnbbcaaGreatDoor.Ln
namespace Go.Proofs.YtlolflephnbbcaaGreatDoor.Ln
open Go Go.RowKit
open Go.Proofs.YtlolflephnbbcaaGreatDoor
open Go.Proofs.YtlolflephnbbcaaGreatDoor.Kl (Cl blE blV bl_facts bl_len bl_each bl_ord bl_P bl_I)

noncomputable def disE (id ac : Int) (t : Tm) (c : Cl) : Int := if id < 1 ∨ ac < 1000 then 1 else blE t c
noncomputable def disO (id ac : Int) (t : Tm) (c : Cl) : Lo := ⟨id, ac, 1, 0, 0, 0, 0, t.stt, 0, 0, 0, t, blV t c, []⟩
noncomputable def disL (id ac : Int) (t : Tm) (c : Cl) : Lo := if disE id ac t c = 0 then disO id ac t c else zLo
theorem dis_parts {id ac : Int} {t : Tm} {c : Cl} (h : disE id ac t c = 0) : 1 ≤ id ∧ 1000 ≤ ac ∧ blE t c = 0 := by
 unfold disE at h
 split at h
 ·cases h
 ·exact ⟨by omega, by omega, h⟩
theorem dis_chk {id ac : Int} {t : Tm} {c : Cl} (h : disE id ac t c = 0) : chk (disL id ac t c) = 0 := by
 obtain ⟨h1, h2, hb⟩ := dis_parts h
 obtain ⟨_, ht, _, _, _⟩ := bl_facts hb
 have hl := bl_len hb
 have hct := ht.ct
 have hst := ht.stt
 have hpr := ht.pr
 have hpn := ht.pn
 have hfe := ht.fe
 have hP := bl_P hb
 have hI := (bl_I hb).1
 unfold disL
 rw [if_pos h]
 have hr : rangedB (disO id ac t c) = true := by
  unfold rangedB disO dayB rateB amt
  simp only [Bool.and_eq_true, decide_eq_true_eq, bl_each hb, hl, List.length_nil, and_true]
  omega
 have ho : ordB (disO id ac t c).ds = true := bl_ord hb
 have hs : sumsB (disO id ac t c) = true := by
  have hlf : leftB (disO id ac t c) = true := by
   unfold leftB disO
   rw [hP, decide_eq_true (by omega : (0 : Int) ≠ t.pr)]
   rfl
  unfold sumsB
  rw [hlf]
  unfold disO
  simp only [Bool.and_eq_true, Bool.or_eq_true, decide_eq_true_eq, beq_iff_eq, hP, List.length_nil]
  refine ⟨⟨⟨⟨⟨by omega, hI⟩, by omega⟩, .inr trivial⟩, .inr (by simp)⟩, .inr ⟨trivial, trivial⟩⟩
 unfold chk
 rw [hr, ho, hs]
 rfl
end Go.Proofs.YtlolflephnbbcaaGreatDoor.Ln
namespace Go.Proofs.YtlolflephnbbcaaGreatDoor.Ln
open Go.RowKit
open Go.Proofs.YtlolflephnbbcaaGreatDoor

theorem dys_mono {pp pi on later : Int} (h1 : on ≤ later) (h0 : 0 ≤ on) (h2 : later ≤ 73048) : ∀ (ds : List Du) (p i : Int), ds.Pairwise (fun a b => a.day ≤ b.day) → (∀ d ∈ ds, 0 ≤ d.day ∧ d.day ≤ 73048) → 0 ≤ dys pp pi on ds p i ∧ dys pp pi on ds p i ≤ dys pp pi later ds p i
 | [], _, _, _, _ => ⟨Int.le_refl _, Int.le_refl _⟩
 | d :: ds, p, i, hs, hd => by
  have hdd := hd d List.mem_cons_self
  rw [List.pairwise_cons] at hs
  have ih := dys_mono (pp := pp) (pi := pi) h1 h0 h2 ds (wrap64 (p + d.pr)) (wrap64 (i + d.it)) hs.2 (fun x hx => hd x (List.mem_cons_of_mem _ hx))
  unfold dys
  by_cases hc : pp < wrap64 (p + d.pr) ∨ pi < wrap64 (i + d.it)
  ·by_cases ho : d.day ≤ on
   ·rw [if_pos ⟨ho, hc⟩, if_pos ⟨by omega, hc⟩, wrap_in (by omega) (by omega), wrap_in (by omega) (by omega)]
    omega
   ·rw [if_neg (fun hh => ho hh.1), dys_far ds _ _ (fun x hx => by have := hs.1 x hx; omega)]
    by_cases hl : d.day ≤ later
    ·rw [if_pos ⟨hl, hc⟩, wrap_in (by omega) (by omega)]
     omega
    ·rw [if_neg (fun hh => hl hh.1), dys_far ds _ _ (fun x hx => by have := hs.1 x hx; omega)]
     omega
  ·rw [if_neg (fun hh => hc hh.2), if_neg (fun hh => hc hh.2)]
   exact ih
theorem Ok.days {l : Lo} (h : Ok l) {on later : Int} (h1 : on ≤ later) (h0 : 0 ≤ on) (h2 : later ≤ 73048) : 0 ≤ daysL l on ∧ daysL l on ≤ daysL l later :=
 dys_mono h1 h0 h2 l.ds 0 0 (ord_pw h.ord) h.day
theorem up_rd {x : Int} (hx : 0 ≤ x) : x ≤ Rd.rd x 1000000 2 * 1000000 ∧ Rd.rd x 1000000 2 * 1000000 < x + 1000000 := by
 have h1 := Int.mul_ediv_add_emod x 1000000
 by_cases h : 0 < x % 1000000
 ·rw [Rd.rd_step h]
  have hm : Rd.moreI (decide (x < 0)) (decide (x / 1000000 % 2 = 1)) (x % 1000000) 1000000 2 = 1 := by
   unfold Rd.moreI Rd.upB
   rw [decide_eq_false (show ¬ x < 0 by omega)]
   rfl
  rw [hm]
  omega
 ·rw [Rd.rd_exact h]
  omega
theorem up_pc {a p : Int} (ha : 0 ≤ a) (ha2 : a ≤ 1000000000000) (hp : 0 ≤ p) (hp2 : p ≤ 450000) : Rd.pcE a p 2 = 0 ∧ Rd.pcV a p 2 = Rd.rd (a * p) 1000000 2 ∧ 0 ≤ a * p ∧ a * p ≤ a * 450000 := by
 have h0 : 0 ≤ a * p := Int.mul_nonneg ha hp
 have h1 : a * p ≤ a * 450000 := Int.mul_le_mul_of_nonneg_left hp2 ha
 have hb := up_rd h0
 have hk : Rd.rok 1000000 2 := ⟨by omega, by omega, by omega⟩
 have hg : Rd.gd a ∧ 0 ≤ p ∧ p ≤ 1000000 := ⟨⟨by omega, by omega⟩, by omega, by omega⟩
 unfold Rd.pcE Rd.pcV
 rw [if_pos hg, if_pos hg, (Rd.rd_yes hk).1, (Rd.rd_yes hk).2]
 generalize a * p = x at *
 have hi : Wm.I64 (Rd.rd x 1000000 2) := by unfold Wm.I64; omega
 exact ⟨by rw [show Wt.iin (Rd.rd x 1000000 2) = true from decide_eq_true hi]; rfl, if_pos hi, h0, h1⟩
theorem Ok.out0 {l : Lo} (h : Ok l) : wrap64 (P l.ds - l.pp) = P l.ds - l.pp ∧ 0 ≤ P l.ds - l.pp := by
 have h1 := h.pp
 have h2 := h.pp'
 have : P l.ds ≤ 9223372036854775807 := by unfold P wrap64; omega
 exact ⟨wrap_in (by omega) (by omega), by omega⟩
theorem ex_ok {l : Lo} (h : Ok l) (hg : Rd.gd (wrap64 (P l.ds - l.pp))) (on : Int) : exE l on = 0 ∧ 0 ≤ exV l on ∧ exV l on ≤ wrap64 (P l.ds - l.pp) := by
 have h0 := h.out0
 unfold exE exV
 rw [h0.1] at hg ⊢
 have hr := rte_bd (stgL l on)
 obtain ⟨e1, e2, e3, e4⟩ := up_pc h0.2 hg.2 hr.1 hr.2
 have hb := up_rd e3
 rw [e1, e2]
 generalize P l.ds - l.pp = a at *
 generalize a * rteS (stgL l on) = x at *
 generalize Rd.rd x 1000000 2 = r at *
 refine ⟨rfl, by omega, by omega⟩
end Go.Proofs.YtlolflephnbbcaaGreatDoor.Ln
