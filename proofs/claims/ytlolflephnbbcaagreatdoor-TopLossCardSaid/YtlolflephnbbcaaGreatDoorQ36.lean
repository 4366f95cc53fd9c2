/-
  Parts of the proof: B23, B24.
-/
import Derived.Test.YtlolflephnbbcaaGreatDoorQ33
import Derived.Test.YtlolflephnbbcaaGreatDoorQ35
import Derived.Deep.CutRange
import Derived.Test.YtlolflephnbbcaaGreatDoorQ16
namespace Go.Proofs.YtlolflephnbbcaaGreatDoor.Ln
open Go Go.RowKit
open Go.Proofs.YtlolflephnbbcaaGreatDoor
set_option linter.unusedSimpArgs false
set_option linter.unusedVariables false
set_option maxRecDepth 100000
set_option maxHeartbeats 16000000 in
theorem cln_loan (l : Lo) (da ca : Option Addr) (dk ck : Nat) (w : World) (hl : LoInA w l da ca) (hn : l.ds.length ≤ 100000) (hm : l.cs.length ≤ 100000) :
  Calls Tryz.prog 22 #[(.agg #[.int .i64 (l).id, .int .i64 (l).ac, .int .i64 (l).st, .int .i64 (l).pp, .int .i64 (l).pi, .int .i64 (l).fee, .int .i64 (l).pen, .int .i64 (l).chg, .int .i64 (l).prov, .int .i64 (l).loss, .int .i64 (l).rcv, .int .i64 ((l).tm).me, .int .i64 ((l).tm).pr, .int .i64 ((l).tm).ppm, .int .i64 ((l).tm).stt, .int .i64 ((l).tm).ev, .int .i64 ((l).tm).ct, .int .i64 ((l).tm).ba, .int .i64 ((l).tm).mo, .int .i64 ((l).tm).pen, .int .i64 ((l).tm).fe, .string ((l).tm).cal, .string ((l).tm).cur, .slice da (l).ds.length dk, .slice ca (l).cs.length ck])] w fun e w' => ∃ da' dk' ca' ck', e = .returned (.agg #[.int .i64 (l).id, .int .i64 (l).ac, .int .i64 (l).st, .int .i64 (l).pp, .int .i64 (l).pi, .int .i64 (l).fee, .int .i64 (l).pen, .int .i64 (l).chg, .int .i64 (l).prov, .int .i64 (l).loss, .int .i64 (l).rcv, .int .i64 ((l).tm).me, .int .i64 ((l).tm).pr, .int .i64 ((l).tm).ppm, .int .i64 ((l).tm).stt, .int .i64 ((l).tm).ev, .int .i64 ((l).tm).ct, .int .i64 ((l).tm).ba, .int .i64 ((l).tm).mo, .int .i64 ((l).tm).pen, .int .i64 ((l).tm).fe, .string ((l).tm).cal, .string ((l).tm).cur, .slice da' (l).ds.length dk', .slice ca' (l).cs.length ck']) ∧ LoInA w' l da' ca' ∧ ((∀ ad, da' = some ad → w.heap.size ≤ ad.block) ∧ (∀ ad, ca' = some ad → w.heap.size ≤ ad.block)) ∧ Below w.heap.size w w' := by
 have m0 : MSt w ((w.alloc (.cells #[.int .i64 (l).id, .int .i64 (l).ac, .int .i64 (l).st, .int .i64 (l).pp, .int .i64 (l).pi, .int .i64 (l).fee, .int .i64 (l).pen, .int .i64 (l).chg, .int .i64 (l).prov, .int .i64 (l).loss, .int .i64 (l).rcv, .int .i64 ((l).tm).me, .int .i64 ((l).tm).pr, .int .i64 ((l).tm).ppm, .int .i64 ((l).tm).stt, .int .i64 ((l).tm).ev, .int .i64 ((l).tm).ct, .int .i64 ((l).tm).ba, .int .i64 ((l).tm).mo, .int .i64 ((l).tm).pen, .int .i64 ((l).tm).fe, .string ((l).tm).cal, .string ((l).tm).cur, .slice da (l).ds.length dk, .slice ca (l).cs.length ck] 32)).alloc (.cells Zc 32)) Zc l da ca dk ck := ⟨Bk.Blk.nw20, Bk.Blk.nw21, ((Below.refl _ _).alloc (Nat.le_refl _) _).alloc (by simp) _⟩
 have HL := Lib.hid hl
 have HN := Lib.hid (And.intro hn hm)
 clear hl hn hm
 go_enter Tryz.func22, Tryz.ntmps22
 go_upto_region 1 with fail
 change Code.wp _ _ _ _ ((w.alloc (.cells #[.int .i64 (l).id, .int .i64 (l).ac, .int .i64 (l).st, .int .i64 (l).pp, .int .i64 (l).pi, .int .i64 (l).fee, .int .i64 (l).pen, .int .i64 (l).chg, .int .i64 (l).prov, .int .i64 (l).loss, .int .i64 (l).rcv, .int .i64 ((l).tm).me, .int .i64 ((l).tm).pr, .int .i64 ((l).tm).ppm, .int .i64 ((l).tm).stt, .int .i64 ((l).tm).ev, .int .i64 ((l).tm).ct, .int .i64 ((l).tm).ba, .int .i64 ((l).tm).mo, .int .i64 ((l).tm).pen, .int .i64 ((l).tm).fe, .string ((l).tm).cal, .string ((l).tm).cur, .slice da (l).ds.length dk, .slice ca (l).cs.length ck] 32)).alloc (.cells Zc 32))
 generalize ((w.alloc (.cells _ 32)).alloc (.cells Zc 32)) = w1 at *
 have m3d := m0.drew
 clear m0
 have HCD := Lib.hid (fun (W : World) (hb : Below w.heap.size w W) => cln_due da dk l.ds W (dues_of_row (by have := HN.out.1; omega) (HL.out.later hb).d) HN.out.1)
 have HCC := Lib.hid (fun (W : World) (hb : Below w.heap.size w W) => cln_chg ca ck l.cs W (HL.out.later hb).c HN.out.2)
 have y1 := m3d.k.c23
 have y2 := m3d.k.c24
 go_cut [] from 3 to 10 (MCl w Zc l)
 case first =>
  go_region_with (first | (go_at_call 17; refine (HCD.out _ (by first | exact m3d.b | exact hP2.b)).mono ?_; rintro e wa ⟨a1, c1, rfl, hr1, hf1, hb1⟩; (first | have hP1 := hP2.later hb1 | have hP1 := m3d.later hb1); have z1 := hP1.k.c23; have z2 := hP1.k.c24; have z3 := hP1.k.f23; have z4 := hP1.k.f24) | (go_at_call 18; refine (HCC.out _ (by first | exact m3d.b | exact hP1.b)).mono ?_; rintro e wb ⟨a2, c2, rfl, hr2, hf2, hb2⟩; (first | have hP2 := hP1.later hb2 | have hP2 := m3d.later hb2); have y1 := hP2.k.c23; have y2 := hP2.k.c24; have y3 := hP2.k.f23; have y4 := hP2.k.f24))
  all_goals
   go_wp2_with fail
   go_meet
   case rel => first | exact mcl_fin hP2 (hr1.later hb2) hr2 hf1 hf2 m3d.sz hP1.sz | exact mcl_fin hP1 hr1 (hr2.later hb1) hf1 hf2 hP2.sz m3d.sz
 obtain ⟨da', ca', dk', ck', m4, hrd, hrc, hfd, hfc⟩ := hcut
 generalize wc = w4 at *
 clear m3d y1 y2 HCD HCC
 go_wp2_with (first | (refine wpList_load_row rfl 32 _ rfl _ rfl _ _ _ _ (m4.k) Tryz.underlying32 rfl (by kernel_rfl) ?_) | (refine wpList_store_row rfl 32 _ _ rfl _ _ rfl rfl _ _ m4.z (by kernel_rfl) rfl (one25 ..) ?_))
 (try simp only [Exit.inBlock, Exit.then])
 refine bodyPost_ret (Bm.results1_cell Tryz.results22 _ _ _ _ _ _ _ rfl (Blk_setRow_same m4.z) Tryz.underlying32 rfl (by kernel_rfl)) rfl ?_
 exact ⟨da', dk', ca', ck', rfl, ⟨row_row hrd (fun ad had => by have := hfd ad had; omega), row_row hrc (fun ad had => by have := hfc ad had; omega)⟩, ⟨fun ad had => by have := hfd ad had; omega, fun ad had => by have := hfc ad had; omega⟩, Below_setRow m4.b (by omega) _⟩
def wrO (l : Lo) : Lo := { l with st := 3, fee := 0, pen := 0, prov := 0, loss := wrap64 (P l.ds - l.pp) }
def wrN (l : Lo) : Int := wrap64 (wrap64 (P l.ds - l.pp) - l.prov)
def SZ (w : World) (g : Nat) (cs : Array Value) (ds : List Du) (hs : List Ch) (da ca : Option Addr) (W : World) : Prop := (Bk.Blk W g cs 32 ∧ ∃ zc, Bk.Blk W (w.heap.size + 1) zc 32 ∧ zc.size = 25) ∧ (RowIn denc W da ds ∧ RowIn cenc W ca hs) ∧ Below w.heap.size w W
theorem SZ.mono {w : World} {g : Nat} {cs : Array Value} {ds : List Du} {hs : List Ch} {da ca : Option Addr} : ∀ W W', SZ w g cs ds hs da ca W → Below W.heap.size W W' → SZ w g cs ds hs da ca W' := fun _ _ h hb => ⟨⟨h.1.1.later hb, by obtain ⟨zc, hz, hs⟩ := h.1.2; exact ⟨zc, hz.later hb, hs⟩⟩, ⟨h.2.1.1.later hb, h.2.1.2.later hb⟩, bl2 hb h.2.2⟩
def WrP (L : Lo) (N E : Int) (w : World) (e : Ending) (w' : World) : Prop := ∃ da' dk' ca' ck', e = .returned (.tuple #[(.agg #[.int .i64 (L).id, .int .i64 (L).ac, .int .i64 (L).st, .int .i64 (L).pp, .int .i64 (L).pi, .int .i64 (L).fee, .int .i64 (L).pen, .int .i64 (L).chg, .int .i64 (L).prov, .int .i64 (L).loss, .int .i64 (L).rcv, .int .i64 ((L).tm).me, .int .i64 ((L).tm).pr, .int .i64 ((L).tm).ppm, .int .i64 ((L).tm).stt, .int .i64 ((L).tm).ev, .int .i64 ((L).tm).ct, .int .i64 ((L).tm).ba, .int .i64 ((L).tm).mo, .int .i64 ((L).tm).pen, .int .i64 ((L).tm).fe, .string ((L).tm).cal, .string ((L).tm).cur, .slice da' (L).ds.length dk', .slice ca' (L).cs.length ck']), .int .i64 N, .int .i64 E]) ∧ LoInA w' L da' ca' ∧ Below w.heap.size w w'
set_option maxHeartbeats 16000000 in
theorem write_no (l : Lo) (da ca : Option Addr) (dk ck : Nat) (on : Int) (w : World) (hl : LoInA w l da ca) (hn : l.ds.length ≤ 100000) (hm : l.cs.length ≤ 100000) (hC : Ctb w) (h : ¬ (l.st = 1 ∧ bkt (daysL l on) = 4)) :
  Calls Tryz.prog 8 #[(.agg #[.int .i64 (l).id, .int .i64 (l).ac, .int .i64 (l).st, .int .i64 (l).pp, .int .i64 (l).pi, .int .i64 (l).fee, .int .i64 (l).pen, .int .i64 (l).chg, .int .i64 (l).prov, .int .i64 (l).loss, .int .i64 (l).rcv, .int .i64 ((l).tm).me, .int .i64 ((l).tm).pr, .int .i64 ((l).tm).ppm, .int .i64 ((l).tm).stt, .int .i64 ((l).tm).ev, .int .i64 ((l).tm).ct, .int .i64 ((l).tm).ba, .int .i64 ((l).tm).mo, .int .i64 ((l).tm).pen, .int .i64 ((l).tm).fe, .string ((l).tm).cal, .string ((l).tm).cur, .slice da (l).ds.length dk, .slice ca (l).cs.length ck]), .int .i64 on] w (WrP zLo 0 17 w) := by
 have m0 : MSt w ((w.alloc (.cells #[.int .i64 (l).id, .int .i64 (l).ac, .int .i64 (l).st, .int .i64 (l).pp, .int .i64 (l).pi, .int .i64 (l).fee, .int .i64 (l).pen, .int .i64 (l).chg, .int .i64 (l).prov, .int .i64 (l).loss, .int .i64 (l).rcv, .int .i64 ((l).tm).me, .int .i64 ((l).tm).pr, .int .i64 ((l).tm).ppm, .int .i64 ((l).tm).stt, .int .i64 ((l).tm).ev, .int .i64 ((l).tm).ct, .int .i64 ((l).tm).ba, .int .i64 ((l).tm).mo, .int .i64 ((l).tm).pen, .int .i64 ((l).tm).fe, .string ((l).tm).cal, .string ((l).tm).cur, .slice da (l).ds.length dk, .slice ca (l).cs.length ck] 32)).alloc (.cells Zc 32)) Zc l da ca dk ck := ⟨Bk.Blk.nw20, Bk.Blk.nw21, ((Below.refl _ _).alloc (Nat.le_refl _) _).alloc (by simp) _⟩
 by_cases h1 : l.st = 1
 ·have HD := Lib.hid (fun (W : World) (hW : Below w.heap.size w W) => days_any l da ca dk ck on W (dues_of_row (by omega) (hl.later hW).d))
  have HB := Lib.hid (fun (W : World) (hW : Below w.heap.size w W) => bucket_any (daysL l on) W (hC.of hW))
  have h4 : bkt (daysL l on) ≠ 4 := fun e => h ⟨h1, e⟩
  have g1 : (l.st != 1) = false := by rw [h1]; rfl
  have g2 : (bkt (daysL l on) != 4) = true := bne_iff_ne.2 h4
  clear h h1 h4 hl hC hn hm
  generalize daysL l on = d at *
  generalize bkt d = b at *
  go_enter Tryz.func8, Tryz.ntmps8
  go_upto_region 1 with fail
  change Code.wp _ _ _ _ ((w.alloc (.cells #[.int .i64 (l).id, .int .i64 (l).ac, .int .i64 (l).st, .int .i64 (l).pp, .int .i64 (l).pi, .int .i64 (l).fee, .int .i64 (l).pen, .int .i64 (l).chg, .int .i64 (l).prov, .int .i64 (l).loss, .int .i64 (l).rcv, .int .i64 ((l).tm).me, .int .i64 ((l).tm).pr, .int .i64 ((l).tm).ppm, .int .i64 ((l).tm).stt, .int .i64 ((l).tm).ev, .int .i64 ((l).tm).ct, .int .i64 ((l).tm).ba, .int .i64 ((l).tm).mo, .int .i64 ((l).tm).pen, .int .i64 ((l).tm).fe, .string ((l).tm).cal, .string ((l).tm).cur, .slice da (l).ds.length dk, .slice ca (l).cs.length ck] 32)).alloc (.cells Zc 32))
  generalize ((w.alloc (.cells _ 32)).alloc (.cells Zc 32)) = w0 at *
  have l2 := m0.k.c2
  go_wp2_with (first | (refine wpList_load_row rfl 32 _ rfl _ rfl _ _ _ _ (m0.k) Tryz.underlying32 rfl (by kernel_rfl) ?_) | (refine load_guarded 32 _ rfl rfl _ rfl _ _ _ _ (m0.k) Tryz.underlying32 rfl (by kernel_rfl) ?_))
  refine (HD.out _ m0.b).mono ?_
  rintro e w1 ⟨rfl, hb⟩
  have m1 := m0.later hb
  clear m0 hb HD
  go_wp2_with fail
  refine (HB.out _ m1.b).mono ?_
  rintro e w' ⟨rfl, rfl⟩
  clear HB
  go_wp2_with (refine wpList_store_row rfl 32 _ _ rfl _ _ rfl rfl _ _ m1.z (by kernel_rfl) rfl (one25 ..) ?_)
  (try simp only [Exit.inBlock, Exit.then])
  refine bodyPost_ret (results3_cell Tryz.results8 _ _ _ _ _ _ _ rfl (Blk_setRow_same m1.z) Tryz.underlying32 rfl (by kernel_rfl)) rfl ?_
  exact ⟨none, 0, none, 0, rfl, ⟨RowIn.noneA, RowIn.noneA⟩, Below_setRow m1.b (by omega) _⟩
 ·have g1 : (l.st != 1) = true := bne_iff_ne.2 h1
  clear h h1 hl hC hn hm
  go_enter Tryz.func8, Tryz.ntmps8
  go_upto_region 1 with fail
  change Code.wp _ _ _ _ ((w.alloc (.cells #[.int .i64 (l).id, .int .i64 (l).ac, .int .i64 (l).st, .int .i64 (l).pp, .int .i64 (l).pi, .int .i64 (l).fee, .int .i64 (l).pen, .int .i64 (l).chg, .int .i64 (l).prov, .int .i64 (l).loss, .int .i64 (l).rcv, .int .i64 ((l).tm).me, .int .i64 ((l).tm).pr, .int .i64 ((l).tm).ppm, .int .i64 ((l).tm).stt, .int .i64 ((l).tm).ev, .int .i64 ((l).tm).ct, .int .i64 ((l).tm).ba, .int .i64 ((l).tm).mo, .int .i64 ((l).tm).pen, .int .i64 ((l).tm).fe, .string ((l).tm).cal, .string ((l).tm).cur, .slice da (l).ds.length dk, .slice ca (l).cs.length ck] 32)).alloc (.cells Zc 32))
  generalize ((w.alloc (.cells _ 32)).alloc (.cells Zc 32)) = w0 at *
  have l2 := m0.k.c2
  go_wp2_with (refine wpList_store_row rfl 32 _ _ rfl _ _ rfl rfl _ _ m0.z (by kernel_rfl) rfl (one25 ..) ?_)
  (try simp only [Exit.inBlock, Exit.then])
  refine bodyPost_ret (results3_cell Tryz.results8 _ _ _ _ _ _ _ rfl (Blk_setRow_same m0.z) Tryz.underlying32 rfl (by kernel_rfl)) rfl ?_
  exact ⟨none, 0, none, 0, rfl, ⟨RowIn.noneA, RowIn.noneA⟩, Below_setRow m0.b (by omega) _⟩
set_option maxHeartbeats 16000000 in
theorem write_ok (l : Lo) (da ca : Option Addr) (dk ck : Nat) (on : Int) (w : World) (hl : LoInA w l da ca) (hn : l.ds.length ≤ 100000) (hm : l.cs.length ≤ 100000) (hC : Ctb w) (h1 : l.st = 1) (h4 : bkt (daysL l on) = 4) :
  Calls Tryz.prog 8 #[(.agg #[.int .i64 (l).id, .int .i64 (l).ac, .int .i64 (l).st, .int .i64 (l).pp, .int .i64 (l).pi, .int .i64 (l).fee, .int .i64 (l).pen, .int .i64 (l).chg, .int .i64 (l).prov, .int .i64 (l).loss, .int .i64 (l).rcv, .int .i64 ((l).tm).me, .int .i64 ((l).tm).pr, .int .i64 ((l).tm).ppm, .int .i64 ((l).tm).stt, .int .i64 ((l).tm).ev, .int .i64 ((l).tm).ct, .int .i64 ((l).tm).ba, .int .i64 ((l).tm).mo, .int .i64 ((l).tm).pen, .int .i64 ((l).tm).fe, .string ((l).tm).cal, .string ((l).tm).cur, .slice da (l).ds.length dk, .slice ca (l).cs.length ck]), .int .i64 on] w (WrP (wrO l) (wrN l) 0 w) := by
 have m0 : MSt w ((w.alloc (.cells #[.int .i64 (l).id, .int .i64 (l).ac, .int .i64 (l).st, .int .i64 (l).pp, .int .i64 (l).pi, .int .i64 (l).fee, .int .i64 (l).pen, .int .i64 (l).chg, .int .i64 (l).prov, .int .i64 (l).loss, .int .i64 (l).rcv, .int .i64 ((l).tm).me, .int .i64 ((l).tm).pr, .int .i64 ((l).tm).ppm, .int .i64 ((l).tm).stt, .int .i64 ((l).tm).ev, .int .i64 ((l).tm).ct, .int .i64 ((l).tm).ba, .int .i64 ((l).tm).mo, .int .i64 ((l).tm).pen, .int .i64 ((l).tm).fe, .string ((l).tm).cal, .string ((l).tm).cur, .slice da (l).ds.length dk, .slice ca (l).cs.length ck] 32)).alloc (.cells Zc 32)) Zc l da ca dk ck := ⟨Bk.Blk.nw20, Bk.Blk.nw21, ((Below.refl _ _).alloc (Nat.le_refl _) _).alloc (by simp) _⟩
 have HD := Lib.hid (fun (W : World) (hW : Below w.heap.size w W) => days_any l da ca dk ck on W (dues_of_row (by omega) (hl.later hW).d))
 have HB := Lib.hid (fun (W : World) (hW : Below w.heap.size w W) => bucket_any (daysL l on) W (hC.of hW))
 have HO := Lib.hid (fun (W : World) (hW : Below w.heap.size w W) => out_any l da ca dk ck W (dues_of_row (by omega) (hl.later hW).d))
 have HLS := Lib.hid (fun (W : World) (hW : Below w.heap.size w W) => loss_any l da ca dk ck W (dues_of_row (by omega) (hl.later hW).d))
 have HCL := Lib.hid (fun (W : World) (hW : Below w.heap.size w W) => cln_loan l da ca dk ck W (hl.later hW) hn hm)
 have HWN := Lib.hid (show wrN l = wrap64 (wrap64 (P l.ds - l.pp) - l.prov) from rfl)
 have HWO := Lib.hid (show wrO l = { l with st := 3, fee := 0, pen := 0, prov := 0, loss := wrap64 (P l.ds - l.pp) } from rfl)
 have hmf : ∀ (fn : Fn) (first cap : Array Value) (w : World), (Instr.makeFunc fn first cap).run Tryz.prog w = .ok (.func fn first cap) w := fun _ _ _ _ => rfl
 have g1 : (l.st != 1) = false := by rw [h1]; rfl
 rw [h4] at HB
 clear h1 h4 hl hC hn hm
 rw [HWN.out, HWO.out]
 clear HWN HWO
 generalize daysL l on = d at *
 obtain ⟨ou, hou⟩ : ∃ ou, ou = wrap64 (P l.ds - l.pp) := ⟨_, rfl⟩
 rw [← hou] at HO HLS ⊢
 clear hou
 go_enter Tryz.func8, Tryz.ntmps8
 go_upto_region 1 with fail
 change Code.wp _ _ _ _ ((w.alloc (.cells #[.int .i64 (l).id, .int .i64 (l).ac, .int .i64 (l).st, .int .i64 (l).pp, .int .i64 (l).pi, .int .i64 (l).fee, .int .i64 (l).pen, .int .i64 (l).chg, .int .i64 (l).prov, .int .i64 (l).loss, .int .i64 (l).rcv, .int .i64 ((l).tm).me, .int .i64 ((l).tm).pr, .int .i64 ((l).tm).ppm, .int .i64 ((l).tm).stt, .int .i64 ((l).tm).ev, .int .i64 ((l).tm).ct, .int .i64 ((l).tm).ba, .int .i64 ((l).tm).mo, .int .i64 ((l).tm).pen, .int .i64 ((l).tm).fe, .string ((l).tm).cal, .string ((l).tm).cur, .slice da (l).ds.length dk, .slice ca (l).cs.length ck] 32)).alloc (.cells Zc 32))
 generalize ((w.alloc (.cells _ 32)).alloc (.cells Zc 32)) = w0 at *
 have l2 := m0.k.c2
 go_wp2_with (first | (refine wpList_load_row rfl 32 _ rfl _ rfl _ _ _ _ (m0.k) Tryz.underlying32 rfl (by kernel_rfl) ?_) | (refine load_guarded 32 _ rfl rfl _ rfl _ _ _ _ (m0.k) Tryz.underlying32 rfl (by kernel_rfl) ?_))
 refine (HD.out _ m0.b).mono ?_
 rintro e w1 ⟨rfl, hb⟩
 have m1 := m0.later hb
 clear m0 hb HD
 go_wp2_with fail
 refine (HB.out _ m1.b).mono ?_
 rintro e w' ⟨rfl, rfl⟩
 clear HB
 clear l2
 go_wp2_with (refine wpList_load_row rfl 32 _ rfl _ rfl _ _ _ _ (m1.k) Tryz.underlying32 rfl (by kernel_rfl) ?_)
 clear hmf
 refine (HCL.out _ m1.b).mono ?_
 rintro e w3 ⟨da', dk', ca', ck', rfl, hlA, hfA, hb⟩
 have hsz := m1.sz
 have m3 := m1.later hb
 clear m1 hb HCL
 go_upto_region 5 with (refine wpList_store_row rfl 32 _ _ rfl _ _ rfl rfl _ _ Bk.Blk.nw10 (by kernel_rfl) rfl (one25 ..) ?_)
 have hx : Below w3.heap.size w3 ((w3.alloc (.cells #[.int .i64 0, .int .i64 0, .int .i64 0, .int .i64 0, .int .i64 0, .int .i64 0, .int .i64 0, .int .i64 0, .int .i64 0, .int .i64 0, .int .i64 0, .int .i64 0, .int .i64 0, .int .i64 0, .int .i64 0, .int .i64 0, .int .i64 0, .int .i64 0, .int .i64 0, .int .i64 0, .int .i64 0, .string { data := #[] }, .string { data := #[] }, .slice none 0 0, .slice none 0 0] 32)).setRow w3.heap.size #[.int .i64 (l).id, .int .i64 (l).ac, .int .i64 (l).st, .int .i64 (l).pp, .int .i64 (l).pi, .int .i64 (l).fee, .int .i64 (l).pen, .int .i64 (l).chg, .int .i64 (l).prov, .int .i64 (l).loss, .int .i64 (l).rcv, .int .i64 ((l).tm).me, .int .i64 ((l).tm).pr, .int .i64 ((l).tm).ppm, .int .i64 ((l).tm).stt, .int .i64 ((l).tm).ev, .int .i64 ((l).tm).ct, .int .i64 ((l).tm).ba, .int .i64 ((l).tm).mo, .int .i64 ((l).tm).pen, .int .i64 ((l).tm).fe, .string ((l).tm).cal, .string ((l).tm).cur, .slice da' (l).ds.length dk', .slice ca' (l).cs.length ck']) := Below_setRow ((Below.refl _ _).alloc (Nat.le_refl _) _) (Nat.le_refl _) _
 have kx : Bk.Blk ((w3.alloc (.cells #[.int .i64 0, .int .i64 0, .int .i64 0, .int .i64 0, .int .i64 0, .int .i64 0, .int .i64 0, .int .i64 0, .int .i64 0, .int .i64 0, .int .i64 0, .int .i64 0, .int .i64 0, .int .i64 0, .int .i64 0, .int .i64 0, .int .i64 0, .int .i64 0, .int .i64 0, .int .i64 0, .int .i64 0, .string { data := #[] }, .string { data := #[] }, .slice none 0 0, .slice none 0 0] 32)).setRow w3.heap.size #[.int .i64 (l).id, .int .i64 (l).ac, .int .i64 (l).st, .int .i64 (l).pp, .int .i64 (l).pi, .int .i64 (l).fee, .int .i64 (l).pen, .int .i64 (l).chg, .int .i64 (l).prov, .int .i64 (l).loss, .int .i64 (l).rcv, .int .i64 ((l).tm).me, .int .i64 ((l).tm).pr, .int .i64 ((l).tm).ppm, .int .i64 ((l).tm).stt, .int .i64 ((l).tm).ev, .int .i64 ((l).tm).ct, .int .i64 ((l).tm).ba, .int .i64 ((l).tm).mo, .int .i64 ((l).tm).pen, .int .i64 ((l).tm).fe, .string ((l).tm).cal, .string ((l).tm).cur, .slice da' (l).ds.length dk', .slice ca' (l).cs.length ck']) w3.heap.size _ 32 := Blk_setRow_same Bk.Blk.nw10
 have m4 := m3.later hx
 have hlB := hlA.later hx
 have hgw : w.heap.size + 1 < w3.heap.size := m3.sz
 clear m3
 generalize ((w3.alloc (.cells _ 32)).setRow w3.heap.size _) = w4 at *
 obtain ⟨gx, hgx⟩ : ∃ g, g = w3.heap.size := ⟨_, rfl⟩
 rw [← hgx] at kx hgw ⊢
 have HX := Lib.hid (And.intro hlA (And.intro hx hgx))
 clear hlA hlB hx hgx
 go_wp2_with (refine wpList_load_row rfl 32 _ rfl _ rfl _ _ _ _ (m4.k) Tryz.underlying32 rfl (by kernel_rfl) ?_)
 refine (HO.out _ m4.b).mono ?_
 rintro e w5 ⟨rfl, hb⟩
 have m5 := m4.later hb
 have kx5 := kx.later hb
 have HX5 : Hid (LoInA w3 l da' ca' ∧ Below w3.heap.size w3 w5 ∧ gx = w3.heap.size) := Lib.hid ⟨HX.out.1, bl2 hb HX.out.2.1, HX.out.2.2⟩
 clear m4 kx hb HX HO
 have x2 := kx5.c2
 have y2 := kx5.f2
 have x5 := kx5.c5
 have y5 := kx5.f5
 have x6 := kx5.c6
 have y6 := kx5.f6
 have x8 := kx5.c8
 have y8 := kx5.f8
 have x9 := kx5.c9
 have y9 := kx5.f9
 go_upto_region 7 with fail
 clear x2 y2 x5 y5 x6 y6 x8 y8 x9 y9
 have kx6 : Bk.Blk (((((w5.setCell ⟨gx, 2, none⟩ (.int .i64 3)).setCell ⟨gx, 9, none⟩ (.int .i64 ou)).setCell ⟨gx, 8, none⟩ (.int .i64 0)).setCell ⟨gx, 5, none⟩ (.int .i64 0)).setCell ⟨gx, 6, none⟩ (.int .i64 0)) gx #[.int .i64 (({ l with st := 3, fee := 0, pen := 0, prov := 0, loss := ou } : Lo)).id, .int .i64 (({ l with st := 3, fee := 0, pen := 0, prov := 0, loss := ou } : Lo)).ac, .int .i64 (({ l with st := 3, fee := 0, pen := 0, prov := 0, loss := ou } : Lo)).st, .int .i64 (({ l with st := 3, fee := 0, pen := 0, prov := 0, loss := ou } : Lo)).pp, .int .i64 (({ l with st := 3, fee := 0, pen := 0, prov := 0, loss := ou } : Lo)).pi, .int .i64 (({ l with st := 3, fee := 0, pen := 0, prov := 0, loss := ou } : Lo)).fee, .int .i64 (({ l with st := 3, fee := 0, pen := 0, prov := 0, loss := ou } : Lo)).pen, .int .i64 (({ l with st := 3, fee := 0, pen := 0, prov := 0, loss := ou } : Lo)).chg, .int .i64 (({ l with st := 3, fee := 0, pen := 0, prov := 0, loss := ou } : Lo)).prov, .int .i64 (({ l with st := 3, fee := 0, pen := 0, prov := 0, loss := ou } : Lo)).loss, .int .i64 (({ l with st := 3, fee := 0, pen := 0, prov := 0, loss := ou } : Lo)).rcv, .int .i64 ((({ l with st := 3, fee := 0, pen := 0, prov := 0, loss := ou } : Lo)).tm).me, .int .i64 ((({ l with st := 3, fee := 0, pen := 0, prov := 0, loss := ou } : Lo)).tm).pr, .int .i64 ((({ l with st := 3, fee := 0, pen := 0, prov := 0, loss := ou } : Lo)).tm).ppm, .int .i64 ((({ l with st := 3, fee := 0, pen := 0, prov := 0, loss := ou } : Lo)).tm).stt, .int .i64 ((({ l with st := 3, fee := 0, pen := 0, prov := 0, loss := ou } : Lo)).tm).ev, .int .i64 ((({ l with st := 3, fee := 0, pen := 0, prov := 0, loss := ou } : Lo)).tm).ct, .int .i64 ((({ l with st := 3, fee := 0, pen := 0, prov := 0, loss := ou } : Lo)).tm).ba, .int .i64 ((({ l with st := 3, fee := 0, pen := 0, prov := 0, loss := ou } : Lo)).tm).mo, .int .i64 ((({ l with st := 3, fee := 0, pen := 0, prov := 0, loss := ou } : Lo)).tm).pen, .int .i64 ((({ l with st := 3, fee := 0, pen := 0, prov := 0, loss := ou } : Lo)).tm).fe, .string ((({ l with st := 3, fee := 0, pen := 0, prov := 0, loss := ou } : Lo)).tm).cal, .string ((({ l with st := 3, fee := 0, pen := 0, prov := 0, loss := ou } : Lo)).tm).cur, .slice da' (({ l with st := 3, fee := 0, pen := 0, prov := 0, loss := ou } : Lo)).ds.length dk', .slice ca' (({ l with st := 3, fee := 0, pen := 0, prov := 0, loss := ou } : Lo)).cs.length ck'] 32 := (((((kx5.set_same (i := 2) (u := .int .i64 3)).set_same (i := 9) (u := .int .i64 ou)).set_same (i := 8) (u := .int .i64 0)).set_same (i := 5) (u := .int .i64 0)).set_same (i := 6) (u := .int .i64 0)).conv rfl
 have m6 : MSt w (((((w5.setCell ⟨gx, 2, none⟩ (.int .i64 3)).setCell ⟨gx, 9, none⟩ (.int .i64 ou)).setCell ⟨gx, 8, none⟩ (.int .i64 0)).setCell ⟨gx, 5, none⟩ (.int .i64 0)).setCell ⟨gx, 6, none⟩ (.int .i64 0)) Zc l da ca dk ck := ⟨((((m5.k.set_ne (by omega)).set_ne (by omega)).set_ne (by omega)).set_ne (by omega)).set_ne (by omega), ((((m5.z.set_ne (by omega)).set_ne (by omega)).set_ne (by omega)).set_ne (by omega)).set_ne (by omega), ((((m5.b.setCell (show w.heap.size ≤ gx by omega) _).setCell (show w.heap.size ≤ gx by omega) _).setCell (show w.heap.size ≤ gx by omega) _).setCell (show w.heap.size ≤ gx by omega) _).setCell (show w.heap.size ≤ gx by omega) _⟩
 have hl6 : LoInA (((((w5.setCell ⟨gx, 2, none⟩ (.int .i64 3)).setCell ⟨gx, 9, none⟩ (.int .i64 ou)).setCell ⟨gx, 8, none⟩ (.int .i64 0)).setCell ⟨gx, 5, none⟩ (.int .i64 0)).setCell ⟨gx, 6, none⟩ (.int .i64 0)) l da' ca' := by
  obtain ⟨h1, h2, h3⟩ := HX5.out
  exact h1.later (((((h2.setCell (show w3.heap.size ≤ gx by omega) _).setCell (show w3.heap.size ≤ gx by omega) _).setCell (show w3.heap.size ≤ gx by omega) _).setCell (show w3.heap.size ≤ gx by omega) _).setCell (show w3.heap.size ≤ gx by omega) _)
 clear kx5 m5 HX5
 generalize (((((w5.setCell ⟨gx, 2, none⟩ (.int .i64 3)).setCell ⟨gx, 9, none⟩ (.int .i64 ou)).setCell ⟨gx, 8, none⟩ (.int .i64 0)).setCell ⟨gx, 5, none⟩ (.int .i64 0)).setCell ⟨gx, 6, none⟩ (.int .i64 0)) = w6 at *
 have HFR := Lib.hid (And.intro hfA hsz)
 clear hfA hsz
 have hS0 : SZ w gx #[.int .i64 (({ l with st := 3, fee := 0, pen := 0, prov := 0, loss := ou } : Lo)).id, .int .i64 (({ l with st := 3, fee := 0, pen := 0, prov := 0, loss := ou } : Lo)).ac, .int .i64 (({ l with st := 3, fee := 0, pen := 0, prov := 0, loss := ou } : Lo)).st, .int .i64 (({ l with st := 3, fee := 0, pen := 0, prov := 0, loss := ou } : Lo)).pp, .int .i64 (({ l with st := 3, fee := 0, pen := 0, prov := 0, loss := ou } : Lo)).pi, .int .i64 (({ l with st := 3, fee := 0, pen := 0, prov := 0, loss := ou } : Lo)).fee, .int .i64 (({ l with st := 3, fee := 0, pen := 0, prov := 0, loss := ou } : Lo)).pen, .int .i64 (({ l with st := 3, fee := 0, pen := 0, prov := 0, loss := ou } : Lo)).chg, .int .i64 (({ l with st := 3, fee := 0, pen := 0, prov := 0, loss := ou } : Lo)).prov, .int .i64 (({ l with st := 3, fee := 0, pen := 0, prov := 0, loss := ou } : Lo)).loss, .int .i64 (({ l with st := 3, fee := 0, pen := 0, prov := 0, loss := ou } : Lo)).rcv, .int .i64 ((({ l with st := 3, fee := 0, pen := 0, prov := 0, loss := ou } : Lo)).tm).me, .int .i64 ((({ l with st := 3, fee := 0, pen := 0, prov := 0, loss := ou } : Lo)).tm).pr, .int .i64 ((({ l with st := 3, fee := 0, pen := 0, prov := 0, loss := ou } : Lo)).tm).ppm, .int .i64 ((({ l with st := 3, fee := 0, pen := 0, prov := 0, loss := ou } : Lo)).tm).stt, .int .i64 ((({ l with st := 3, fee := 0, pen := 0, prov := 0, loss := ou } : Lo)).tm).ev, .int .i64 ((({ l with st := 3, fee := 0, pen := 0, prov := 0, loss := ou } : Lo)).tm).ct, .int .i64 ((({ l with st := 3, fee := 0, pen := 0, prov := 0, loss := ou } : Lo)).tm).ba, .int .i64 ((({ l with st := 3, fee := 0, pen := 0, prov := 0, loss := ou } : Lo)).tm).mo, .int .i64 ((({ l with st := 3, fee := 0, pen := 0, prov := 0, loss := ou } : Lo)).tm).pen, .int .i64 ((({ l with st := 3, fee := 0, pen := 0, prov := 0, loss := ou } : Lo)).tm).fe, .string ((({ l with st := 3, fee := 0, pen := 0, prov := 0, loss := ou } : Lo)).tm).cal, .string ((({ l with st := 3, fee := 0, pen := 0, prov := 0, loss := ou } : Lo)).tm).cur, .slice da' (({ l with st := 3, fee := 0, pen := 0, prov := 0, loss := ou } : Lo)).ds.length dk', .slice ca' (({ l with st := 3, fee := 0, pen := 0, prov := 0, loss := ou } : Lo)).cs.length ck'] l.ds l.cs da' ca' w6.drew := ⟨⟨kx6.drew, ⟨_, m6.z.drew, rfl⟩⟩, ⟨(hl6.later ((Below.refl _ _).drew)).d, (hl6.later ((Below.refl _ _).drew)).c⟩, m6.b.drew⟩
 clear kx6 m6 hl6
 refine wp_region_held_drew (S := SZ w gx #[.int .i64 (({ l with st := 3, fee := 0, pen := 0, prov := 0, loss := ou } : Lo)).id, .int .i64 (({ l with st := 3, fee := 0, pen := 0, prov := 0, loss := ou } : Lo)).ac, .int .i64 (({ l with st := 3, fee := 0, pen := 0, prov := 0, loss := ou } : Lo)).st, .int .i64 (({ l with st := 3, fee := 0, pen := 0, prov := 0, loss := ou } : Lo)).pp, .int .i64 (({ l with st := 3, fee := 0, pen := 0, prov := 0, loss := ou } : Lo)).pi, .int .i64 (({ l with st := 3, fee := 0, pen := 0, prov := 0, loss := ou } : Lo)).fee, .int .i64 (({ l with st := 3, fee := 0, pen := 0, prov := 0, loss := ou } : Lo)).pen, .int .i64 (({ l with st := 3, fee := 0, pen := 0, prov := 0, loss := ou } : Lo)).chg, .int .i64 (({ l with st := 3, fee := 0, pen := 0, prov := 0, loss := ou } : Lo)).prov, .int .i64 (({ l with st := 3, fee := 0, pen := 0, prov := 0, loss := ou } : Lo)).loss, .int .i64 (({ l with st := 3, fee := 0, pen := 0, prov := 0, loss := ou } : Lo)).rcv, .int .i64 ((({ l with st := 3, fee := 0, pen := 0, prov := 0, loss := ou } : Lo)).tm).me, .int .i64 ((({ l with st := 3, fee := 0, pen := 0, prov := 0, loss := ou } : Lo)).tm).pr, .int .i64 ((({ l with st := 3, fee := 0, pen := 0, prov := 0, loss := ou } : Lo)).tm).ppm, .int .i64 ((({ l with st := 3, fee := 0, pen := 0, prov := 0, loss := ou } : Lo)).tm).stt, .int .i64 ((({ l with st := 3, fee := 0, pen := 0, prov := 0, loss := ou } : Lo)).tm).ev, .int .i64 ((({ l with st := 3, fee := 0, pen := 0, prov := 0, loss := ou } : Lo)).tm).ct, .int .i64 ((({ l with st := 3, fee := 0, pen := 0, prov := 0, loss := ou } : Lo)).tm).ba, .int .i64 ((({ l with st := 3, fee := 0, pen := 0, prov := 0, loss := ou } : Lo)).tm).mo, .int .i64 ((({ l with st := 3, fee := 0, pen := 0, prov := 0, loss := ou } : Lo)).tm).pen, .int .i64 ((({ l with st := 3, fee := 0, pen := 0, prov := 0, loss := ou } : Lo)).tm).fe, .string ((({ l with st := 3, fee := 0, pen := 0, prov := 0, loss := ou } : Lo)).tm).cal, .string ((({ l with st := 3, fee := 0, pen := 0, prov := 0, loss := ou } : Lo)).tm).cur, .slice da' (({ l with st := 3, fee := 0, pen := 0, prov := 0, loss := ou } : Lo)).ds.length dk', .slice ca' (({ l with st := 3, fee := 0, pen := 0, prov := 0, loss := ou } : Lo)).cs.length ck'] l.ds l.cs da' ca') (by kernel_rfl) hS0 (fun hS => ?_)
 clear hS0
 refine take_at 0 (by decide) (by kernel_rfl) (by kernel_rfl) (by kernel_rfl) (fun _ _ _ h => h) hS (yields_load_row (by rfl) 32 (.tmp 8) rfl gx rfl _ _ _ _ (fun W hW => hW.1.1) Tryz.underlying32 rfl (by kernel_rfl)) ?_
 simp only [z0, z1, Act.put, z3, z4, z5]
 refine tk 1 (by decide) ?_ hS (by kernel_rfl) (by kernel_rfl) (by kernel_rfl) (by rfl) (fun _ _ _ h => h) ?_ ?_
 rotate_left
 ·intro W hW
  clear hW
  simp only [z0, z1]
  go_simp
  first | done | with_reducible rfl
 simp only [z0, z1, Act.put, z3, z4, z5]
 refine call_at 2 (by decide) (Pi := (fun v _ => v = .int .i64 (wrap64 (ou - l.prov)))) (by kernel_rfl) (by rfl) (by simp only [z0, z1]; go_simp; first | done | rfl | exact ⟨rfl, rfl⟩) (call_one SZ.mono hS (HLS.out _ hS.2.2)) ?_
 clear hS
 rintro w7 u hS rfl
 simp only [z0, z1, Act.put, z3, z4, z5]
 obtain ⟨⟨h7k, zc, h7z, hzs⟩, ⟨h7d, h7c⟩, h7b⟩ := hS
 refine one_at 3 (by decide) (by kernel_rfl) (by rfl) (fun K hK => ?_)
 simp only [z0, z1]
 refine wp_store_row 32 _ _ rfl (w.heap.size + 1) _ rfl rfl _ _ h7z (by kernel_rfl) hzs (one25 ..) ?_
 have hT : SZ w gx #[.int .i64 (({ l with st := 3, fee := 0, pen := 0, prov := 0, loss := ou } : Lo)).id, .int .i64 (({ l with st := 3, fee := 0, pen := 0, prov := 0, loss := ou } : Lo)).ac, .int .i64 (({ l with st := 3, fee := 0, pen := 0, prov := 0, loss := ou } : Lo)).st, .int .i64 (({ l with st := 3, fee := 0, pen := 0, prov := 0, loss := ou } : Lo)).pp, .int .i64 (({ l with st := 3, fee := 0, pen := 0, prov := 0, loss := ou } : Lo)).pi, .int .i64 (({ l with st := 3, fee := 0, pen := 0, prov := 0, loss := ou } : Lo)).fee, .int .i64 (({ l with st := 3, fee := 0, pen := 0, prov := 0, loss := ou } : Lo)).pen, .int .i64 (({ l with st := 3, fee := 0, pen := 0, prov := 0, loss := ou } : Lo)).chg, .int .i64 (({ l with st := 3, fee := 0, pen := 0, prov := 0, loss := ou } : Lo)).prov, .int .i64 (({ l with st := 3, fee := 0, pen := 0, prov := 0, loss := ou } : Lo)).loss, .int .i64 (({ l with st := 3, fee := 0, pen := 0, prov := 0, loss := ou } : Lo)).rcv, .int .i64 ((({ l with st := 3, fee := 0, pen := 0, prov := 0, loss := ou } : Lo)).tm).me, .int .i64 ((({ l with st := 3, fee := 0, pen := 0, prov := 0, loss := ou } : Lo)).tm).pr, .int .i64 ((({ l with st := 3, fee := 0, pen := 0, prov := 0, loss := ou } : Lo)).tm).ppm, .int .i64 ((({ l with st := 3, fee := 0, pen := 0, prov := 0, loss := ou } : Lo)).tm).stt, .int .i64 ((({ l with st := 3, fee := 0, pen := 0, prov := 0, loss := ou } : Lo)).tm).ev, .int .i64 ((({ l with st := 3, fee := 0, pen := 0, prov := 0, loss := ou } : Lo)).tm).ct, .int .i64 ((({ l with st := 3, fee := 0, pen := 0, prov := 0, loss := ou } : Lo)).tm).ba, .int .i64 ((({ l with st := 3, fee := 0, pen := 0, prov := 0, loss := ou } : Lo)).tm).mo, .int .i64 ((({ l with st := 3, fee := 0, pen := 0, prov := 0, loss := ou } : Lo)).tm).pen, .int .i64 ((({ l with st := 3, fee := 0, pen := 0, prov := 0, loss := ou } : Lo)).tm).fe, .string ((({ l with st := 3, fee := 0, pen := 0, prov := 0, loss := ou } : Lo)).tm).cal, .string ((({ l with st := 3, fee := 0, pen := 0, prov := 0, loss := ou } : Lo)).tm).cur, .slice da' (({ l with st := 3, fee := 0, pen := 0, prov := 0, loss := ou } : Lo)).ds.length dk', .slice ca' (({ l with st := 3, fee := 0, pen := 0, prov := 0, loss := ou } : Lo)).cs.length ck'] l.ds l.cs da' ca' (w7.setRow (w.heap.size + 1) #[.int .i64 (({ l with st := 3, fee := 0, pen := 0, prov := 0, loss := ou } : Lo)).id, .int .i64 (({ l with st := 3, fee := 0, pen := 0, prov := 0, loss := ou } : Lo)).ac, .int .i64 (({ l with st := 3, fee := 0, pen := 0, prov := 0, loss := ou } : Lo)).st, .int .i64 (({ l with st := 3, fee := 0, pen := 0, prov := 0, loss := ou } : Lo)).pp, .int .i64 (({ l with st := 3, fee := 0, pen := 0, prov := 0, loss := ou } : Lo)).pi, .int .i64 (({ l with st := 3, fee := 0, pen := 0, prov := 0, loss := ou } : Lo)).fee, .int .i64 (({ l with st := 3, fee := 0, pen := 0, prov := 0, loss := ou } : Lo)).pen, .int .i64 (({ l with st := 3, fee := 0, pen := 0, prov := 0, loss := ou } : Lo)).chg, .int .i64 (({ l with st := 3, fee := 0, pen := 0, prov := 0, loss := ou } : Lo)).prov, .int .i64 (({ l with st := 3, fee := 0, pen := 0, prov := 0, loss := ou } : Lo)).loss, .int .i64 (({ l with st := 3, fee := 0, pen := 0, prov := 0, loss := ou } : Lo)).rcv, .int .i64 ((({ l with st := 3, fee := 0, pen := 0, prov := 0, loss := ou } : Lo)).tm).me, .int .i64 ((({ l with st := 3, fee := 0, pen := 0, prov := 0, loss := ou } : Lo)).tm).pr, .int .i64 ((({ l with st := 3, fee := 0, pen := 0, prov := 0, loss := ou } : Lo)).tm).ppm, .int .i64 ((({ l with st := 3, fee := 0, pen := 0, prov := 0, loss := ou } : Lo)).tm).stt, .int .i64 ((({ l with st := 3, fee := 0, pen := 0, prov := 0, loss := ou } : Lo)).tm).ev, .int .i64 ((({ l with st := 3, fee := 0, pen := 0, prov := 0, loss := ou } : Lo)).tm).ct, .int .i64 ((({ l with st := 3, fee := 0, pen := 0, prov := 0, loss := ou } : Lo)).tm).ba, .int .i64 ((({ l with st := 3, fee := 0, pen := 0, prov := 0, loss := ou } : Lo)).tm).mo, .int .i64 ((({ l with st := 3, fee := 0, pen := 0, prov := 0, loss := ou } : Lo)).tm).pen, .int .i64 ((({ l with st := 3, fee := 0, pen := 0, prov := 0, loss := ou } : Lo)).tm).fe, .string ((({ l with st := 3, fee := 0, pen := 0, prov := 0, loss := ou } : Lo)).tm).cal, .string ((({ l with st := 3, fee := 0, pen := 0, prov := 0, loss := ou } : Lo)).tm).cur, .slice da' (({ l with st := 3, fee := 0, pen := 0, prov := 0, loss := ou } : Lo)).ds.length dk', .slice ca' (({ l with st := 3, fee := 0, pen := 0, prov := 0, loss := ou } : Lo)).cs.length ck']) := ⟨⟨Blk_setRow_ne h7k (by omega), ⟨_, Blk_setRow_same h7z, rfl⟩⟩, ⟨row_row h7d (fun ad had => by have := HFR.out.1.1 ad had; have := HFR.out.2; omega), row_row h7c (fun ad had => by have := HFR.out.1.2 ad had; have := HFR.out.2; omega)⟩, Below_setRow h7b (by omega) _⟩
 refine hK.out _ _ hT (fun hT' => ?_)
 clear hT' hK
 simp only [z0, z1, Act.put, z3, z4, z5]
 refine tk 4 (by decide) ?_ hT (by kernel_rfl) (by kernel_rfl) (by kernel_rfl) (by rfl) (fun _ _ _ h => h) ?_ ?_
 rotate_left
 ·intro W hW
  clear hW
  simp only [z0, z1]
  go_simp
  first | done | with_reducible rfl
 simp only [z0, z1, Act.put, z3, z4, z5]
 refine tk 5 (by decide) ?_ hT (by kernel_rfl) (by kernel_rfl) (by kernel_rfl) (by rfl) (fun _ _ _ h => h) ?_ ?_
 rotate_left
 ·intro W hW
  clear hW
  simp only [z0, z1]
  go_simp
  first | done | with_reducible rfl
 simp only [z0, z1, Act.put, z3, z4, z5]
 refine wpAnyH_done (by kernel_rfl) ?_ _
 go_wp2_with fail
 (try simp only [Exit.inBlock, Exit.then])
 refine bodyPost_ret (results3_cell Tryz.results8 _ _ _ _ _ _ _ rfl (Blk_setRow_same h7z) Tryz.underlying32 rfl (by kernel_rfl)) rfl ?_
 exact ⟨da', dk', ca', ck', rfl, ⟨hT.2.1.1, hT.2.1.2⟩, hT.2.2⟩
end Go.Proofs.YtlolflephnbbcaaGreatDoor.Ln
