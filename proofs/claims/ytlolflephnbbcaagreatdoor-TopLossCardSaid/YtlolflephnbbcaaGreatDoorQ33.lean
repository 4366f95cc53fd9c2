/-
  Parts of the proof: Ar3, Pv4, Pv5, Pv6, Pw1, Pw2, Pw3.
-/
import Derived.Test.YtlolflephnbbcaaGreatDoorQ31
import Derived.Test.YtlolflephnbbcaaGreatDoorQ16
import Derived.Deep.CutRange
import Derived.Test.YtlolflephnbbcaaGreatDoorQ15
import Derived.Test.YtlolflephnbbcaaGreatDoorQ11
namespace Go.Proofs.YtlolflephnbbcaaGreatDoor.Ln
open Go.RowKit
open Go.Proofs.YtlolflephnbbcaaGreatDoor
open Go.Proofs.YtlolflephnbbcaaGreatDoor.Wm
set_option linter.unusedSimpArgs false

structure LoInA (W : World) (l : Lo) (da ca : Option Addr) : Prop where
 d : RowIn denc W da l.ds
 c : RowIn cenc W ca l.cs
theorem LoInA.later {W W' : World} {l : Lo} {da ca : Option Addr} (h : LoInA W l da ca) (hb : Below W.heap.size W W') : LoInA W' l da ca := ⟨h.d.later hb, h.c.later hb⟩
theorem RowIn.noneA {α : Type} {enc : α → List Value} {W : World} {a : Option Addr} : RowIn enc W a [] := fun h => absurd h (Nat.not_lt_zero _)
def ChP (L : Lo) (D E : Int) (w : World) (e : Ending) (w' : World) : Prop := ∃ da' dk' ca' ck', e = .returned (.tuple #[(.agg #[.int .i64 (L).id, .int .i64 (L).ac, .int .i64 (L).st, .int .i64 (L).pp, .int .i64 (L).pi, .int .i64 (L).fee, .int .i64 (L).pen, .int .i64 (L).chg, .int .i64 (L).prov, .int .i64 (L).loss, .int .i64 (L).rcv, .int .i64 ((L).tm).me, .int .i64 ((L).tm).pr, .int .i64 ((L).tm).ppm, .int .i64 ((L).tm).stt, .int .i64 ((L).tm).ev, .int .i64 ((L).tm).ct, .int .i64 ((L).tm).ba, .int .i64 ((L).tm).mo, .int .i64 ((L).tm).pen, .int .i64 ((L).tm).fe, .string ((L).tm).cal, .string ((L).tm).cur, .slice da' (L).ds.length dk', .slice ca' (L).cs.length ck']), .int .i64 D, .int .i64 E]) ∧ LoInA w' L da' ca' ∧ Below w.heap.size w w'
end Go.Proofs.YtlolflephnbbcaaGreatDoor.Ln
namespace Go.Proofs.YtlolflephnbbcaaGreatDoor.Ln
open Go.RowKit
open Go.Proofs.YtlolflephnbbcaaGreatDoor
set_option linter.unusedSimpArgs false

structure LoIn' (W : World) (l : Lo) (da ca : Option Addr) : Prop where
 d : RowIn denc W da l.ds
 c : RowIn cenc W ca l.cs
theorem LoIn'.later {W W' : World} {l : Lo} {da ca : Option Addr} (h : LoIn' W l da ca) (hb : Below W.heap.size W W') : LoIn' W' l da ca := ⟨h.d.later hb, h.c.later hb⟩
theorem RowIn.none' {α : Type} {enc : α → List Value} {W : World} {a : Option Addr} : RowIn enc W a [] := fun h => absurd h (Nat.not_lt_zero _)
def zTm' : Tm := ⟨0, 0, 0, 0, 0, 0, 0, 0, 0, 0, .empty, .empty⟩
def zLo' : Lo := ⟨0, 0, 0, 0, 0, 0, 0, 0, 0, 0, 0, zTm', [], []⟩
noncomputable def mvE (l : Lo) (on : Int) : Int := if 0 ≤ l.prov ∧ l.prov ≤ 1000000000000 then exE l on else 1
noncomputable def mvL (l : Lo) (on : Int) : Lo := if mvE l on = 0 then { l with prov := exV l on } else zLo'
noncomputable def mvD (l : Lo) (on : Int) : Int := if mvE l on = 0 then wrap64 (exV l on - l.prov) else 0
def MvP (L : Lo) (D E : Int) (w : World) (e : Ending) (w' : World) : Prop := ∃ da' dk' ca' ck', e = .returned (.tuple #[(.agg #[.int .i64 (L).id, .int .i64 (L).ac, .int .i64 (L).st, .int .i64 (L).pp, .int .i64 (L).pi, .int .i64 (L).fee, .int .i64 (L).pen, .int .i64 (L).chg, .int .i64 (L).prov, .int .i64 (L).loss, .int .i64 (L).rcv, .int .i64 ((L).tm).me, .int .i64 ((L).tm).pr, .int .i64 ((L).tm).ppm, .int .i64 ((L).tm).stt, .int .i64 ((L).tm).ev, .int .i64 ((L).tm).ct, .int .i64 ((L).tm).ba, .int .i64 ((L).tm).mo, .int .i64 ((L).tm).pen, .int .i64 ((L).tm).fe, .string ((L).tm).cal, .string ((L).tm).cur, .slice da' (L).ds.length dk', .slice ca' (L).cs.length ck']), .int .i64 D, .int .i64 E]) ∧ LoIn' w' L da' ca' ∧ Below w.heap.size w w'
def MvF (L : Lo) (D E : Int) (w : World) (e : Ending) (w' : World) : Prop := ∃ da' dk' ca' ck', e = .returned (.tuple #[(.agg #[.int .i64 (L).id, .int .i64 (L).ac, .int .i64 (L).st, .int .i64 (L).pp, .int .i64 (L).pi, .int .i64 (L).fee, .int .i64 (L).pen, .int .i64 (L).chg, .int .i64 (L).prov, .int .i64 (L).loss, .int .i64 (L).rcv, .int .i64 ((L).tm).me, .int .i64 ((L).tm).pr, .int .i64 ((L).tm).ppm, .int .i64 ((L).tm).stt, .int .i64 ((L).tm).ev, .int .i64 ((L).tm).ct, .int .i64 ((L).tm).ba, .int .i64 ((L).tm).mo, .int .i64 ((L).tm).pen, .int .i64 ((L).tm).fe, .string ((L).tm).cal, .string ((L).tm).cur, .slice da' (L).ds.length dk', .slice ca' (L).cs.length ck']), .int .i64 D, .int .i64 E]) ∧ LoIn' w' L da' ca' ∧ ((∀ ad, da' = some ad → w.heap.size ≤ ad.block) ∧ (∀ ad, ca' = some ad → w.heap.size ≤ ad.block)) ∧ Below w.heap.size w w'
theorem MvF.out {L : Lo} {D E : Int} {w : World} {e : Ending} {w' : World} (h : MvF L D E w e w') : MvP L D E w e w' := by
 obtain ⟨a, b, c, d, h1, h2, _, h4⟩ := h
 exact ⟨a, b, c, d, h1, h2, h4⟩
theorem mv_ways (l : Lo) (on : Int) : (l.prov < 0 ∧ mvE l on = 1 ∧ mvL l on = zLo' ∧ mvD l on = 0) ∨ (0 ≤ l.prov ∧ 1000000000000 < l.prov ∧ mvE l on = 1 ∧ mvL l on = zLo' ∧ mvD l on = 0) ∨ (0 ≤ l.prov ∧ l.prov ≤ 1000000000000 ∧ exE l on ≠ 0 ∧ mvE l on = exE l on ∧ mvL l on = zLo' ∧ mvD l on = 0) ∨ (0 ≤ l.prov ∧ l.prov ≤ 1000000000000 ∧ exE l on = 0 ∧ mvE l on = 0 ∧ mvL l on = { l with prov := exV l on } ∧ mvD l on = wrap64 (exV l on - l.prov)) := by
 by_cases h1 : l.prov < 0
 ·have e : mvE l on = 1 := if_neg (by omega)
  exact .inl ⟨h1, e, if_neg (by rw [e]; decide), if_neg (by rw [e]; decide)⟩
 ·by_cases h2 : 1000000000000 < l.prov
  ·have e : mvE l on = 1 := if_neg (by omega)
   exact .inr (.inl ⟨by omega, h2, e, if_neg (by rw [e]; decide), if_neg (by rw [e]; decide)⟩)
  ·have e : mvE l on = exE l on := if_pos (by omega)
   by_cases h3 : exE l on = 0
   ·exact .inr (.inr (.inr ⟨by omega, by omega, h3, by rw [e, h3], if_pos (by rw [e, h3]), if_pos (by rw [e, h3])⟩))
   ·exact .inr (.inr (.inl ⟨by omega, by omega, h3, e, if_neg (by rw [e]; exact h3), if_neg (by rw [e]; exact h3)⟩))
theorem valid_any (n : Int) (w : World) : Calls Tryz.prog 15 #[.int .i64 n] w fun e w' => e = .returned (.bool (decide (-1000000000000 ≤ n ∧ n ≤ 1000000000000))) ∧ w = w' := by
 by_cases h1 : -1000000000000 ≤ n
 ·have g1 : decide (-1000000000000 ≤ n) = true := decide_eq_true h1
  by_cases h2 : n ≤ 1000000000000
  ·rw [decide_eq_true (show -1000000000000 ≤ n ∧ n ≤ 1000000000000 from ⟨h1, h2⟩)]
   go_enter Tryz.func15, Tryz.ntmps15
   go_wp2_with fail
   go_ret
   exact ⟨rfl, rfl⟩
  ·rw [decide_eq_false (show ¬(-1000000000000 ≤ n ∧ n ≤ 1000000000000) from fun h => h2 h.2)]
   go_enter Tryz.func15, Tryz.ntmps15
   go_wp2_with fail
   go_ret
   exact ⟨rfl, rfl⟩
 ·rw [decide_eq_false (show ¬(-1000000000000 ≤ n ∧ n ≤ 1000000000000) from fun h => h1 h.1)]
  go_enter Tryz.func15, Tryz.ntmps15
  go_wp2_with fail
  go_ret
  exact ⟨rfl, rfl⟩

set_option maxRecDepth 100000 in
set_option maxHeartbeats 8000000 in
theorem movf_any (l : Lo) (da ca : Option Addr) (dk ck : Nat) (on : Int) (w : World) (hl : LoIn' w l da ca) (hn : l.ds.length ≤ 100000) (hm : l.cs.length ≤ 100000) (hC : Ctb w) (hSt : Rd.Stp w) :
  Calls Tryz.prog 7 #[(.agg #[.int .i64 (l).id, .int .i64 (l).ac, .int .i64 (l).st, .int .i64 (l).pp, .int .i64 (l).pi, .int .i64 (l).fee, .int .i64 (l).pen, .int .i64 (l).chg, .int .i64 (l).prov, .int .i64 (l).loss, .int .i64 (l).rcv, .int .i64 ((l).tm).me, .int .i64 ((l).tm).pr, .int .i64 ((l).tm).ppm, .int .i64 ((l).tm).stt, .int .i64 ((l).tm).ev, .int .i64 ((l).tm).ct, .int .i64 ((l).tm).ba, .int .i64 ((l).tm).mo, .int .i64 ((l).tm).pen, .int .i64 ((l).tm).fe, .string ((l).tm).cal, .string ((l).tm).cur, .slice da (l).ds.length dk, .slice ca (l).cs.length ck]), .int .i64 on] w (MvF (mvL l on) (mvD l on) (mvE l on) w) := by
 have m0 : MSt w ((w.alloc (.cells #[.int .i64 (l).id, .int .i64 (l).ac, .int .i64 (l).st, .int .i64 (l).pp, .int .i64 (l).pi, .int .i64 (l).fee, .int .i64 (l).pen, .int .i64 (l).chg, .int .i64 (l).prov, .int .i64 (l).loss, .int .i64 (l).rcv, .int .i64 ((l).tm).me, .int .i64 ((l).tm).pr, .int .i64 ((l).tm).ppm, .int .i64 ((l).tm).stt, .int .i64 ((l).tm).ev, .int .i64 ((l).tm).ct, .int .i64 ((l).tm).ba, .int .i64 ((l).tm).mo, .int .i64 ((l).tm).pen, .int .i64 ((l).tm).fe, .string ((l).tm).cal, .string ((l).tm).cur, .slice da (l).ds.length dk, .slice ca (l).cs.length ck] 32)).alloc (.cells Zc 32)) Zc l da ca dk ck := ⟨Bk.Blk.nw20, Bk.Blk.nw21, ((Below.refl _ _).alloc (Nat.le_refl _) _).alloc (by simp) _⟩
 have HX := Lib.hid (fun (W : World) (hW : Below w.heap.size w W) => expd_any l da ca dk ck on W (dues_of_row (by omega) (hl.later hW).d) (hC.of hW) (hSt.of hW))
 have HL := Lib.hid hl
 have HN := Lib.hid (And.intro hn hm)
 have l8 := m0.k.c8
 rcases mv_ways l on with ⟨h1, e1, e2, e3⟩ | ⟨h1, h2, e1, e2, e3⟩ | ⟨h1, h2, h3, e1, e2, e3⟩ | ⟨h1, h2, h3, e1, e2, e3⟩
 ·rw [e1, e2, e3]
  clear e1 e2 e3 hl hC hSt
  have g1 : decide (l.prov < 0) = true := decide_eq_true h1
  go_enter Tryz.func7, Tryz.ntmps7
  go_wp2_with (refine wpList_store_row rfl 32 _ _ rfl _ _ rfl rfl _ _ m0.z (by kernel_rfl) rfl (one25 ..) ?_)
  (try simp only [Exit.inBlock, Exit.then])
  refine bodyPost_ret (results3_cell Tryz.results7 _ _ _ _ _ _ _ rfl (Blk_setRow_same m0.z) Tryz.underlying32 rfl (by kernel_rfl)) rfl ?_
  exact ⟨none, 0, none, 0, rfl, ⟨RowIn.none', RowIn.none'⟩, ⟨(fun _ h => by cases h), (fun _ h => by cases h)⟩, Below_setRow m0.b (by omega) _⟩
 ·rw [e1, e2, e3]
  clear e1 e2 e3 hl hC hSt
  have g1 : decide (l.prov < 0) = false := decide_eq_false (by omega)
  go_enter Tryz.func7, Tryz.ntmps7
  go_wp2_with fail
  refine (valid_any l.prov _).mono ?_
  rintro e w' ⟨rfl, rfl⟩
  rw [decide_eq_false (show ¬(-1000000000000 ≤ l.prov ∧ l.prov ≤ 1000000000000) from fun h => by omega)]
  go_wp2_with (refine wpList_store_row rfl 32 _ _ rfl _ _ rfl rfl _ _ m0.z (by kernel_rfl) rfl (one25 ..) ?_)
  (try simp only [Exit.inBlock, Exit.then])
  refine bodyPost_ret (results3_cell Tryz.results7 _ _ _ _ _ _ _ rfl (Blk_setRow_same m0.z) Tryz.underlying32 rfl (by kernel_rfl)) rfl ?_
  exact ⟨none, 0, none, 0, rfl, ⟨RowIn.none', RowIn.none'⟩, ⟨(fun _ h => by cases h), (fun _ h => by cases h)⟩, Below_setRow m0.b (by omega) _⟩
 ·rw [e1, e2, e3]
  clear e1 e2 e3 hl hC hSt
  have g1 : decide (l.prov < 0) = false := decide_eq_false (by omega)
  have g9 : (exE l on != 0) = true := bne_iff_ne.2 h3
  
  clear h3
  generalize exE l on = xe at *
  generalize exV l on = xv at *
  go_enter Tryz.func7, Tryz.ntmps7
  go_wp2_with fail
  refine (valid_any l.prov _).mono ?_
  rintro e w' ⟨rfl, rfl⟩
  rw [decide_eq_true (show -1000000000000 ≤ l.prov ∧ l.prov ≤ 1000000000000 from ⟨by omega, h2⟩)]
  go_upto_region 3 with fail
  go_wp2_with (refine wpList_load_row rfl 32 _ rfl _ rfl _ _ _ _ (m0.k) Tryz.underlying32 rfl (by kernel_rfl) ?_)
  refine (HX.out _ m0.b).mono ?_
  rintro e w2 ⟨rfl, hb⟩
  have m2 := m0.later hb
  clear m0 hb HX l8
  go_wp2_with (refine wpList_store_row rfl 32 _ _ rfl _ _ rfl rfl _ _ m2.z (by kernel_rfl) rfl (one25 ..) ?_)
  (try simp only [Exit.inBlock, Exit.then])
  refine bodyPost_ret (results3_cell Tryz.results7 _ _ _ _ _ _ _ rfl (Blk_setRow_same m2.z) Tryz.underlying32 rfl (by kernel_rfl)) rfl ?_
  exact ⟨none, 0, none, 0, rfl, ⟨RowIn.none', RowIn.none'⟩, ⟨(fun _ h => by cases h), (fun _ h => by cases h)⟩, Below_setRow m2.b (by omega) _⟩
 ·rw [e1, e2, e3]
  clear e1 e2 e3 hl hC hSt
  have g1 : decide (l.prov < 0) = false := decide_eq_false (by omega)
  have g9 : (exE l on != 0) = false := by rw [h3]; rfl
  have HE3 := Lib.hid h3
  clear h3
  generalize exE l on = xe at *
  generalize exV l on = xv at *
  go_enter Tryz.func7, Tryz.ntmps7
  go_wp2_with fail
  refine (valid_any l.prov _).mono ?_
  rintro e w' ⟨rfl, rfl⟩
  rw [decide_eq_true (show -1000000000000 ≤ l.prov ∧ l.prov ≤ 1000000000000 from ⟨by omega, h2⟩)]
  go_upto_region 3 with fail
  go_wp2_with (refine wpList_load_row rfl 32 _ rfl _ rfl _ _ _ _ (m0.k) Tryz.underlying32 rfl (by kernel_rfl) ?_)
  refine (HX.out _ m0.b).mono ?_
  rintro e w2 ⟨rfl, hb⟩
  have m2 := m0.later hb
  clear m0 hb HX l8
  have l8 := m2.k.c8
  have f8 := m2.k.f8
  go_upto_region 8 with fail
  have m3 := m2.put 8 (.int .i64 xv) { l with prov := xv } (da' := da) (ca' := ca) (dk' := dk) (ck' := ck) (by simp)
  clear m2 l8 f8
  generalize w2.setCell ⟨w.heap.size, 8, none⟩ (.int .i64 xv) = w3 at *
  have m3d := m3.drew
  clear m3
  have HCD := Lib.hid (fun (W : World) (hb : Below w.heap.size w W) => cln_due da dk l.ds W (dues_of_row (by have := HN.out.1; omega) (HL.out.later hb).d) HN.out.1)
  have HCC := Lib.hid (fun (W : World) (hb : Below w.heap.size w W) => cln_chg ca ck l.cs W (HL.out.later hb).c HN.out.2)
  have y1 := m3d.k.c23
  have y2 := m3d.k.c24
  go_cut [] from 36 to 43 (MCl w Zc { l with prov := xv })
  case first =>
   go_region_with (first | (go_at_call 17; refine (HCD.out _ (by first | exact m3d.b | exact hP2.b)).mono ?_; rintro e wa ⟨a1, c1, rfl, hr1, hf1, hb1⟩; (first | have hP1 := hP2.later hb1 | have hP1 := m3d.later hb1); have z1 := hP1.k.c23; have z2 := hP1.k.c24; have z3 := hP1.k.f23; have z4 := hP1.k.f24) | (go_at_call 18; refine (HCC.out _ (by first | exact m3d.b | exact hP1.b)).mono ?_; rintro e wb ⟨a2, c2, rfl, hr2, hf2, hb2⟩; (first | have hP2 := hP1.later hb2 | have hP2 := m3d.later hb2); have y1 := hP2.k.c23; have y2 := hP2.k.c24; have y3 := hP2.k.f23; have y4 := hP2.k.f24))
   all_goals
    go_wp2_with fail
    go_meet
    case rel => first | exact mcl_fin hP2 (hr1.later hb2) hr2 hf1 hf2 m3d.sz hP1.sz | exact mcl_fin hP1 hr1 (hr2.later hb1) hf1 hf2 hP2.sz m3d.sz
  obtain ⟨da', ca', dk', ck', m4, hrd, hrc, hfd, hfc⟩ := hcut
  generalize wc = w4 at *
  clear m3d y1 y2 HCD HCC
  go_wp2_with (first | (refine wpList_load_row rfl 32 _ rfl _ rfl _ _ _ _ (m4.k) Tryz.underlying32 rfl (by kernel_rfl) ?_) | (refine wpList_store_row rfl 32 _ _ rfl _ _ rfl rfl _ _ m4.z (by kernel_rfl) rfl (one25 ..) ?_))
  (try simp only [Exit.inBlock, Exit.then])
  refine bodyPost_ret (results3_cell Tryz.results7 _ _ _ _ _ _ _ rfl (Blk_setRow_same m4.z) Tryz.underlying32 rfl (by kernel_rfl)) rfl ?_
  exact ⟨da', dk', ca', ck', rfl, ⟨row_row hrd (fun ad had => by have := hfd ad had; omega), row_row hrc (fun ad had => by have := hfc ad had; omega)⟩, ⟨fun ad had => by have := hfd ad had; omega, fun ad had => by have := hfc ad had; omega⟩, Below_setRow m4.b (by omega) _⟩
theorem move_any (l : Lo) (da ca : Option Addr) (dk ck : Nat) (on : Int) (w : World) (hl : LoIn' w l da ca) (hn : l.ds.length ≤ 100000) (hm : l.cs.length ≤ 100000) (hC : Ctb w) (hSt : Rd.Stp w) :
  Calls Tryz.prog 7 #[(.agg #[.int .i64 (l).id, .int .i64 (l).ac, .int .i64 (l).st, .int .i64 (l).pp, .int .i64 (l).pi, .int .i64 (l).fee, .int .i64 (l).pen, .int .i64 (l).chg, .int .i64 (l).prov, .int .i64 (l).loss, .int .i64 (l).rcv, .int .i64 ((l).tm).me, .int .i64 ((l).tm).pr, .int .i64 ((l).tm).ppm, .int .i64 ((l).tm).stt, .int .i64 ((l).tm).ev, .int .i64 ((l).tm).ct, .int .i64 ((l).tm).ba, .int .i64 ((l).tm).mo, .int .i64 ((l).tm).pen, .int .i64 ((l).tm).fe, .string ((l).tm).cal, .string ((l).tm).cur, .slice da (l).ds.length dk, .slice ca (l).cs.length ck]), .int .i64 on] w (MvP (mvL l on) (mvD l on) (mvE l on) w) := (movf_any l da ca dk ck on w hl hn hm hC hSt).mono fun _ _ h => h.out

end Go.Proofs.YtlolflephnbbcaaGreatDoor.Ln
namespace Go.Proofs.YtlolflephnbbcaaGreatDoor.Ln
open Go.RowKit
open Go.Proofs.YtlolflephnbbcaaGreatDoor

structure LoS where
 (l : Lo) (da ca : Option Addr) (dk ck : Nat)
instance : Inhabited LoS := ⟨⟨zLo', none, none, 0, 0⟩⟩
def lenc (x : LoS) : List Value := [.int .i64 (x.l).id, .int .i64 (x.l).ac, .int .i64 (x.l).st, .int .i64 (x.l).pp, .int .i64 (x.l).pi, .int .i64 (x.l).fee, .int .i64 (x.l).pen, .int .i64 (x.l).chg, .int .i64 (x.l).prov, .int .i64 (x.l).loss, .int .i64 (x.l).rcv, .int .i64 ((x.l).tm).me, .int .i64 ((x.l).tm).pr, .int .i64 ((x.l).tm).ppm, .int .i64 ((x.l).tm).stt, .int .i64 ((x.l).tm).ev, .int .i64 ((x.l).tm).ct, .int .i64 ((x.l).tm).ba, .int .i64 ((x.l).tm).mo, .int .i64 ((x.l).tm).pen, .int .i64 ((x.l).tm).fe, .string ((x.l).tm).cal, .string ((x.l).tm).cur, .slice x.da (x.l).ds.length x.dk, .slice x.ca (x.l).cs.length x.ck]
theorem lenc_len (x : LoS) : (lenc x).length = 25 := rfl
theorem lenc_all (x : LoS) : (lenc x).toArray.all (·.oneCell') = true := one25 ..
structure LosIn (W : World) (a : Option Addr) (xs : List LoS) : Prop where
 row : RowIn lenc W a xs
 each : ∀ x ∈ xs, LoIn' W x.l x.da x.ca
 lens : ∀ x ∈ xs, x.l.ds.length ≤ 2305843009213693951
theorem LosIn.later {W W' : World} {a : Option Addr} {xs : List LoS} (h : LosIn W a xs) (hb : Below W.heap.size W W') : LosIn W' a xs := ⟨h.row.later hb, fun x hx => (h.each x hx).later hb, h.lens⟩
noncomputable def totGo (on : Int) : List LoS → Int → Int × Int
 | [], s => if Rd.gd s then (s, 0) else (0, 6)
 | x :: xs, s => if exE x.l on = 0 then totGo on xs (s + exV x.l on) else (0, exE x.l on)
theorem tot_step {on s : Int} {xs : List LoS} {k : Nat} (h : k < xs.length) : totGo on (xs.drop k) s = if exE xs[k]!.l on = 0 then totGo on (xs.drop (k + 1)) (s + exV xs[k]!.l on) else (0, exE xs[k]!.l on) := by
 rw [List.drop_eq_getElem_cons h, getElem!_pos xs k h]
 rfl
theorem tot_end {on s : Int} {xs : List LoS} {k : Nat} (h : ¬k < xs.length) : totGo on (xs.drop k) s = if Rd.gd s then (s, 0) else (0, 6) := by
 rw [List.drop_eq_nil_of_le (by omega)]
 rfl
theorem ex_bd {l : Lo} {on : Int} (h : exE l on = 0) : -1000000000000 ≤ exV l on ∧ exV l on ≤ 1000000000000 := by
 have hr := rte_bd (stgL l on)
 unfold exE Rd.pcE at h
 unfold exV Rd.pcV
 generalize wrap64 (P l.ds - l.pp) = a at *
 generalize rteS (stgL l on) = p at *
 by_cases hg : Rd.gd a ∧ 0 ≤ p ∧ p ≤ 1000000
 ·rw [if_pos hg] at h ⊢
  obtain ⟨_, hv, _⟩ := Rd.rdE_0 h
  rw [hv]
  have hn := Rd.rd_near (x := a * p) (n := 1000000) (mode := 2) (by omega)
  have h1 : a * p ≤ 1000000000000 * 450000 := by
   have := Int.mul_le_mul_of_nonneg_right (hg.1.2) hr.1
   have := Int.mul_le_mul_of_nonneg_left hr.2 (show (0 : Int) ≤ 1000000000000 by omega)
   omega
  have h2 : -(1000000000000 * 450000) ≤ a * p := by
   have := Int.mul_le_mul_of_nonneg_right (hg.1.1) hr.1
   have := Int.mul_le_mul_of_nonneg_left hr.2 (show (0 : Int) ≤ 1000000000000 by omega)
   rw [Int.neg_mul] at *
   omega
  generalize a * p = x at *
  generalize Rd.rd x 1000000 2 = r at *
  omega
 ·rw [if_neg hg] at h
  omega
def toR (w : World) (xs : List LoS) (on : Int) (g : Nat) (s6 s7 s14 : Value) (W : World) : Prop := ∃ (k : Nat) (s : Int), k + g = xs.length ∧ s14 = .int .i64 k ∧ s6 = .int .i64 s ∧ s7 = .bool false ∧ (-(k * 1000000000000 : Int) ≤ s ∧ s ≤ k * 1000000000000) ∧ totGo on (xs.drop k) s = totGo on xs 0 ∧ Below w.heap.size w W
def rtoR (w : World) (xs : List LoS) (on : Int) (g : Nat) (s6 s7 : Value) (W : World) : Prop := ∃ (k : Nat) (s : Int), k + g = xs.length ∧ s7 = .int .i64 k ∧ s6 = .int .i64 s ∧ (-(k * 1000000000000 : Int) ≤ s ∧ s ≤ k * 1000000000000) ∧ totGo on (xs.drop k) s = totGo on xs 0 ∧ Below w.heap.size w W

set_option maxRecDepth 100000 in
set_option maxHeartbeats 8000000 in
theorem total_any (a : Option Addr) (cap : Nat) (xs : List LoS) (on : Int) (w : World) (h : LosIn w a xs) (hn : xs.length ≤ 100000) (hC : Ctb w) (hSt : Rd.Stp w) :
  Calls Tryz.prog 39 #[.slice a xs.length cap, .int .i64 on] w fun e w' => e = .returned (.tuple #[.int .i64 (totGo on xs 0).1, .int .i64 (totGo on xs 0).2]) ∧ Below w.heap.size w w' := by
 have HX := Lib.hid (fun (x : LoS) (hx : x ∈ xs) (W : World) (hW : Below w.heap.size w W) => expd_any x.l x.da x.ca x.dk x.ck on W (dues_of_row (h.lens x hx) ((h.each x hx).later hW).d) (hC.of hW) (hSt.of hW))
 have H := Lib.hid h
 clear h hC hSt
 go_enter Tryz.func39, Tryz.ntmps39
 go_wp2_with fail
 go_loopg [6, 7, 14] xs.length (toR w xs on)
 case atStart => exact ⟨0, 0, by omega, rfl, rfl, rfl, by omega, rfl, Below.refl _ _⟩
 case round =>
  obtain ⟨k, s, hk, rfl, rfl, rfl, hb, hgo, hbr⟩ := hrel
  have HGO := Lib.hid hgo
  clear hgo
  by_cases hlt : k < xs.length
  ·obtain ⟨b, off, rfl, hc⟩ := (H.out.row.later hbr).mid lenc_len (by omega)
   have hx := hc k hlt
   have hm : xs[k]! ∈ xs := by rw [getElem!_pos xs k hlt]; exact List.getElem_mem hlt
   have hs := HGO.out
   rw [tot_step hlt] at hs
   have HS := Lib.hid hs
   have HXX := Lib.hid (HX.out xs[k]! hm)
   have HEB := Lib.hid (fun (h : exE xs[k]!.l on = 0) => ex_bd h)
   clear hc hs hm
   generalize xs[k]! = x at *
   generalize exE x.l on = xe at *
   generalize exV x.l on = xv at *
   go_upto_region 5 with (first | (refine wpList_load_mid rfl 32 _ rfl b (off + k * 25) (by rfl) (lenc x) _ hx Tryz.underlying32 rfl (by kernel_rfl) ?_) | (refine wpList_store_row rfl 32 _ _ rfl _ _ rfl rfl _ _ Bk.Blk.nw10 (by kernel_rfl) rfl (lenc_all x) ?_))
   have hbs : Below wr.heap.size wr ((wr.alloc (.cells #[.int .i64 0, .int .i64 0, .int .i64 0, .int .i64 0, .int .i64 0, .int .i64 0, .int .i64 0, .int .i64 0, .int .i64 0, .int .i64 0, .int .i64 0, .int .i64 0, .int .i64 0, .int .i64 0, .int .i64 0, .int .i64 0, .int .i64 0, .int .i64 0, .int .i64 0, .int .i64 0, .int .i64 0, .string { data := #[] }, .string { data := #[] }, .slice none 0 0, .slice none 0 0] 32)).setRow wr.heap.size (lenc x).toArray) := Below_setRow ((Below.refl _ _).alloc (Nat.le_refl _) _) (Nat.le_refl _) _
   have kx : Bk.Blk ((wr.alloc (.cells #[.int .i64 0, .int .i64 0, .int .i64 0, .int .i64 0, .int .i64 0, .int .i64 0, .int .i64 0, .int .i64 0, .int .i64 0, .int .i64 0, .int .i64 0, .int .i64 0, .int .i64 0, .int .i64 0, .int .i64 0, .int .i64 0, .int .i64 0, .int .i64 0, .int .i64 0, .int .i64 0, .int .i64 0, .string { data := #[] }, .string { data := #[] }, .slice none 0 0, .slice none 0 0] 32)).setRow wr.heap.size (lenc x).toArray) wr.heap.size (lenc x).toArray 32 := Blk_setRow_same Bk.Blk.nw10
   have b1 := bl2 hbs hbr
   clear hbs hx hbr
   generalize ((wr.alloc (.cells _ 32)).setRow wr.heap.size (lenc x).toArray) = w1 at *
   go_wp2_with (refine wpList_load_row rfl 32 _ rfl _ rfl _ _ _ _ (kx) Tryz.underlying32 rfl (by kernel_rfl) ?_)
   refine (HXX.out _ b1).mono ?_
   rintro e w2 ⟨rfl, hb2⟩
   have b2 := bl2 hb2 b1
   clear hb2 b1 kx
   by_cases h0 : xe = 0
   ·have g0 : (xe != 0) = false := by rw [h0]; rfl
    have HE := Lib.hid (show totGo on (xs.drop (k + 1)) (s + xv) = totGo on xs 0 by have := HS.out; rw [if_pos h0] at this; exact this)
    have hxb := HEB.out h0
    clear h0 HEB
    have q1 : decide (1152921504606846976 < s + xv) = false := decide_eq_false (by omega)
    have q2 : decide (s + xv < -1152921504606846976) = false := decide_eq_false (by omega)
    go_wp2_with fail
    go_roundg (gk - 1)
    case measure => omega
    case rel => exact ⟨k + 1, s + xv, by omega, by go_num, by go_num, by simp, by omega, HE.out, b2⟩
   ·have g0 : (xe != 0) = true := bne_iff_ne.2 h0
    have HE := Lib.hid (show (0, xe) = totGo on xs 0 by have := HS.out; rw [if_neg h0] at this; exact this)
    clear h0 HEB
    go_wp2_with fail
    go_ret2
    exact ⟨by rw [← HE.out]; rfl, b2⟩
  ·have hs := HGO.out
   rw [tot_end hlt] at hs
   have HS := Lib.hid hs
   clear hs
   by_cases hg : Rd.gd s
   ·have HE := Lib.hid (show (s, 0) = totGo on xs 0 by have := HS.out; rw [if_pos hg] at this; exact this)
    have hg' : -1000000000000 ≤ s ∧ s ≤ 1000000000000 := hg
    go_wp2_with fail
    refine (valid_any s _).mono ?_
    rintro e w' ⟨rfl, rfl⟩
    rw [decide_eq_true hg']
    go_wp2_with fail
    go_ret2
    exact ⟨by rw [← HE.out]; rfl, hbr⟩
   ·have HE := Lib.hid (show (0, 6) = totGo on xs 0 by have := HS.out; rw [if_neg hg] at this; exact this)
    go_wp2_with fail
    refine (valid_any s _).mono ?_
    rintro e w' ⟨rfl, rfl⟩
    rw [decide_eq_false (show ¬(-1000000000000 ≤ s ∧ s ≤ 1000000000000) from hg)]
    go_wp2_with fail
    go_ret2
    exact ⟨by rw [← HE.out]; rfl, hbr⟩

def litL : Lo := ⟨0, 0, 1, 0, 0, 0, 0, 0, 0, 0, 0, zTm', [⟨1, 10, 1005, 0⟩], []⟩
def litM : Lo := { litL with prov := 453 }
theorem pc_1 : Rd.pcV 1005 10000 2 = 11 ∧ Rd.pcE 1005 10000 2 = 0 := by
 have hk : Rd.rok 1000000 2 := ⟨by omega, by omega, by omega⟩
 unfold Rd.pcV Rd.pcE
 rw [if_pos (by unfold Rd.gd; omega), if_pos (by unfold Rd.gd; omega), (Rd.rd_yes hk).1, (Rd.rd_yes hk).2]; decide
theorem pc_2 : Rd.pcV 1005 100000 2 = 101 ∧ Rd.pcE 1005 100000 2 = 0 := by
 have hk : Rd.rok 1000000 2 := ⟨by omega, by omega, by omega⟩
 unfold Rd.pcV Rd.pcE
 rw [if_pos (by unfold Rd.gd; omega), if_pos (by unfold Rd.gd; omega), (Rd.rd_yes hk).1, (Rd.rd_yes hk).2]; decide
theorem pc_3 : Rd.pcV 1005 450000 2 = 453 ∧ Rd.pcE 1005 450000 2 = 0 := by
 have hk : Rd.rok 1000000 2 := ⟨by omega, by omega, by omega⟩
 unfold Rd.pcV Rd.pcE
 rw [if_pos (by unfold Rd.gd; omega), if_pos (by unfold Rd.gd; omega), (Rd.rd_yes hk).1, (Rd.rd_yes hk).2]; decide
theorem ex_at {l : Lo} {on a p v c : Int} (ha : wrap64 (P l.ds - l.pp) = a) (hp : rteS (stgL l on) = p) (h : Rd.pcV a p 2 = v ∧ Rd.pcE a p 2 = c) : exV l on = v ∧ exE l on = c := by
 unfold exV exE
 rw [ha, hp]
 exact h
theorem ex_10 : exV litL 10 = 11 ∧ exE litL 10 = 0 := ex_at (a := 1005) (p := 10000) (by kernel_rfl) (by kernel_rfl) pc_1
theorem ex_41 : exV litL 41 = 101 ∧ exE litL 41 = 0 := ex_at (a := 1005) (p := 100000) (by kernel_rfl) (by kernel_rfl) pc_2
theorem ex_101 : exV litL 101 = 453 ∧ exE litL 101 = 0 := ex_at (a := 1005) (p := 450000) (by kernel_rfl) (by kernel_rfl) pc_3
theorem mv_101 : mvL litL 101 = litM ∧ mvD litL 101 = 453 ∧ mvE litL 101 = 0 := by
 have e : mvE litL 101 = 0 := by
  unfold mvE
  rw [if_pos (by decide)]
  exact ex_101.2
 refine ⟨?_, ?_, e⟩
 ·unfold mvL
  rw [if_pos e, ex_101.1]
  rfl
 ·unfold mvD
  rw [if_pos e, ex_101.1]
  kernel_rfl
theorem tot_10 (x : LoS) (h : x.l = litL) : totGo 10 [x, x] 0 = (22, 0) := by
 unfold totGo totGo totGo
 rw [h, ex_10.1, ex_10.2]
 decide
theorem exp_at {l : Lo} {on v c : Int} (he : exV l on = v ∧ exE l on = c) (da ca : Option Addr) (dk ck : Nat) (w : World) (h : LoIn' w l da ca) (hn : l.ds.length ≤ 100000) (hC : Ctb w) (hSt : Rd.Stp w) :
  Calls Tryz.prog 16 #[(.agg #[.int .i64 (l).id, .int .i64 (l).ac, .int .i64 (l).st, .int .i64 (l).pp, .int .i64 (l).pi, .int .i64 (l).fee, .int .i64 (l).pen, .int .i64 (l).chg, .int .i64 (l).prov, .int .i64 (l).loss, .int .i64 (l).rcv, .int .i64 ((l).tm).me, .int .i64 ((l).tm).pr, .int .i64 ((l).tm).ppm, .int .i64 ((l).tm).stt, .int .i64 ((l).tm).ev, .int .i64 ((l).tm).ct, .int .i64 ((l).tm).ba, .int .i64 ((l).tm).mo, .int .i64 ((l).tm).pen, .int .i64 ((l).tm).fe, .string ((l).tm).cal, .string ((l).tm).cur, .slice da (l).ds.length dk, .slice ca (l).cs.length ck]), .int .i64 on] w fun e w' => e = .returned (.tuple #[.int .i64 v, .int .i64 c]) ∧ Below w.heap.size w w' := by
 obtain ⟨rfl, rfl⟩ := he
 exact expd_any l da ca dk ck on w (dues_of_row (by omega) h.d) hC hSt
theorem mov_at {l L : Lo} {on D E : Int} (he : mvL l on = L ∧ mvD l on = D ∧ mvE l on = E) (da ca : Option Addr) (dk ck : Nat) (w : World) (h : LoIn' w l da ca) (hn : l.ds.length ≤ 100000) (hm : l.cs.length ≤ 100000) (hC : Ctb w) (hSt : Rd.Stp w) :
  Calls Tryz.prog 7 #[(.agg #[.int .i64 (l).id, .int .i64 (l).ac, .int .i64 (l).st, .int .i64 (l).pp, .int .i64 (l).pi, .int .i64 (l).fee, .int .i64 (l).pen, .int .i64 (l).chg, .int .i64 (l).prov, .int .i64 (l).loss, .int .i64 (l).rcv, .int .i64 ((l).tm).me, .int .i64 ((l).tm).pr, .int .i64 ((l).tm).ppm, .int .i64 ((l).tm).stt, .int .i64 ((l).tm).ev, .int .i64 ((l).tm).ct, .int .i64 ((l).tm).ba, .int .i64 ((l).tm).mo, .int .i64 ((l).tm).pen, .int .i64 ((l).tm).fe, .string ((l).tm).cal, .string ((l).tm).cur, .slice da (l).ds.length dk, .slice ca (l).cs.length ck]), .int .i64 on] w (MvP L D E w) := by
 obtain ⟨rfl, rfl, rfl⟩ := he
 exact move_any l da ca dk ck on w h hn hm hC hSt
theorem stg_at {l : Lo} {on s : Int} (he : stgL l on = s) (da ca : Option Addr) (dk ck : Nat) (w : World) (h : LoIn' w l da ca) (hn : l.ds.length ≤ 100000) (hC : Ctb w) :
  Calls Tryz.prog 40 #[(.agg #[.int .i64 (l).id, .int .i64 (l).ac, .int .i64 (l).st, .int .i64 (l).pp, .int .i64 (l).pi, .int .i64 (l).fee, .int .i64 (l).pen, .int .i64 (l).chg, .int .i64 (l).prov, .int .i64 (l).loss, .int .i64 (l).rcv, .int .i64 ((l).tm).me, .int .i64 ((l).tm).pr, .int .i64 ((l).tm).ppm, .int .i64 ((l).tm).stt, .int .i64 ((l).tm).ev, .int .i64 ((l).tm).ct, .int .i64 ((l).tm).ba, .int .i64 ((l).tm).mo, .int .i64 ((l).tm).pen, .int .i64 ((l).tm).fe, .string ((l).tm).cal, .string ((l).tm).cur, .slice da (l).ds.length dk, .slice ca (l).cs.length ck]), .int .i64 on] w fun e w' => e = .returned (.int .i64 s) ∧ Below w.heap.size w w' := by
 subst he
 exact pstage_any l da ca dk ck on w (dues_of_row (by omega) h.d) hC
theorem rte_at {s r : Int} (he : rteS s = r) (w : World) : Calls Tryz.prog 41 #[.int .i64 s] w fun e w' => e = .returned (.int .i64 r) ∧ Below w.heap.size w w' := by
 subst he
 exact prate_any s w
theorem row_of_blk' {α : Type} {enc : α → List Value} {W : World} {g : Nat} {t : TypeId} {xs : List α} (h : Bk.Blk W g (flat enc xs).toArray t) : RowIn enc W (some ⟨g, 0, none⟩) xs := fun _ =>
 ⟨g, 0, rfl, fun j u hj => by rw [Nat.zero_add, h.cell]; simpa using hj⟩
theorem los2 {w : World} {x : LoS} (h : LoIn' w x.l x.da x.ca) (hn : x.l.ds.length ≤ 100000) : LosIn (w.alloc (.cells (lenc x ++ lenc x).toArray 32)) (some ⟨w.heap.size, 0, none⟩) [x, x] ∧ Below w.heap.size w (w.alloc (.cells (lenc x ++ lenc x).toArray 32)) := by
 have hb : Below w.heap.size w (w.alloc (.cells (lenc x ++ lenc x).toArray 32)) := (Below.refl _ _).alloc (Nat.le_refl _) _
 have hx : ∀ y ∈ [x, x], y = x := by simp
 exact ⟨⟨row_of_blk' (xs := [x, x]) (by simpa [flat] using (Bk.Blk.nw10 (W := w) (cs := (lenc x ++ lenc x).toArray) (t := 32))), fun y hy => by rw [hx y hy]; exact h.later hb, fun y hy => by rw [hx y hy]; omega⟩, hb⟩
theorem tot_at {w w1 : World} {x : LoS} {a : Option Addr} {cap : Nat} (hl : x.l = litL) (hL : LosIn w1 a [x, x]) (hb : Below w.heap.size w w1) (hC : Ctb w1) (hSt : Rd.Stp w1) :
  Calls Tryz.prog 39 #[.slice a 2 cap, .int .i64 10] w1 fun e w' => e = .returned (.tuple #[.int .i64 22, .int .i64 0]) ∧ Below w.heap.size w w' := by
 refine (total_any a cap [x, x] 10 w1 hL (by simp) hC hSt).mono ?_
 rintro e w' ⟨rfl, h⟩
 rw [tot_10 x hl]
 exact ⟨rfl, bl2 h hb⟩
set_option maxRecDepth 100000 in
set_option maxHeartbeats 16000000 in
theorem live38_any (w : World) (hC : Ctb w) (hSt : Rd.Stp w) : Calls Tryz.prog 12 #[] w fun e w' => e = .returned (.bool true) ∧ Below w.heap.size w w' := by
 have HCt := Lib.hid (fun (W : World) (hW : Below w.heap.size w W) => And.intro (hC.of hW) (hSt.of hW))
 clear hC hSt
 obtain ⟨A, hA⟩ : ∃ A, A = litM := ⟨_, rfl⟩
 have q8 : (A.prov == 453) = true := by rw [hA]; rfl
 have HM := Lib.hid (mv_101)
 rw [← hA] at HM
 have HMV := Lib.hid (mov_at HM.out)
 clear hA HM
 go_enter Tryz.func12, Tryz.ntmps12
 have hbb : Below w.heap.size w (w.alloc (.cells #[.int .i64 1, .int .i64 10, .int .i64 1005, .int .i64 0] 47)) := (Below.refl _ _).alloc (Nat.le_refl _) _
 have hdd : LoIn' (w.alloc (.cells #[.int .i64 1, .int .i64 10, .int .i64 1005, .int .i64 0] 47)) litL (some ⟨w.heap.size, 0, none⟩) none := ⟨row_of_blk' (xs := litL.ds) Bk.Blk.nw10, RowIn.none'⟩
 go_upto_region 2 with (refine wpList_store_row rfl 32 _ _ rfl _ _ rfl rfl _ _ Bk.Blk.nw21 (by kernel_rfl) rfl (one25 ..) ?_)
 have k1 : Bk.Blk (((w.alloc (.cells #[.int .i64 1, .int .i64 10, .int .i64 1005, .int .i64 0] 47)).alloc (.cells #[.int .i64 0, .int .i64 0, .int .i64 0, .int .i64 0, .int .i64 0, .int .i64 0, .int .i64 0, .int .i64 0, .int .i64 0, .int .i64 0, .int .i64 0, .int .i64 0, .int .i64 0, .int .i64 0, .int .i64 0, .int .i64 0, .int .i64 0, .int .i64 0, .int .i64 0, .int .i64 0, .int .i64 0, .string { data := #[] }, .string { data := #[] }, .slice none 0 0, .slice none 0 0] 32)).setRow (w.heap.size + 1) #[.int .i64 0, .int .i64 0, .int .i64 1, .int .i64 0, .int .i64 0, .int .i64 0, .int .i64 0, .int .i64 0, .int .i64 0, .int .i64 0, .int .i64 0, .int .i64 0, .int .i64 0, .int .i64 0, .int .i64 0, .int .i64 0, .int .i64 0, .int .i64 0, .int .i64 0, .int .i64 0, .int .i64 0, .string { data := #[] }, .string { data := #[] }, .slice (some ⟨w.heap.size, 0, none⟩) 1 1, .slice none 0 0]) (w.heap.size + 1) _ 32 := Blk_setRow_same Bk.Blk.nw21
 have hbs : Below (w.alloc (.cells #[.int .i64 1, .int .i64 10, .int .i64 1005, .int .i64 0] 47)).heap.size (w.alloc (.cells #[.int .i64 1, .int .i64 10, .int .i64 1005, .int .i64 0] 47)) (((w.alloc (.cells #[.int .i64 1, .int .i64 10, .int .i64 1005, .int .i64 0] 47)).alloc (.cells #[.int .i64 0, .int .i64 0, .int .i64 0, .int .i64 0, .int .i64 0, .int .i64 0, .int .i64 0, .int .i64 0, .int .i64 0, .int .i64 0, .int .i64 0, .int .i64 0, .int .i64 0, .int .i64 0, .int .i64 0, .int .i64 0, .int .i64 0, .int .i64 0, .int .i64 0, .int .i64 0, .int .i64 0, .string { data := #[] }, .string { data := #[] }, .slice none 0 0, .slice none 0 0] 32)).setRow (w.heap.size + 1) #[.int .i64 0, .int .i64 0, .int .i64 1, .int .i64 0, .int .i64 0, .int .i64 0, .int .i64 0, .int .i64 0, .int .i64 0, .int .i64 0, .int .i64 0, .int .i64 0, .int .i64 0, .int .i64 0, .int .i64 0, .int .i64 0, .int .i64 0, .int .i64 0, .int .i64 0, .int .i64 0, .int .i64 0, .string { data := #[] }, .string { data := #[] }, .slice (some ⟨w.heap.size, 0, none⟩) 1 1, .slice none 0 0]) := Below_setRow ((Below.refl _ _).alloc (Nat.le_refl _) _) (by simp) _
 have hl := hdd.later hbs
 have cw1 := bl2 hbs hbb
 clear hdd hbb hbs
 generalize (((w.alloc (.cells _ 47)).alloc (.cells _ 32)).setRow (w.heap.size + 1) _) = w1 at *
 generalize w.heap.size + 1 = g1 at *
 generalize w.heap.size = g0 at hl k1 ⊢
 go_wp2_with (refine wpList_load_row rfl 32 _ rfl _ rfl _ _ _ _ (k1) Tryz.underlying32 rfl (by kernel_rfl) ?_)
 refine (exp_at ex_10 _ _ _ _ _ hl (by decide) (HCt.out _ cw1).1 (HCt.out _ cw1).2).mono ?_
 rintro e w2 ⟨rfl, hb⟩
 replace k1 := k1.later hb
 replace hl := hl.later hb
 have cw2 := bl2 hb cw1
 clear hb cw1
 go_wp2_with (refine wpList_load_row rfl 32 _ rfl _ rfl _ _ _ _ (k1) Tryz.underlying32 rfl (by kernel_rfl) ?_)
 refine (exp_at ex_41 _ _ _ _ _ hl (by decide) (HCt.out _ cw2).1 (HCt.out _ cw2).2).mono ?_
 rintro e w3 ⟨rfl, hb⟩
 replace k1 := k1.later hb
 replace hl := hl.later hb
 have cw3 := bl2 hb cw2
 clear hb cw2
 go_wp2_with (refine wpList_load_row rfl 32 _ rfl _ rfl _ _ _ _ (k1) Tryz.underlying32 rfl (by kernel_rfl) ?_)
 refine (HMV.out _ _ _ _ _ hl (by decide) (by decide) (HCt.out _ cw3).1 (HCt.out _ cw3).2).mono ?_
 rintro e w4 ⟨da2, dk2, ca2, ck2, rfl, hlA, hb⟩
 replace k1 := k1.later hb
 replace hl := hl.later hb
 have cw4 := bl2 hb cw3
 clear hb cw3
 go_upto_region 5 with (refine wpList_store_row rfl 32 _ _ rfl _ _ rfl rfl _ _ Bk.Blk.nw10 (by kernel_rfl) rfl (one25 ..) ?_)
 have hbs : Below w4.heap.size w4 ((w4.alloc (.cells #[.int .i64 0, .int .i64 0, .int .i64 0, .int .i64 0, .int .i64 0, .int .i64 0, .int .i64 0, .int .i64 0, .int .i64 0, .int .i64 0, .int .i64 0, .int .i64 0, .int .i64 0, .int .i64 0, .int .i64 0, .int .i64 0, .int .i64 0, .int .i64 0, .int .i64 0, .int .i64 0, .int .i64 0, .string { data := #[] }, .string { data := #[] }, .slice none 0 0, .slice none 0 0] 32)).setRow w4.heap.size #[.int .i64 (A).id, .int .i64 (A).ac, .int .i64 (A).st, .int .i64 (A).pp, .int .i64 (A).pi, .int .i64 (A).fee, .int .i64 (A).pen, .int .i64 (A).chg, .int .i64 (A).prov, .int .i64 (A).loss, .int .i64 (A).rcv, .int .i64 ((A).tm).me, .int .i64 ((A).tm).pr, .int .i64 ((A).tm).ppm, .int .i64 ((A).tm).stt, .int .i64 ((A).tm).ev, .int .i64 ((A).tm).ct, .int .i64 ((A).tm).ba, .int .i64 ((A).tm).mo, .int .i64 ((A).tm).pen, .int .i64 ((A).tm).fe, .string ((A).tm).cal, .string ((A).tm).cur, .slice da2 (A).ds.length dk2, .slice ca2 (A).cs.length ck2]) := Below_setRow ((Below.refl _ _).alloc (Nat.le_refl _) _) (Nat.le_refl _) _
 have k2 : Bk.Blk ((w4.alloc (.cells #[.int .i64 0, .int .i64 0, .int .i64 0, .int .i64 0, .int .i64 0, .int .i64 0, .int .i64 0, .int .i64 0, .int .i64 0, .int .i64 0, .int .i64 0, .int .i64 0, .int .i64 0, .int .i64 0, .int .i64 0, .int .i64 0, .int .i64 0, .int .i64 0, .int .i64 0, .int .i64 0, .int .i64 0, .string { data := #[] }, .string { data := #[] }, .slice none 0 0, .slice none 0 0] 32)).setRow w4.heap.size #[.int .i64 (A).id, .int .i64 (A).ac, .int .i64 (A).st, .int .i64 (A).pp, .int .i64 (A).pi, .int .i64 (A).fee, .int .i64 (A).pen, .int .i64 (A).chg, .int .i64 (A).prov, .int .i64 (A).loss, .int .i64 (A).rcv, .int .i64 ((A).tm).me, .int .i64 ((A).tm).pr, .int .i64 ((A).tm).ppm, .int .i64 ((A).tm).stt, .int .i64 ((A).tm).ev, .int .i64 ((A).tm).ct, .int .i64 ((A).tm).ba, .int .i64 ((A).tm).mo, .int .i64 ((A).tm).pen, .int .i64 ((A).tm).fe, .string ((A).tm).cal, .string ((A).tm).cur, .slice da2 (A).ds.length dk2, .slice ca2 (A).cs.length ck2]) w4.heap.size _ 32 := Blk_setRow_same Bk.Blk.nw10
 replace k1 := k1.later hbs
 replace hl := hl.later hbs
 have cw5 := bl2 hbs cw4
 clear cw4 hbs
 generalize ((w4.alloc (.cells _ 32)).setRow w4.heap.size _) = w5 at *
 generalize w4.heap.size = g2 at *
 have hLL := los2 (x := (⟨litL, some ⟨g0, 0, none⟩, none, 1, 0⟩ : LoS)) hl (show litL.ds.length ≤ 100000 by decide)
 go_wp2_with (refine wpList_load_row rfl 32 _ rfl _ rfl _ _ _ _ (k1) Tryz.underlying32 rfl (by kernel_rfl) ?_)
 refine (tot_at (x := (⟨litL, some ⟨g0, 0, none⟩, none, 1, 0⟩ : LoS)) rfl hLL.1 hLL.2 (HCt.out _ (bl2 hLL.2 cw5)).1 (HCt.out _ (bl2 hLL.2 cw5)).2).mono ?_
 clear hLL
 rintro e w6 ⟨rfl, hb⟩
 replace k1 := k1.later hb
 replace hl := hl.later hb
 replace k2 := k2.later hb
 have cw6 := bl2 hb cw5
 clear hb cw5
 have l8 := k2.c8
 go_wp2_with (refine load_guarded 32 _ rfl rfl _ rfl _ _ _ _ (k1) Tryz.underlying32 rfl (by kernel_rfl) ?_)
 clear l8
 refine (stg_at (l := litL) (on := 101) (s := 3) (by kernel_rfl) _ _ _ _ _ hl (by decide) (HCt.out _ cw6).1).mono ?_
 rintro e w7 ⟨rfl, hb⟩
 replace k1 := k1.later hb
 replace hl := hl.later hb
 replace k2 := k2.later hb
 have cw7 := bl2 hb cw6
 clear hb cw6
 go_wp2_with fail
 refine (stg_at (l := zLo') (on := 5) (s := 0) (by kernel_rfl) none none 0 0 _ ⟨RowIn.none', RowIn.none'⟩ (by decide) (HCt.out _ cw7).1).mono ?_
 rintro e w8 ⟨rfl, hb⟩
 replace k1 := k1.later hb
 replace hl := hl.later hb
 replace k2 := k2.later hb
 have cw8 := bl2 hb cw7
 clear hb cw7
 go_wp2_with fail
 refine (rte_at (s := 2) (r := 100000) (by kernel_rfl) _).mono ?_
 rintro e w9 ⟨rfl, hb⟩
 replace k1 := k1.later hb
 replace hl := hl.later hb
 replace k2 := k2.later hb
 have cw9 := bl2 hb cw8
 clear hb cw8
 go_wp2_with fail
 refine (rte_at (s := 4) (r := 0) (by kernel_rfl) _).mono ?_
 rintro e wx ⟨rfl, hb⟩
 replace k1 := k1.later hb
 replace hl := hl.later hb
 replace k2 := k2.later hb
 have cwx := bl2 hb cw9
 clear hb cw9
 go_wp2_with fail
 go_ret
 exact ⟨rfl, cwx⟩
set_option linter.unusedSimpArgs false

structure LosIn0 (W : World) (a : Option Addr) (xs : List LoS) : Prop where
 row : RowIn lenc W a xs
 each : ∀ x ∈ xs, LoIn' W x.l x.da x.ca
theorem LosIn0.later {W W' : World} {a : Option Addr} {xs : List LoS} (h : LosIn0 W a xs) (hb : Below W.heap.size W W') : LosIn0 W' a xs := ⟨h.row.later hb, fun x hx => (h.each x hx).later hb⟩
def greatLs (xs : List LoS) : Bool := (xs.take 13).any (fun x => great38 x.l) || decide (12 < xs.length)
def glR (w : World) (xs : List LoS) (g : Nat) (s3 : Value) (W : World) : Prop := ∃ k : Nat, k + g = min xs.length 13 ∧ s3 = .int .i64 k ∧ (∀ j, j < k → great38 xs[j]!.l = false) ∧ Below w.heap.size w W

def Lo.prv (l : Lo) (v : Int) : Lo := { l with prov := v }
theorem mv_prv {l : Lo} (h : Ok l) (hg : Rd.gd (wrap64 (P l.ds - l.pp))) {v : Int} (h0 : 0 ≤ v) (h1 : v ≤ 1000000000000) (on : Int) :
  mvL (l.prv v) on = l.prv (exV l on) ∧ mvD (l.prv v) on = exV l on - v ∧ mvE (l.prv v) on = 0 ∧ 0 ≤ exV l on ∧ exV l on ≤ 1000000000000 := by
 have hx := ex_ok h hg on
 have ho := h.out0
 have hg2 := hg.2
 have he : exE (l.prv v) on = 0 := hx.1
 have hv : exV (l.prv v) on = exV l on := rfl
 have hp : (l.prv v).prov = v := rfl
 have e : mvE (l.prv v) on = 0 := by
  unfold mvE
  rw [hp, if_pos ⟨h0, h1⟩, he]
 refine ⟨?_, ?_, e, hx.2.1, by omega⟩
 ·unfold mvL
  rw [if_pos e, hv]
  rfl
 ·unfold mvD
  rw [if_pos e, hv, hp, wrap_in (by omega) (by omega)]
theorem mov_prv {l : Lo} (h : Ok l) (hg : Rd.gd (wrap64 (P l.ds - l.pp))) (hn : l.ds.length ≤ 100000 ∧ l.cs.length ≤ 100000) {v : Int} (h0 : 0 ≤ v ∧ v ≤ 1000000000000) (on : Int) (da ca : Option Addr) (dk ck : Nat) (W : World) (hl : LoIn' W (l.prv v) da ca) (hC : Ctb W) (hSt : Rd.Stp W) :
  Calls Tryz.prog 7 #[(.agg #[.int .i64 (l.prv v).id, .int .i64 (l.prv v).ac, .int .i64 (l.prv v).st, .int .i64 (l.prv v).pp, .int .i64 (l.prv v).pi, .int .i64 (l.prv v).fee, .int .i64 (l.prv v).pen, .int .i64 (l.prv v).chg, .int .i64 (l.prv v).prov, .int .i64 (l.prv v).loss, .int .i64 (l.prv v).rcv, .int .i64 ((l.prv v).tm).me, .int .i64 ((l.prv v).tm).pr, .int .i64 ((l.prv v).tm).ppm, .int .i64 ((l.prv v).tm).stt, .int .i64 ((l.prv v).tm).ev, .int .i64 ((l.prv v).tm).ct, .int .i64 ((l.prv v).tm).ba, .int .i64 ((l.prv v).tm).mo, .int .i64 ((l.prv v).tm).pen, .int .i64 ((l.prv v).tm).fe, .string ((l.prv v).tm).cal, .string ((l.prv v).tm).cur, .slice da (l.prv v).ds.length dk, .slice ca (l.prv v).cs.length ck]), .int .i64 on] W (MvF (l.prv (exV l on)) (exV l on - v) 0 W) := by
 have hm := mv_prv h hg h0.1 h0.2 on
 have hc := movf_any (l.prv v) da ca dk ck on W hl hn.1 hn.2 hC hSt
 rw [hm.1, hm.2.1, hm.2.2.1] at hc
 exact hc
theorem rows_set {W : World} {g : Nat} {cs : Array Value} {L : Lo} {da ca : Option Addr} (h : LoIn' W L da ca) (hne : (∀ ad, da = some ad → ad.block ≠ g) ∧ (∀ ad, ca = some ad → ad.block ≠ g)) : LoIn' (W.setRow g cs) L da ca :=
 ⟨h.d.blk (fun ad had => setRow_other _ _ _ _ (hne.1 ad had)), h.c.blk (fun ad had => setRow_other _ _ _ _ (hne.2 ad had))⟩
def mvR (w : World) (l : Lo) (da ca : Option Addr) (dk ck g5 : Nat) (ds : List Int) (g : Nat) (s6 s7 : Value) (W : World) : Prop :=
 ∃ (k : Nat) (v : Int) (da' ca' : Option Addr) (dk' ck' : Nat), k + g = ds.length ∧ s7 = .int .i64 k ∧ s6 = .int .i64 (v - l.prov) ∧ (0 ≤ v ∧ v ≤ 1000000000000) ∧ LoIn' W (l.prv v) da' ca' ∧
  Bk.Blk W w.heap.size #[.int .i64 (l).id, .int .i64 (l).ac, .int .i64 (l).st, .int .i64 (l).pp, .int .i64 (l).pi, .int .i64 (l).fee, .int .i64 (l).pen, .int .i64 (l).chg, .int .i64 (l).prov, .int .i64 (l).loss, .int .i64 (l).rcv, .int .i64 ((l).tm).me, .int .i64 ((l).tm).pr, .int .i64 ((l).tm).ppm, .int .i64 ((l).tm).stt, .int .i64 ((l).tm).ev, .int .i64 ((l).tm).ct, .int .i64 ((l).tm).ba, .int .i64 ((l).tm).mo, .int .i64 ((l).tm).pen, .int .i64 ((l).tm).fe, .string ((l).tm).cal, .string ((l).tm).cur, .slice da (l).ds.length dk, .slice ca (l).cs.length ck] 32 ∧ Bk.Blk W g5 #[.int .i64 (l.prv v).id, .int .i64 (l.prv v).ac, .int .i64 (l.prv v).st, .int .i64 (l.prv v).pp, .int .i64 (l.prv v).pi, .int .i64 (l.prv v).fee, .int .i64 (l.prv v).pen, .int .i64 (l.prv v).chg, .int .i64 (l.prv v).prov, .int .i64 (l.prv v).loss, .int .i64 (l.prv v).rcv, .int .i64 ((l.prv v).tm).me, .int .i64 ((l.prv v).tm).pr, .int .i64 ((l.prv v).tm).ppm, .int .i64 ((l.prv v).tm).stt, .int .i64 ((l.prv v).tm).ev, .int .i64 ((l.prv v).tm).ct, .int .i64 ((l.prv v).tm).ba, .int .i64 ((l.prv v).tm).mo, .int .i64 ((l.prv v).tm).pen, .int .i64 ((l.prv v).tm).fe, .string ((l.prv v).tm).cal, .string ((l.prv v).tm).cur, .slice da' (l.prv v).ds.length dk', .slice ca' (l.prv v).cs.length ck'] 32 ∧ Below w.heap.size w W ∧ ∀ u, LoIn' (W.setCell ⟨g5, 8, none⟩ u) (l.prv v) da' ca'
end Go.Proofs.YtlolflephnbbcaaGreatDoor.Ln
