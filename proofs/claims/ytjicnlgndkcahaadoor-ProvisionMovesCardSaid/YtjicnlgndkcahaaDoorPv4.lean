/-
  Move of package provision and of the reference.
-/
import Derived.Test.YtjicnlgndkcahaaDoorPv3
import Derived.Test.YtjicnlgndkcahaaDoorLc
import Derived.Deep.CutRange
namespace Go.Proofs.YtjicnlgndkcahaaDoor.Ln
open Go.RowKit
open Go.Proofs.YtjicnlgndkcahaaDoor
set_option linter.unusedSimpArgs false

/-- A loan in memory. -/
structure LoIn' (W : World) (l : Lo) (da ca : Option Addr) : Prop where
  d : RowIn denc W da l.ds
  c : RowIn cenc W ca l.cs
theorem LoIn'.later {W W' : World} {l : Lo} {da ca : Option Addr} (h : LoIn' W l da ca) (hb : Below W.heap.size W W') : LoIn' W' l da ca := ⟨h.d.later hb, h.c.later hb⟩
theorem RowIn.none' {α : Type} {enc : α → List Value} {W : World} {a : Option Addr} : RowIn enc W a [] := fun h => absurd h (Nat.not_lt_zero _)
/-- Nothing; what Move returns. -/
def zTm' : Tm := ⟨0, 0, 0, 0, 0, 0, 0, 0, 0, 0, .empty, .empty⟩
def zLo' : Lo := ⟨0, 0, 0, 0, 0, 0, 0, 0, 0, 0, 0, zTm', [], []⟩
noncomputable def mvE (l : Lo) (on : Int) : Int := if 0 ≤ l.prov ∧ l.prov ≤ 1000000000000 then exE l on else 1
noncomputable def mvL (l : Lo) (on : Int) : Lo := if mvE l on = 0 then { l with prov := exV l on } else zLo'
noncomputable def mvD (l : Lo) (on : Int) : Int := if mvE l on = 0 then wrap64 (exV l on - l.prov) else 0
def MvP (L : Lo) (D E : Int) (w : World) (e : Ending) (w' : World) : Prop := ∃ da' dk' ca' ck', e = .returned (.tuple #[(.agg #[.int .i64 (L).id, .int .i64 (L).ac, .int .i64 (L).st, .int .i64 (L).pp, .int .i64 (L).pi, .int .i64 (L).fee, .int .i64 (L).pen, .int .i64 (L).chg, .int .i64 (L).prov, .int .i64 (L).loss, .int .i64 (L).rcv, .int .i64 ((L).tm).me, .int .i64 ((L).tm).pr, .int .i64 ((L).tm).ppm, .int .i64 ((L).tm).stt, .int .i64 ((L).tm).ev, .int .i64 ((L).tm).ct, .int .i64 ((L).tm).ba, .int .i64 ((L).tm).mo, .int .i64 ((L).tm).pen, .int .i64 ((L).tm).fe, .string ((L).tm).cal, .string ((L).tm).cur, .slice da' (L).ds.length dk', .slice ca' (L).cs.length ck']), .int .i64 D, .int .i64 E]) ∧ LoIn' w' L da' ca' ∧ Below w.heap.size w w'
/-- The same, in memory of its own. -/
def MvF (L : Lo) (D E : Int) (w : World) (e : Ending) (w' : World) : Prop := ∃ da' dk' ca' ck', e = .returned (.tuple #[(.agg #[.int .i64 (L).id, .int .i64 (L).ac, .int .i64 (L).st, .int .i64 (L).pp, .int .i64 (L).pi, .int .i64 (L).fee, .int .i64 (L).pen, .int .i64 (L).chg, .int .i64 (L).prov, .int .i64 (L).loss, .int .i64 (L).rcv, .int .i64 ((L).tm).me, .int .i64 ((L).tm).pr, .int .i64 ((L).tm).ppm, .int .i64 ((L).tm).stt, .int .i64 ((L).tm).ev, .int .i64 ((L).tm).ct, .int .i64 ((L).tm).ba, .int .i64 ((L).tm).mo, .int .i64 ((L).tm).pen, .int .i64 ((L).tm).fe, .string ((L).tm).cal, .string ((L).tm).cur, .slice da' (L).ds.length dk', .slice ca' (L).cs.length ck']), .int .i64 D, .int .i64 E]) ∧ LoIn' w' L da' ca' ∧ ((∀ ad, da' = some ad → w.heap.size ≤ ad.block) ∧ (∀ ad, ca' = some ad → w.heap.size ≤ ad.block)) ∧ Below w.heap.size w w'
theorem MvF.out {L : Lo} {D E : Int} {w : World} {e : Ending} {w' : World} (h : MvF L D E w e w') : MvP L D E w e w' := by
  obtain ⟨a, b, c, d, h1, h2, _, h4⟩ := h
  exact ⟨a, b, c, d, h1, h2, h4⟩
theorem mv_ways (l : Lo) (on : Int) : (l.prov < 0 ∧ mvE l on = 1 ∧ mvL l on = zLo' ∧ mvD l on = 0) ∨ (0 ≤ l.prov ∧ 1000000000000 < l.prov ∧ mvE l on = 1 ∧ mvL l on = zLo' ∧ mvD l on = 0) ∨ (0 ≤ l.prov ∧ l.prov ≤ 1000000000000 ∧ exE l on ≠ 0 ∧ mvE l on = exE l on ∧ mvL l on = zLo' ∧ mvD l on = 0) ∨ (0 ≤ l.prov ∧ l.prov ≤ 1000000000000 ∧ exE l on = 0 ∧ mvE l on = 0 ∧ mvL l on = { l with prov := exV l on } ∧ mvD l on = wrap64 (exV l on - l.prov)) := by
  by_cases h1 : l.prov < 0
  · have e : mvE l on = 1 := if_neg (by omega)
    exact .inl ⟨h1, e, if_neg (by rw [e]; decide), if_neg (by rw [e]; decide)⟩
  · by_cases h2 : 1000000000000 < l.prov
    · have e : mvE l on = 1 := if_neg (by omega)
      exact .inr (.inl ⟨by omega, h2, e, if_neg (by rw [e]; decide), if_neg (by rw [e]; decide)⟩)
    · have e : mvE l on = exE l on := if_pos (by omega)
      by_cases h3 : exE l on = 0
      · exact .inr (.inr (.inr ⟨by omega, by omega, h3, by rw [e, h3], if_pos (by rw [e, h3]), if_pos (by rw [e, h3])⟩))
      · exact .inr (.inr (.inl ⟨by omega, by omega, h3, e, if_neg (by rw [e]; exact h3), if_neg (by rw [e]; exact h3)⟩))
theorem valid_any (n : Int) (w : World) : Calls Tryd.prog 32 #[.int .i64 n] w fun e w' => e = .returned (.bool (decide (-1000000000000 ≤ n ∧ n ≤ 1000000000000))) ∧ w = w' := by
  by_cases h1 : -1000000000000 ≤ n
  · have g1 : decide (-1000000000000 ≤ n) = true := decide_eq_true h1
    by_cases h2 : n ≤ 1000000000000
    · rw [decide_eq_true (show -1000000000000 ≤ n ∧ n ≤ 1000000000000 from ⟨h1, h2⟩)]
      go_enter Tryd.func32, Tryd.ntmps32
      go_wp2_with fail
      go_ret
      exact ⟨rfl, rfl⟩
    · rw [decide_eq_false (show ¬(-1000000000000 ≤ n ∧ n ≤ 1000000000000) from fun h => h2 h.2)]
      go_enter Tryd.func32, Tryd.ntmps32
      go_wp2_with fail
      go_ret
      exact ⟨rfl, rfl⟩
  · rw [decide_eq_false (show ¬(-1000000000000 ≤ n ∧ n ≤ 1000000000000) from fun h => h1 h.1)]
    go_enter Tryd.func32, Tryd.ntmps32
    go_wp2_with fail
    go_ret
    exact ⟨rfl, rfl⟩

set_option maxRecDepth 100000 in
set_option maxHeartbeats 8000000 in
theorem movf_any (l : Lo) (da ca : Option Addr) (dk ck : Nat) (on : Int) (w : World) (hl : LoIn' w l da ca) (hn : l.ds.length ≤ 100000) (hm : l.cs.length ≤ 100000) (hC : Ctb w) (hSt : Rd.Stp w) :
    Calls Tryd.prog 16 #[(.agg #[.int .i64 (l).id, .int .i64 (l).ac, .int .i64 (l).st, .int .i64 (l).pp, .int .i64 (l).pi, .int .i64 (l).fee, .int .i64 (l).pen, .int .i64 (l).chg, .int .i64 (l).prov, .int .i64 (l).loss, .int .i64 (l).rcv, .int .i64 ((l).tm).me, .int .i64 ((l).tm).pr, .int .i64 ((l).tm).ppm, .int .i64 ((l).tm).stt, .int .i64 ((l).tm).ev, .int .i64 ((l).tm).ct, .int .i64 ((l).tm).ba, .int .i64 ((l).tm).mo, .int .i64 ((l).tm).pen, .int .i64 ((l).tm).fe, .string ((l).tm).cal, .string ((l).tm).cur, .slice da (l).ds.length dk, .slice ca (l).cs.length ck]), .int .i64 on] w (MvF (mvL l on) (mvD l on) (mvE l on) w) := by
  have m0 : MSt w ((w.alloc (.cells #[.int .i64 (l).id, .int .i64 (l).ac, .int .i64 (l).st, .int .i64 (l).pp, .int .i64 (l).pi, .int .i64 (l).fee, .int .i64 (l).pen, .int .i64 (l).chg, .int .i64 (l).prov, .int .i64 (l).loss, .int .i64 (l).rcv, .int .i64 ((l).tm).me, .int .i64 ((l).tm).pr, .int .i64 ((l).tm).ppm, .int .i64 ((l).tm).stt, .int .i64 ((l).tm).ev, .int .i64 ((l).tm).ct, .int .i64 ((l).tm).ba, .int .i64 ((l).tm).mo, .int .i64 ((l).tm).pen, .int .i64 ((l).tm).fe, .string ((l).tm).cal, .string ((l).tm).cur, .slice da (l).ds.length dk, .slice ca (l).cs.length ck] 27)).alloc (.cells Zc 27)) Zc l da ca dk ck := ⟨Bk.Blk.nw20, Bk.Blk.nw21, ((Below.refl _ _).alloc (Nat.le_refl _) _).alloc (by simp) _⟩
  have HX := Lib.hid (fun (W : World) (hW : Below w.heap.size w W) => expd_any l da ca dk ck on W (dues_of_row (by omega) (hl.later hW).d) (hC.of hW) (hSt.of hW))
  have HL := Lib.hid hl
  have HN := Lib.hid (And.intro hn hm)
  have l8 := m0.k.c8
  rcases mv_ways l on with ⟨h1, e1, e2, e3⟩ | ⟨h1, h2, e1, e2, e3⟩ | ⟨h1, h2, h3, e1, e2, e3⟩ | ⟨h1, h2, h3, e1, e2, e3⟩
  · rw [e1, e2, e3]
    clear e1 e2 e3 hl hC hSt
    have g1 : decide (l.prov < 0) = true := decide_eq_true h1
    go_enter Tryd.func16, Tryd.ntmps16
    go_wp2_with (refine wpList_store_row rfl 27 _ _ rfl _ _ rfl rfl _ _ m0.z (by kernel_rfl) rfl (one25 ..) ?_)
    (try simp only [Exit.inBlock, Exit.then])
    refine bodyPost_ret (results3_cell Tryd.results16 _ _ _ _ _ _ _ rfl (Blk_setRow_same m0.z) Tryd.underlying27 rfl (by kernel_rfl)) rfl ?_
    exact ⟨none, 0, none, 0, rfl, ⟨RowIn.none', RowIn.none'⟩, ⟨(fun _ h => by cases h), (fun _ h => by cases h)⟩, Below_setRow m0.b (by omega) _⟩
  · rw [e1, e2, e3]
    clear e1 e2 e3 hl hC hSt
    have g1 : decide (l.prov < 0) = false := decide_eq_false (by omega)
    go_enter Tryd.func16, Tryd.ntmps16
    go_wp2_with fail
    refine (valid_any l.prov _).mono ?_
    rintro e w' ⟨rfl, rfl⟩
    rw [decide_eq_false (show ¬(-1000000000000 ≤ l.prov ∧ l.prov ≤ 1000000000000) from fun h => by omega)]
    go_wp2_with (refine wpList_store_row rfl 27 _ _ rfl _ _ rfl rfl _ _ m0.z (by kernel_rfl) rfl (one25 ..) ?_)
    (try simp only [Exit.inBlock, Exit.then])
    refine bodyPost_ret (results3_cell Tryd.results16 _ _ _ _ _ _ _ rfl (Blk_setRow_same m0.z) Tryd.underlying27 rfl (by kernel_rfl)) rfl ?_
    exact ⟨none, 0, none, 0, rfl, ⟨RowIn.none', RowIn.none'⟩, ⟨(fun _ h => by cases h), (fun _ h => by cases h)⟩, Below_setRow m0.b (by omega) _⟩
  · rw [e1, e2, e3]
    clear e1 e2 e3 hl hC hSt
    have g1 : decide (l.prov < 0) = false := decide_eq_false (by omega)
    have g9 : (exE l on != 0) = true := bne_iff_ne.2 h3
    
    clear h3
    generalize exE l on = xe at *
    generalize exV l on = xv at *
    go_enter Tryd.func16, Tryd.ntmps16
    go_wp2_with fail
    refine (valid_any l.prov _).mono ?_
    rintro e w' ⟨rfl, rfl⟩
    rw [decide_eq_true (show -1000000000000 ≤ l.prov ∧ l.prov ≤ 1000000000000 from ⟨by omega, h2⟩)]
    go_upto_region 3 with fail
    go_wp2_with (refine wpList_load_row rfl 27 _ rfl _ rfl _ _ _ _ (m0.k) Tryd.underlying27 rfl (by kernel_rfl) ?_)
    refine (HX.out _ m0.b).mono ?_
    rintro e w2 ⟨rfl, hb⟩
    have m2 := m0.later hb
    clear m0 hb HX l8
    go_wp2_with (refine wpList_store_row rfl 27 _ _ rfl _ _ rfl rfl _ _ m2.z (by kernel_rfl) rfl (one25 ..) ?_)
    (try simp only [Exit.inBlock, Exit.then])
    refine bodyPost_ret (results3_cell Tryd.results16 _ _ _ _ _ _ _ rfl (Blk_setRow_same m2.z) Tryd.underlying27 rfl (by kernel_rfl)) rfl ?_
    exact ⟨none, 0, none, 0, rfl, ⟨RowIn.none', RowIn.none'⟩, ⟨(fun _ h => by cases h), (fun _ h => by cases h)⟩, Below_setRow m2.b (by omega) _⟩
  · rw [e1, e2, e3]
    clear e1 e2 e3 hl hC hSt
    have g1 : decide (l.prov < 0) = false := decide_eq_false (by omega)
    have g9 : (exE l on != 0) = false := by rw [h3]; rfl
    have HE3 := Lib.hid h3
    clear h3
    generalize exE l on = xe at *
    generalize exV l on = xv at *
    go_enter Tryd.func16, Tryd.ntmps16
    go_wp2_with fail
    refine (valid_any l.prov _).mono ?_
    rintro e w' ⟨rfl, rfl⟩
    rw [decide_eq_true (show -1000000000000 ≤ l.prov ∧ l.prov ≤ 1000000000000 from ⟨by omega, h2⟩)]
    go_upto_region 3 with fail
    go_wp2_with (refine wpList_load_row rfl 27 _ rfl _ rfl _ _ _ _ (m0.k) Tryd.underlying27 rfl (by kernel_rfl) ?_)
    refine (HX.out _ m0.b).mono ?_
    rintro e w2 ⟨rfl, hb⟩
    have m2 := m0.later hb
    clear m0 hb HX l8
    have l8 := m2.k.c8
    have f8 := m2.k.f8
    go_upto_region 8 with fail
    have m3 := m2.put 8 (.int .i64 xv) { l with prov := xv } (da' := da) (ca' := ca) (dk' := dk) (ck' := ck) (by simp)
    clear m2 l8 f8
    generalize w2.setCell ⟨w.heap.size, 8, none⟩ (.int .i64 xv) = w3 at *
    have m3d := m3.drew
    clear m3
    have HCD := Lib.hid (fun (W : World) (hb : Below w.heap.size w W) => cln_due da dk l.ds W (dues_of_row (by have := HN.out.1; omega) (HL.out.later hb).d) HN.out.1)
    have HCC := Lib.hid (fun (W : World) (hb : Below w.heap.size w W) => cln_chg ca ck l.cs W (HL.out.later hb).c HN.out.2)
    have y1 := m3d.k.c23
    have y2 := m3d.k.c24
    go_cut [] from 36 to 43 (MCl w Zc { l with prov := xv })
    case first =>
      go_region_with (first | (go_at_call 33; refine (HCD.out _ (by first | exact m3d.b | exact hP2.b)).mono ?_; rintro e wa ⟨a1, c1, rfl, hr1, hf1, hb1⟩; (first | have hP1 := hP2.later hb1 | have hP1 := m3d.later hb1); have z1 := hP1.k.c23; have z2 := hP1.k.c24; have z3 := hP1.k.f23; have z4 := hP1.k.f24) | (go_at_call 34; refine (HCC.out _ (by first | exact m3d.b | exact hP1.b)).mono ?_; rintro e wb ⟨a2, c2, rfl, hr2, hf2, hb2⟩; (first | have hP2 := hP1.later hb2 | have hP2 := m3d.later hb2); have y1 := hP2.k.c23; have y2 := hP2.k.c24; have y3 := hP2.k.f23; have y4 := hP2.k.f24))
      all_goals
        go_wp2_with fail
        go_meet
        case rel => first | exact mcl_fin hP2 (hr1.later hb2) hr2 hf1 hf2 m3d.sz hP1.sz | exact mcl_fin hP1 hr1 (hr2.later hb1) hf1 hf2 hP2.sz m3d.sz
    obtain ⟨da', ca', dk', ck', m4, hrd, hrc, hfd, hfc⟩ := hcut
    generalize wc = w4 at *
    clear m3d y1 y2 HCD HCC
    go_wp2_with (first | (refine wpList_load_row rfl 27 _ rfl _ rfl _ _ _ _ (m4.k) Tryd.underlying27 rfl (by kernel_rfl) ?_) | (refine wpList_store_row rfl 27 _ _ rfl _ _ rfl rfl _ _ m4.z (by kernel_rfl) rfl (one25 ..) ?_))
    (try simp only [Exit.inBlock, Exit.then])
    refine bodyPost_ret (results3_cell Tryd.results16 _ _ _ _ _ _ _ rfl (Blk_setRow_same m4.z) Tryd.underlying27 rfl (by kernel_rfl)) rfl ?_
    exact ⟨da', dk', ca', ck', rfl, ⟨row_row hrd (fun ad had => by have := hfd ad had; omega), row_row hrc (fun ad had => by have := hfc ad had; omega)⟩, ⟨fun ad had => by have := hfd ad had; omega, fun ad had => by have := hfc ad had; omega⟩, Below_setRow m4.b (by omega) _⟩
theorem move_any (l : Lo) (da ca : Option Addr) (dk ck : Nat) (on : Int) (w : World) (hl : LoIn' w l da ca) (hn : l.ds.length ≤ 100000) (hm : l.cs.length ≤ 100000) (hC : Ctb w) (hSt : Rd.Stp w) :
    Calls Tryd.prog 16 #[(.agg #[.int .i64 (l).id, .int .i64 (l).ac, .int .i64 (l).st, .int .i64 (l).pp, .int .i64 (l).pi, .int .i64 (l).fee, .int .i64 (l).pen, .int .i64 (l).chg, .int .i64 (l).prov, .int .i64 (l).loss, .int .i64 (l).rcv, .int .i64 ((l).tm).me, .int .i64 ((l).tm).pr, .int .i64 ((l).tm).ppm, .int .i64 ((l).tm).stt, .int .i64 ((l).tm).ev, .int .i64 ((l).tm).ct, .int .i64 ((l).tm).ba, .int .i64 ((l).tm).mo, .int .i64 ((l).tm).pen, .int .i64 ((l).tm).fe, .string ((l).tm).cal, .string ((l).tm).cur, .slice da (l).ds.length dk, .slice ca (l).cs.length ck]), .int .i64 on] w (MvP (mvL l on) (mvD l on) (mvE l on) w) := (movf_any l da ca dk ck on w hl hn hm hC hSt).mono fun _ _ h => h.out

set_option maxRecDepth 100000 in
set_option maxHeartbeats 8000000 in
theorem rmove_any (l : Lo) (da ca : Option Addr) (dk ck : Nat) (on : Int) (w : World) (hl : LoIn' w l da ca) (hn : l.ds.length ≤ 100000) (hm : l.cs.length ≤ 100000) (hd : Dok l.ds) :
    Calls Tryd.prog 17 #[(.agg #[.int .i64 (l).id, .int .i64 (l).ac, .int .i64 (l).st, .int .i64 (l).pp, .int .i64 (l).pi, .int .i64 (l).fee, .int .i64 (l).pen, .int .i64 (l).chg, .int .i64 (l).prov, .int .i64 (l).loss, .int .i64 (l).rcv, .int .i64 ((l).tm).me, .int .i64 ((l).tm).pr, .int .i64 ((l).tm).ppm, .int .i64 ((l).tm).stt, .int .i64 ((l).tm).ev, .int .i64 ((l).tm).ct, .int .i64 ((l).tm).ba, .int .i64 ((l).tm).mo, .int .i64 ((l).tm).pen, .int .i64 ((l).tm).fe, .string ((l).tm).cal, .string ((l).tm).cur, .slice da (l).ds.length dk, .slice ca (l).cs.length ck]), .int .i64 on] w (MvP (mvL l on) (mvD l on) (mvE l on) w) := by
  have m0 : MSt w ((w.alloc (.cells #[.int .i64 (l).id, .int .i64 (l).ac, .int .i64 (l).st, .int .i64 (l).pp, .int .i64 (l).pi, .int .i64 (l).fee, .int .i64 (l).pen, .int .i64 (l).chg, .int .i64 (l).prov, .int .i64 (l).loss, .int .i64 (l).rcv, .int .i64 ((l).tm).me, .int .i64 ((l).tm).pr, .int .i64 ((l).tm).ppm, .int .i64 ((l).tm).stt, .int .i64 ((l).tm).ev, .int .i64 ((l).tm).ct, .int .i64 ((l).tm).ba, .int .i64 ((l).tm).mo, .int .i64 ((l).tm).pen, .int .i64 ((l).tm).fe, .string ((l).tm).cal, .string ((l).tm).cur, .slice da (l).ds.length dk, .slice ca (l).cs.length ck] 27)).alloc (.cells Zc 27)) Zc l da ca dk ck := ⟨Bk.Blk.nw20, Bk.Blk.nw21, ((Below.refl _ _).alloc (Nat.le_refl _) _).alloc (by simp) _⟩
  have HX := Lib.hid (fun (W : World) (hW : Below w.heap.size w W) => rexpd_any l da ca dk ck on W (dues_of_row (by omega) (hl.later hW).d) hd)
  have HL := Lib.hid hl
  have HN := Lib.hid (And.intro hn hm)
  have l8 := m0.k.c8
  rcases mv_ways l on with ⟨h1, e1, e2, e3⟩ | ⟨h1, h2, e1, e2, e3⟩ | ⟨h1, h2, h3, e1, e2, e3⟩ | ⟨h1, h2, h3, e1, e2, e3⟩
  · rw [e1, e2, e3]
    clear e1 e2 e3 hl 
    have g1 : decide (l.prov < 0) = true := decide_eq_true h1
    go_enter Tryd.func17, Tryd.ntmps17
    go_wp2_with (refine wpList_store_row rfl 27 _ _ rfl _ _ rfl rfl _ _ m0.z (by kernel_rfl) rfl (one25 ..) ?_)
    (try simp only [Exit.inBlock, Exit.then])
    refine bodyPost_ret (results3_cell Tryd.results17 _ _ _ _ _ _ _ rfl (Blk_setRow_same m0.z) Tryd.underlying27 rfl (by kernel_rfl)) rfl ?_
    exact ⟨none, 0, none, 0, rfl, ⟨RowIn.none', RowIn.none'⟩, Below_setRow m0.b (by omega) _⟩
  · rw [e1, e2, e3]
    clear e1 e2 e3 hl 
    have g1 : decide (l.prov < 0) = false := decide_eq_false (by omega)
    go_enter Tryd.func17, Tryd.ntmps17
    go_wp2_with (refine wpList_store_row rfl 27 _ _ rfl _ _ rfl rfl _ _ m0.z (by kernel_rfl) rfl (one25 ..) ?_)
    (try simp only [Exit.inBlock, Exit.then])
    refine bodyPost_ret (results3_cell Tryd.results17 _ _ _ _ _ _ _ rfl (Blk_setRow_same m0.z) Tryd.underlying27 rfl (by kernel_rfl)) rfl ?_
    exact ⟨none, 0, none, 0, rfl, ⟨RowIn.none', RowIn.none'⟩, Below_setRow m0.b (by omega) _⟩
  · rw [e1, e2, e3]
    clear e1 e2 e3 hl 
    have g1 : decide (l.prov < 0) = false := decide_eq_false (by omega)
    have g9 : (exE l on != 0) = true := bne_iff_ne.2 h3
    
    clear h3
    generalize exE l on = xe at *
    generalize exV l on = xv at *
    go_enter Tryd.func17, Tryd.ntmps17
    have g2 : decide (1000000000000 < l.prov) = false := decide_eq_false (by omega)
    go_upto_region 3 with fail
    go_wp2_with (refine wpList_load_row rfl 27 _ rfl _ rfl _ _ _ _ (m0.k) Tryd.underlying27 rfl (by kernel_rfl) ?_)
    refine (HX.out _ m0.b).mono ?_
    rintro e w2 ⟨rfl, hb⟩
    have m2 := m0.later hb
    clear m0 hb HX l8
    go_wp2_with (refine wpList_store_row rfl 27 _ _ rfl _ _ rfl rfl _ _ m2.z (by kernel_rfl) rfl (one25 ..) ?_)
    (try simp only [Exit.inBlock, Exit.then])
    refine bodyPost_ret (results3_cell Tryd.results17 _ _ _ _ _ _ _ rfl (Blk_setRow_same m2.z) Tryd.underlying27 rfl (by kernel_rfl)) rfl ?_
    exact ⟨none, 0, none, 0, rfl, ⟨RowIn.none', RowIn.none'⟩, Below_setRow m2.b (by omega) _⟩
  · rw [e1, e2, e3]
    clear e1 e2 e3 hl 
    have g1 : decide (l.prov < 0) = false := decide_eq_false (by omega)
    have g9 : (exE l on != 0) = false := by rw [h3]; rfl
    have HE3 := Lib.hid h3
    clear h3
    generalize exE l on = xe at *
    generalize exV l on = xv at *
    go_enter Tryd.func17, Tryd.ntmps17
    have g2 : decide (1000000000000 < l.prov) = false := decide_eq_false (by omega)
    go_upto_region 3 with fail
    go_wp2_with (refine wpList_load_row rfl 27 _ rfl _ rfl _ _ _ _ (m0.k) Tryd.underlying27 rfl (by kernel_rfl) ?_)
    refine (HX.out _ m0.b).mono ?_
    rintro e w2 ⟨rfl, hb⟩
    have m2 := m0.later hb
    clear m0 hb HX l8
    have l8 := m2.k.c8
    have f8 := m2.k.f8
    go_upto_region 8 with fail
    have m3 := m2.put 8 (.int .i64 xv) { l with prov := xv } (da' := da) (ca' := ca) (dk' := dk) (ck' := ck) (by simp)
    clear m2 l8 f8
    generalize w2.setCell ⟨w.heap.size, 8, none⟩ (.int .i64 xv) = w3 at *
    have hlw := HL.out.later m3.b
    go_wp2_with (first | (refine wpList_load_row rfl 27 _ rfl _ rfl _ _ _ _ (m3.k) Tryd.underlying27 rfl (by kernel_rfl) ?_) | (refine wpList_store_row rfl 27 _ _ rfl _ _ rfl rfl _ _ m3.z (by kernel_rfl) rfl (one25 ..) ?_))
    (try simp only [Exit.inBlock, Exit.then])
    refine bodyPost_ret (results3_cell Tryd.results17 _ _ _ _ _ _ _ rfl (Blk_setRow_same m3.z) Tryd.underlying27 rfl (by kernel_rfl)) rfl ?_
    have hb := Below_setRow m3.b (show w.heap.size ≤ w.heap.size + 1 by omega) #[.int .i64 (({ l with prov := xv } : Lo)).id, .int .i64 (({ l with prov := xv } : Lo)).ac, .int .i64 (({ l with prov := xv } : Lo)).st, .int .i64 (({ l with prov := xv } : Lo)).pp, .int .i64 (({ l with prov := xv } : Lo)).pi, .int .i64 (({ l with prov := xv } : Lo)).fee, .int .i64 (({ l with prov := xv } : Lo)).pen, .int .i64 (({ l with prov := xv } : Lo)).chg, .int .i64 (({ l with prov := xv } : Lo)).prov, .int .i64 (({ l with prov := xv } : Lo)).loss, .int .i64 (({ l with prov := xv } : Lo)).rcv, .int .i64 ((({ l with prov := xv } : Lo)).tm).me, .int .i64 ((({ l with prov := xv } : Lo)).tm).pr, .int .i64 ((({ l with prov := xv } : Lo)).tm).ppm, .int .i64 ((({ l with prov := xv } : Lo)).tm).stt, .int .i64 ((({ l with prov := xv } : Lo)).tm).ev, .int .i64 ((({ l with prov := xv } : Lo)).tm).ct, .int .i64 ((({ l with prov := xv } : Lo)).tm).ba, .int .i64 ((({ l with prov := xv } : Lo)).tm).mo, .int .i64 ((({ l with prov := xv } : Lo)).tm).pen, .int .i64 ((({ l with prov := xv } : Lo)).tm).fe, .string ((({ l with prov := xv } : Lo)).tm).cal, .string ((({ l with prov := xv } : Lo)).tm).cur, .slice da (({ l with prov := xv } : Lo)).ds.length dk, .slice ca (({ l with prov := xv } : Lo)).cs.length ck]
    exact ⟨da, dk, ca, ck, rfl, ⟨(HL.out.later hb).d, (HL.out.later hb).c⟩, hb⟩
end Go.Proofs.YtjicnlgndkcahaaDoor.Ln
