/-
  Arrears: Charge of the program and of the reference.
-/
import Derived.Test.YtjmgahdjojdanaaDoorAr2
import Derived.Test.YtjmgahdjojdanaaDoorLs1
import Derived.Deep.CutRange
namespace Go.Proofs.YtjmgahdjojdanaaDoor.Ln
open Go.RowKit
open Go.Proofs.YtjmgahdjojdanaaDoor
open Go.Proofs.YtjmgahdjojdanaaDoor.Wm
set_option linter.unusedSimpArgs false

/-- A loan in memory. -/
structure LoInA (W : World) (l : Lo) (da ca : Option Addr) : Prop where
  d : RowIn denc W da l.ds
  c : RowIn cenc W ca l.cs
theorem LoInA.later {W W' : World} {l : Lo} {da ca : Option Addr} (h : LoInA W l da ca) (hb : Below W.heap.size W W') : LoInA W' l da ca := ⟨h.d.later hb, h.c.later hb⟩
theorem RowIn.noneA {α : Type} {enc : α → List Value} {W : World} {a : Option Addr} : RowIn enc W a [] := fun h => absurd h (Nat.not_lt_zero _)
def ChP (L : Lo) (D E : Int) (w : World) (e : Ending) (w' : World) : Prop := ∃ da' dk' ca' ck', e = .returned (.tuple #[(.agg #[.int .i64 (L).id, .int .i64 (L).ac, .int .i64 (L).st, .int .i64 (L).pp, .int .i64 (L).pi, .int .i64 (L).fee, .int .i64 (L).pen, .int .i64 (L).chg, .int .i64 (L).prov, .int .i64 (L).loss, .int .i64 (L).rcv, .int .i64 ((L).tm).me, .int .i64 ((L).tm).pr, .int .i64 ((L).tm).ppm, .int .i64 ((L).tm).stt, .int .i64 ((L).tm).ev, .int .i64 ((L).tm).ct, .int .i64 ((L).tm).ba, .int .i64 ((L).tm).mo, .int .i64 ((L).tm).pen, .int .i64 ((L).tm).fe, .string ((L).tm).cal, .string ((L).tm).cur, .slice da' (L).ds.length dk', .slice ca' (L).cs.length ck']), .int .i64 D, .int .i64 E]) ∧ LoInA w' L da' ca' ∧ Below w.heap.size w w'
theorem pen_at {l : Lo} {a b V E : Int} (hv : penV l a b = V) (he : penE l a b = E) (da ca : Option Addr) (dk ck : Nat) (w : World) (h : DuesIn w da l.ds) :
    Calls Tryd.prog 17 #[(.agg #[.int .i64 (l).id, .int .i64 (l).ac, .int .i64 (l).st, .int .i64 (l).pp, .int .i64 (l).pi, .int .i64 (l).fee, .int .i64 (l).pen, .int .i64 (l).chg, .int .i64 (l).prov, .int .i64 (l).loss, .int .i64 (l).rcv, .int .i64 ((l).tm).me, .int .i64 ((l).tm).pr, .int .i64 ((l).tm).ppm, .int .i64 ((l).tm).stt, .int .i64 ((l).tm).ev, .int .i64 ((l).tm).ct, .int .i64 ((l).tm).ba, .int .i64 ((l).tm).mo, .int .i64 ((l).tm).pen, .int .i64 ((l).tm).fe, .string ((l).tm).cal, .string ((l).tm).cur, .slice da (l).ds.length dk, .slice ca (l).cs.length ck]), .int .i64 a, .int .i64 b] w fun e w' => e = .returned (.tuple #[.agg #[.int .i64 (hi V), .int .u64 (lo V)], .int .i64 E]) ∧ Below w.heap.size w w' := by
  subst hv he
  exact pen_any l da ca dk ck a b w h
theorem rpen_at {l : Lo} {a b V E : Int} (hv : penV l a b = V) (he : penE l a b = E) (da ca : Option Addr) (dk ck : Nat) (w : World) (h : DuesIn w da l.ds) (hd : Dok l.ds) :
    Calls Tryd.prog 18 #[(.agg #[.int .i64 (l).id, .int .i64 (l).ac, .int .i64 (l).st, .int .i64 (l).pp, .int .i64 (l).pi, .int .i64 (l).fee, .int .i64 (l).pen, .int .i64 (l).chg, .int .i64 (l).prov, .int .i64 (l).loss, .int .i64 (l).rcv, .int .i64 ((l).tm).me, .int .i64 ((l).tm).pr, .int .i64 ((l).tm).ppm, .int .i64 ((l).tm).stt, .int .i64 ((l).tm).ev, .int .i64 ((l).tm).ct, .int .i64 ((l).tm).ba, .int .i64 ((l).tm).mo, .int .i64 ((l).tm).pen, .int .i64 ((l).tm).fe, .string ((l).tm).cal, .string ((l).tm).cur, .slice da (l).ds.length dk, .slice ca (l).cs.length ck]), .int .i64 a, .int .i64 b] w fun e w' => e = .returned (.tuple #[.agg #[.int .i64 (hi V), .int .u64 (lo V)], .int .i64 E]) ∧ Below w.heap.size w w' := by
  subst hv he
  exact rpen_any l da ca dk ck a b w h hd
theorem am_at {g m v r e : Int} (hg : I128 g) (hv : Rd.amV g m = v) (hr : Rd.amR g m = r) (he : Rd.amE g m = e) (w : World) (hS : Rd.Stp w) :
    Calls Tryd.prog 38 #[.agg #[.int .i64 (hi g), .int .u64 (lo g)], .int .i64 m] w fun en w' => en = .returned (.tuple #[.int .i64 v, .agg #[.int .i64 (hi r), .int .u64 (lo r)], .int .i64 e]) ∧ Below w.heap.size w w' := by
  subst hv hr he
  exact Rd.amount_any g m w hS hg
theorem ram_at {g m v r e : Int} (hg : I128 g) (hv : Rd.amV g m = v) (hr : Rd.amR g m = r) (he : Rd.amE g m = e) (w : World) :
    Calls Tryd.prog 41 #[.agg #[.int .i64 (hi g), .int .u64 (lo g)], .int .i64 m] w fun en w' => en = .returned (.tuple #[.int .i64 v, .agg #[.int .i64 (hi r), .int .u64 (lo r)], .int .i64 e]) ∧ Below w.heap.size w w' := by
  subst hv hr he
  exact Rd.ramount_any g m w hg
theorem penV_128 (l : Lo) (a b : Int) : I128 (penV l a b) := by
  unfold penV
  split
  · rename_i h
    exact (ok_iff.1 h.1).penI a (by have := h.2.2.2; omega)
  · unfold I128; omega

set_option maxRecDepth 100000 in
set_option maxHeartbeats 16000000 in
theorem charge_any (l : Lo) (da ca : Option Addr) (dk ck : Nat) (on : Int) (w : World) (hl : LoInA w l da ca) (hn : l.ds.length ≤ 100000) (hm : l.cs.length ≤ 100000) (hSt : Rd.Stp w) :
    Calls Tryd.prog 19 #[(.agg #[.int .i64 (l).id, .int .i64 (l).ac, .int .i64 (l).st, .int .i64 (l).pp, .int .i64 (l).pi, .int .i64 (l).fee, .int .i64 (l).pen, .int .i64 (l).chg, .int .i64 (l).prov, .int .i64 (l).loss, .int .i64 (l).rcv, .int .i64 ((l).tm).me, .int .i64 ((l).tm).pr, .int .i64 ((l).tm).ppm, .int .i64 ((l).tm).stt, .int .i64 ((l).tm).ev, .int .i64 ((l).tm).ct, .int .i64 ((l).tm).ba, .int .i64 ((l).tm).mo, .int .i64 ((l).tm).pen, .int .i64 ((l).tm).fe, .string ((l).tm).cal, .string ((l).tm).cur, .slice da (l).ds.length dk, .slice ca (l).cs.length ck]), .int .i64 on] w (ChP (chgL l on) (chgN l on) (chgE l on) w) := by
  have m0 : MSt w ((w.alloc (.cells #[.int .i64 (l).id, .int .i64 (l).ac, .int .i64 (l).st, .int .i64 (l).pp, .int .i64 (l).pi, .int .i64 (l).fee, .int .i64 (l).pen, .int .i64 (l).chg, .int .i64 (l).prov, .int .i64 (l).loss, .int .i64 (l).rcv, .int .i64 ((l).tm).me, .int .i64 ((l).tm).pr, .int .i64 ((l).tm).ppm, .int .i64 ((l).tm).stt, .int .i64 ((l).tm).ev, .int .i64 ((l).tm).ct, .int .i64 ((l).tm).ba, .int .i64 ((l).tm).mo, .int .i64 ((l).tm).pen, .int .i64 ((l).tm).fe, .string ((l).tm).cal, .string ((l).tm).cur, .slice da (l).ds.length dk, .slice ca (l).cs.length ck] 27)).alloc (.cells Zc 27)) Zc l da ca dk ck := ⟨Bk.Blk.nw20, Bk.Blk.nw21, ((Below.refl _ _).alloc (Nat.le_refl _) _).alloc (by simp) _⟩
  have hck := fun (W : World) (hW : Below w.heap.size w W) => check_any l da ca dk ck W (dues_of_row (by omega) (hl.later hW).d)
  have HPN := Lib.hid (fun (E : Int) (he : penE l l.chg on = E) (W : World) (hW : Below w.heap.size w W) => pen_at (V := chgG l on) rfl he da ca dk ck W (dues_of_row (by omega) (hl.later hW).d))
  have HAM := Lib.hid (fun (E : Int) (he : Rd.amE (chgG l on) 6 = E) (W : World) (hW : Below w.heap.size w W) => am_at (g := chgG l on) (v := chgM l on) (penV_128 _ _ _) rfl rfl he W (hSt.of hW))
  have HL := Lib.hid hl
  have HN := Lib.hid (And.intro hn hm)
  clear hl hSt
  rcases chg_ways l on with ⟨h1, e1, e2, e3⟩ | ⟨h1, h2, e1, e2, e3⟩ | ⟨h1, h2, h3, e1, e2, e3⟩ | ⟨h1, h2, h3, h4, e1, e2, e3⟩ | ⟨h1, h2, h3, h4, h5, e1, e2, e3⟩ | ⟨h1, h2, h3, h4, h5, h6, e1, e2, e3⟩ | ⟨h1, h2, h3, h4, h5, h6, h7, e1, e2, e3⟩ | ⟨h1, h2, h3, h4, h5, h6, h7, e1, e2, e3⟩
  · rw [e1, e2, e3]
    clear e1 e2 e3
    have HCK := Lib.hid hck
    clear hck HPN HAM
    have g1 : (chk l != 0) = true := bne_iff_ne.2 h1
    generalize chk l = ch at *
    go_enter Tryd.func19, Tryd.ntmps19
    go_wp2_with (refine wpList_load_row rfl 27 _ rfl _ rfl _ _ _ _ (m0.k) Tryd.underlying27 rfl (by kernel_rfl) ?_)
    refine (HCK.out _ m0.b).mono ?_
    rintro e w1 ⟨rfl, hb⟩
    have m1 := m0.later hb
    clear m0 hb HCK
    go_wp2_with (refine wpList_store_row rfl 27 _ _ rfl _ _ rfl rfl _ _ m1.z (by kernel_rfl) rfl (one25 ..) ?_)
    (try simp only [Exit.inBlock, Exit.then])
    refine bodyPost_ret (results3_cell Tryd.results19 _ _ _ _ _ _ _ rfl (Blk_setRow_same m1.z) Tryd.underlying27 rfl (by kernel_rfl)) rfl ?_
    exact ⟨none, 0, none, 0, rfl, ⟨RowIn.noneA, RowIn.noneA⟩, Below_setRow m1.b (by omega) _⟩
  · rw [e1, e2, e3]
    clear e1 e2 e3
    rw [h1] at hck
    have HCK := Lib.hid hck
    clear hck
    go_enter Tryd.func19, Tryd.ntmps19
    go_wp2_with (refine wpList_load_row rfl 27 _ rfl _ rfl _ _ _ _ (m0.k) Tryd.underlying27 rfl (by kernel_rfl) ?_)
    refine (HCK.out _ m0.b).mono ?_
    rintro e w1 ⟨rfl, hb⟩
    have m1 := m0.later hb
    clear m0 hb HCK
    go_wp2_with fail
    refine (aday_at h2 _).mono ?_
    rintro e w' ⟨rfl, rfl⟩
    go_wp2_with (refine wpList_store_row rfl 27 _ _ rfl _ _ rfl rfl _ _ m1.z (by kernel_rfl) rfl (one25 ..) ?_)
    (try simp only [Exit.inBlock, Exit.then])
    refine bodyPost_ret (results3_cell Tryd.results19 _ _ _ _ _ _ _ rfl (Blk_setRow_same m1.z) Tryd.underlying27 rfl (by kernel_rfl)) rfl ?_
    exact ⟨none, 0, none, 0, rfl, ⟨RowIn.noneA, RowIn.noneA⟩, Below_setRow m1.b (by omega) _⟩
  · rw [e1, e2, e3]
    clear e1 e2 e3
    rw [h1] at hck
    have HCK := Lib.hid hck
    clear hck
    have g3 : (l.st != 1) = true := bne_iff_ne.2 h3
    clear h3
    go_enter Tryd.func19, Tryd.ntmps19
    go_wp2_with (refine wpList_load_row rfl 27 _ rfl _ rfl _ _ _ _ (m0.k) Tryd.underlying27 rfl (by kernel_rfl) ?_)
    refine (HCK.out _ m0.b).mono ?_
    rintro e w1 ⟨rfl, hb⟩
    have m1 := m0.later hb
    clear m0 hb HCK
    go_wp2_with fail
    refine (aday_at h2 _).mono ?_
    rintro e w' ⟨rfl, rfl⟩
    have l2 := m1.k.c2
    go_wp2_with (refine wpList_store_row rfl 27 _ _ rfl _ _ rfl rfl _ _ m1.z (by kernel_rfl) rfl (one25 ..) ?_)
    (try simp only [Exit.inBlock, Exit.then])
    refine bodyPost_ret (results3_cell Tryd.results19 _ _ _ _ _ _ _ rfl (Blk_setRow_same m1.z) Tryd.underlying27 rfl (by kernel_rfl)) rfl ?_
    exact ⟨none, 0, none, 0, rfl, ⟨RowIn.noneA, RowIn.noneA⟩, Below_setRow m1.b (by omega) _⟩
  · rw [e1, e2, e3]
    clear e1 e2 e3
    rw [h1] at hck
    have HCK := Lib.hid hck
    clear hck
    have g3 : (l.st != 1) = false := by rw [h3]; rfl
    clear h3
    have g4 : decide (on < l.chg) = true := decide_eq_true h4
    go_enter Tryd.func19, Tryd.ntmps19
    go_wp2_with (refine wpList_load_row rfl 27 _ rfl _ rfl _ _ _ _ (m0.k) Tryd.underlying27 rfl (by kernel_rfl) ?_)
    refine (HCK.out _ m0.b).mono ?_
    rintro e w1 ⟨rfl, hb⟩
    have m1 := m0.later hb
    clear m0 hb HCK
    go_wp2_with fail
    refine (aday_at h2 _).mono ?_
    rintro e w' ⟨rfl, rfl⟩
    have l2 := m1.k.c2
    have l7 := m1.k.c7
    go_wp2_with (refine wpList_store_row rfl 27 _ _ rfl _ _ rfl rfl _ _ m1.z (by kernel_rfl) rfl (one25 ..) ?_)
    (try simp only [Exit.inBlock, Exit.then])
    refine bodyPost_ret (results3_cell Tryd.results19 _ _ _ _ _ _ _ rfl (Blk_setRow_same m1.z) Tryd.underlying27 rfl (by kernel_rfl)) rfl ?_
    exact ⟨none, 0, none, 0, rfl, ⟨RowIn.noneA, RowIn.noneA⟩, Below_setRow m1.b (by omega) _⟩
  · rw [e1, e2, e3]
    clear e1 e2 e3
    rw [h1] at hck
    have HCK := Lib.hid hck
    clear hck
    have g3 : (l.st != 1) = false := by rw [h3]; rfl
    clear h3
    have g4 : decide (on < l.chg) = false := decide_eq_false (by omega)
    have HPC := Lib.hid (HPN.out _ h5)
    clear HPN h5
    generalize chgG l on = gg at *
    go_enter Tryd.func19, Tryd.ntmps19
    go_wp2_with (refine wpList_load_row rfl 27 _ rfl _ rfl _ _ _ _ (m0.k) Tryd.underlying27 rfl (by kernel_rfl) ?_)
    refine (HCK.out _ m0.b).mono ?_
    rintro e w1 ⟨rfl, hb⟩
    have m1 := m0.later hb
    clear m0 hb HCK
    go_wp2_with fail
    refine (aday_at h2 _).mono ?_
    rintro e w' ⟨rfl, rfl⟩
    have l2 := m1.k.c2
    have l7 := m1.k.c7
    go_wp2_with (refine wpList_load_row rfl 27 _ rfl _ rfl _ _ _ _ (m1.k) Tryd.underlying27 rfl (by kernel_rfl) ?_)
    refine (HPC.out _ m1.b).mono ?_
    rintro e w2 ⟨rfl, hb⟩
    have m2 := m1.later hb
    clear m1 hb HPC l2 l7
    go_upto_region 8 with fail
    have hal : Below w2.heap.size w2 (w2.alloc (.cells #[.int .i64 (hi gg), .int .u64 (lo gg)] 36)) := (Below.refl _ _).alloc (Nat.le_refl _) _
    have k7 := Bk.Blk.nw10 (W := w2) (cs := #[.int .i64 (hi gg), .int .u64 (lo gg)]) (t := 36)
    have m3 := m2.later hal
    clear hal m2
    generalize (w2.alloc (.cells #[.int .i64 (hi gg), .int .u64 (lo gg)] 36)) = w3 at *
    generalize w2.heap.size = g7 at *
    go_wp2_with (refine wpList_store_row rfl 27 _ _ rfl _ _ rfl rfl _ _ m3.z (by kernel_rfl) rfl (one25 ..) ?_)
    (try simp only [Exit.inBlock, Exit.then])
    refine bodyPost_ret (results3_cell Tryd.results19 _ _ _ _ _ _ _ rfl (Blk_setRow_same m3.z) Tryd.underlying27 rfl (by kernel_rfl)) rfl ?_
    exact ⟨none, 0, none, 0, rfl, ⟨RowIn.noneA, RowIn.noneA⟩, Below_setRow m3.b (by omega) _⟩
  · rw [e1, e2, e3]
    clear e1 e2 e3
    rw [h1] at hck
    have HCK := Lib.hid hck
    clear hck
    have g3 : (l.st != 1) = false := by rw [h3]; rfl
    clear h3
    have g4 : decide (on < l.chg) = false := decide_eq_false (by omega)
    have HPC := Lib.hid (HPN.out _ h5)
    clear HPN h5
    have g6 : (Rd.amE (chgG l on) 6 != 0) = true := bne_iff_ne.2 h6
    have HAC := Lib.hid (HAM.out _ rfl)
    generalize Rd.amE (chgG l on) 6 = ae at *
    clear HAM h6
    generalize chgM l on = n at *
    generalize Rd.amR (chgG l on) 6 = ar at *
    generalize chgG l on = gg at *
    go_enter Tryd.func19, Tryd.ntmps19
    go_wp2_with (refine wpList_load_row rfl 27 _ rfl _ rfl _ _ _ _ (m0.k) Tryd.underlying27 rfl (by kernel_rfl) ?_)
    refine (HCK.out _ m0.b).mono ?_
    rintro e w1 ⟨rfl, hb⟩
    have m1 := m0.later hb
    clear m0 hb HCK
    go_wp2_with fail
    refine (aday_at h2 _).mono ?_
    rintro e w' ⟨rfl, rfl⟩
    have l2 := m1.k.c2
    have l7 := m1.k.c7
    go_wp2_with (refine wpList_load_row rfl 27 _ rfl _ rfl _ _ _ _ (m1.k) Tryd.underlying27 rfl (by kernel_rfl) ?_)
    refine (HPC.out _ m1.b).mono ?_
    rintro e w2 ⟨rfl, hb⟩
    have m2 := m1.later hb
    clear m1 hb HPC l2 l7
    go_upto_region 8 with fail
    have hal : Below w2.heap.size w2 (w2.alloc (.cells #[.int .i64 (hi gg), .int .u64 (lo gg)] 36)) := (Below.refl _ _).alloc (Nat.le_refl _) _
    have k7 := Bk.Blk.nw10 (W := w2) (cs := #[.int .i64 (hi gg), .int .u64 (lo gg)]) (t := 36)
    have m3 := m2.later hal
    clear hal m2
    generalize (w2.alloc (.cells #[.int .i64 (hi gg), .int .u64 (lo gg)] 36)) = w3 at *
    generalize w2.heap.size = g7 at *
    have q70 := k7.c0
    have q71 := k7.c1
    go_wp2_with fail
    refine (HAC.out _ m3.b).mono ?_
    rintro e w4 ⟨rfl, hb⟩
    have m4 := m3.later hb
    clear m3 hb HAC q70 q71 k7
    go_upto_region 11 with fail
    have hal : Below w4.heap.size w4 (w4.alloc (.cells #[.int .i64 (hi ar), .int .u64 (lo ar)] 36)) := (Below.refl _ _).alloc (Nat.le_refl _) _
    have m5 := m4.later hal
    clear hal m4
    generalize (w4.alloc (.cells #[.int .i64 (hi ar), .int .u64 (lo ar)] 36)) = w5 at *
    generalize w4.heap.size = g10 at *
    go_wp2_with (refine wpList_store_row rfl 27 _ _ rfl _ _ rfl rfl _ _ m5.z (by kernel_rfl) rfl (one25 ..) ?_)
    (try simp only [Exit.inBlock, Exit.then])
    refine bodyPost_ret (results3_cell Tryd.results19 _ _ _ _ _ _ _ rfl (Blk_setRow_same m5.z) Tryd.underlying27 rfl (by kernel_rfl)) rfl ?_
    exact ⟨none, 0, none, 0, rfl, ⟨RowIn.noneA, RowIn.noneA⟩, Below_setRow m5.b (by omega) _⟩
  · rw [e1, e2, e3]
    clear e1 e2 e3
    rw [h1] at hck
    have HCK := Lib.hid hck
    clear hck
    have g3 : (l.st != 1) = false := by rw [h3]; rfl
    clear h3
    have g4 : decide (on < l.chg) = false := decide_eq_false (by omega)
    have HPC := Lib.hid (HPN.out _ h5)
    clear HPN h5
    have HAC := Lib.hid (HAM.out _ h6)
    have hp := amt_iff.1 (ok_iff.1 h1).pen
    have hq := am_pos (chgG_pos (ok_iff.1 h1) on) h6
    have hqq : 0 ≤ chgM l on ∧ chgM l on ≤ 1000000000000 := hq
    have hw : IntKind.i64.wrap (l.pen + chgM l on) = l.pen + chgM l on := by rw [IntKind.wrap_i64]; omega
    clear HAM h6 hq
    have g7 : decide (1000000000000 < l.pen + chgM l on) = true := decide_eq_true h7
    generalize chgM l on = n at *
    generalize Rd.amR (chgG l on) 6 = ar at *
    generalize chgG l on = gg at *
    go_enter Tryd.func19, Tryd.ntmps19
    go_wp2_with (refine wpList_load_row rfl 27 _ rfl _ rfl _ _ _ _ (m0.k) Tryd.underlying27 rfl (by kernel_rfl) ?_)
    refine (HCK.out _ m0.b).mono ?_
    rintro e w1 ⟨rfl, hb⟩
    have m1 := m0.later hb
    clear m0 hb HCK
    go_wp2_with fail
    refine (aday_at h2 _).mono ?_
    rintro e w' ⟨rfl, rfl⟩
    have l2 := m1.k.c2
    have l7 := m1.k.c7
    go_wp2_with (refine wpList_load_row rfl 27 _ rfl _ rfl _ _ _ _ (m1.k) Tryd.underlying27 rfl (by kernel_rfl) ?_)
    refine (HPC.out _ m1.b).mono ?_
    rintro e w2 ⟨rfl, hb⟩
    have m2 := m1.later hb
    clear m1 hb HPC l2 l7
    go_upto_region 8 with fail
    have hal : Below w2.heap.size w2 (w2.alloc (.cells #[.int .i64 (hi gg), .int .u64 (lo gg)] 36)) := (Below.refl _ _).alloc (Nat.le_refl _) _
    have k7 := Bk.Blk.nw10 (W := w2) (cs := #[.int .i64 (hi gg), .int .u64 (lo gg)]) (t := 36)
    have m3 := m2.later hal
    clear hal m2
    generalize (w2.alloc (.cells #[.int .i64 (hi gg), .int .u64 (lo gg)] 36)) = w3 at *
    generalize w2.heap.size = g7 at *
    have q70 := k7.c0
    have q71 := k7.c1
    go_wp2_with fail
    refine (HAC.out _ m3.b).mono ?_
    rintro e w4 ⟨rfl, hb⟩
    have m4 := m3.later hb
    clear m3 hb HAC q70 q71 k7
    go_upto_region 11 with fail
    have hal : Below w4.heap.size w4 (w4.alloc (.cells #[.int .i64 (hi ar), .int .u64 (lo ar)] 36)) := (Below.refl _ _).alloc (Nat.le_refl _) _
    have m5 := m4.later hal
    clear hal m4
    generalize (w4.alloc (.cells #[.int .i64 (hi ar), .int .u64 (lo ar)] 36)) = w5 at *
    generalize w4.heap.size = g10 at *
    have l6 := m5.k.c6
    go_wp2_with (refine wpList_store_row rfl 27 _ _ rfl _ _ rfl rfl _ _ m5.z (by kernel_rfl) rfl (one25 ..) ?_)
    (try simp only [Exit.inBlock, Exit.then])
    refine bodyPost_ret (results3_cell Tryd.results19 _ _ _ _ _ _ _ rfl (Blk_setRow_same m5.z) Tryd.underlying27 rfl (by kernel_rfl)) rfl ?_
    exact ⟨none, 0, none, 0, rfl, ⟨RowIn.noneA, RowIn.noneA⟩, Below_setRow m5.b (by omega) _⟩
  · rw [e1, e2, e3]
    clear e1 e2 e3
    rw [h1] at hck
    have HCK := Lib.hid hck
    clear hck
    have g3 : (l.st != 1) = false := by rw [h3]; rfl
    clear h3
    have g4 : decide (on < l.chg) = false := decide_eq_false (by omega)
    have HPC := Lib.hid (HPN.out _ h5)
    clear HPN h5
    have HAC := Lib.hid (HAM.out _ h6)
    have hp := amt_iff.1 (ok_iff.1 h1).pen
    have hq := am_pos (chgG_pos (ok_iff.1 h1) on) h6
    have hqq : 0 ≤ chgM l on ∧ chgM l on ≤ 1000000000000 := hq
    have hw : IntKind.i64.wrap (l.pen + chgM l on) = l.pen + chgM l on := by rw [IntKind.wrap_i64]; omega
    clear HAM h6 hq
    have g7 : decide (1000000000000 < l.pen + chgM l on) = false := decide_eq_false (by omega)
    generalize chgM l on = n at *
    generalize Rd.amR (chgG l on) 6 = ar at *
    generalize chgG l on = gg at *
    go_enter Tryd.func19, Tryd.ntmps19
    go_wp2_with (refine wpList_load_row rfl 27 _ rfl _ rfl _ _ _ _ (m0.k) Tryd.underlying27 rfl (by kernel_rfl) ?_)
    refine (HCK.out _ m0.b).mono ?_
    rintro e w1 ⟨rfl, hb⟩
    have m1 := m0.later hb
    clear m0 hb HCK
    go_wp2_with fail
    refine (aday_at h2 _).mono ?_
    rintro e w' ⟨rfl, rfl⟩
    have l2 := m1.k.c2
    have l7 := m1.k.c7
    go_wp2_with (refine wpList_load_row rfl 27 _ rfl _ rfl _ _ _ _ (m1.k) Tryd.underlying27 rfl (by kernel_rfl) ?_)
    refine (HPC.out _ m1.b).mono ?_
    rintro e w2 ⟨rfl, hb⟩
    have m2 := m1.later hb
    clear m1 hb HPC l2 l7
    go_upto_region 8 with fail
    have hal : Below w2.heap.size w2 (w2.alloc (.cells #[.int .i64 (hi gg), .int .u64 (lo gg)] 36)) := (Below.refl _ _).alloc (Nat.le_refl _) _
    have k7 := Bk.Blk.nw10 (W := w2) (cs := #[.int .i64 (hi gg), .int .u64 (lo gg)]) (t := 36)
    have m3 := m2.later hal
    clear hal m2
    generalize (w2.alloc (.cells #[.int .i64 (hi gg), .int .u64 (lo gg)] 36)) = w3 at *
    generalize w2.heap.size = g7 at *
    have q70 := k7.c0
    have q71 := k7.c1
    go_wp2_with fail
    refine (HAC.out _ m3.b).mono ?_
    rintro e w4 ⟨rfl, hb⟩
    have m4 := m3.later hb
    clear m3 hb HAC q70 q71 k7
    go_upto_region 11 with fail
    have hal : Below w4.heap.size w4 (w4.alloc (.cells #[.int .i64 (hi ar), .int .u64 (lo ar)] 36)) := (Below.refl _ _).alloc (Nat.le_refl _) _
    have m5 := m4.later hal
    clear hal m4
    generalize (w4.alloc (.cells #[.int .i64 (hi ar), .int .u64 (lo ar)] 36)) = w5 at *
    generalize w4.heap.size = g10 at *
    have l6 := m5.k.c6
    have f6 := m5.k.f6
    have l7 := m5.k.c7
    have f7 := m5.k.f7
    go_upto_region 15 with fail
    have m6 := (m5.put 6 (.int .i64 (l.pen + n)) { l with pen := l.pen + n } (da' := da) (ca' := ca) (dk' := dk) (ck' := ck) (by simp)).put 7 (.int .i64 on) (l.chd n on) (da' := da) (ca' := ca) (dk' := dk) (ck' := ck) (by simp [Lo.chd])
    clear m5 l6 f6 l7 f7
    generalize (w5.setCell ⟨w.heap.size, 6, none⟩ (.int .i64 (l.pen + n))).setCell ⟨w.heap.size, 7, none⟩ (.int .i64 on) = w6 at *
    have m3d := m6.drew
    clear m6
    have HCD := Lib.hid (fun (W : World) (hb : Below w.heap.size w W) => cln_due da dk l.ds W (dues_of_row (by have := HN.out.1; omega) (HL.out.later hb).d) HN.out.1)
    have HCC := Lib.hid (fun (W : World) (hb : Below w.heap.size w W) => cln_chg ca ck l.cs W (HL.out.later hb).c HN.out.2)
    have y1 := m3d.k.c23
    have y2 := m3d.k.c24
    go_cut [] from 67 to 74 (MCl w Zc (l.chd n on))
    case first =>
      go_region_with (first | (go_at_call 39; refine (HCD.out _ (by first | exact m3d.b | exact hP2.b)).mono ?_; rintro e wa ⟨a1, c1, rfl, hr1, hf1, hb1⟩; (first | have hP1 := hP2.later hb1 | have hP1 := m3d.later hb1); have z1 := hP1.k.c23; have z2 := hP1.k.c24; have z3 := hP1.k.f23; have z4 := hP1.k.f24) | (go_at_call 40; refine (HCC.out _ (by first | exact m3d.b | exact hP1.b)).mono ?_; rintro e wb ⟨a2, c2, rfl, hr2, hf2, hb2⟩; (first | have hP2 := hP1.later hb2 | have hP2 := m3d.later hb2); have y1 := hP2.k.c23; have y2 := hP2.k.c24; have y3 := hP2.k.f23; have y4 := hP2.k.f24))
      all_goals
        go_wp2_with fail
        go_meet
        case rel => first | exact mcl_fin hP2 (hr1.later hb2) hr2 hf1 hf2 m3d.sz hP1.sz | exact mcl_fin hP1 hr1 (hr2.later hb1) hf1 hf2 hP2.sz m3d.sz
    obtain ⟨da', ca', dk', ck', m4, hrd, hrc, hfd, hfc⟩ := hcut
    generalize wc = w4 at *
    clear m3d y1 y2 HCD HCC
    go_wp2_with (first | (refine wpList_load_row rfl 27 _ rfl _ rfl _ _ _ _ (m4.k) Tryd.underlying27 rfl (by kernel_rfl) ?_) | (refine wpList_store_row rfl 27 _ _ rfl _ _ rfl rfl _ _ m4.z (by kernel_rfl) rfl (one25 ..) ?_))
    (try simp only [Exit.inBlock, Exit.then])
    refine bodyPost_ret (results3_cell Tryd.results19 _ _ _ _ _ _ _ rfl (Blk_setRow_same m4.z) Tryd.underlying27 rfl (by kernel_rfl)) rfl ?_
    exact ⟨da', dk', ca', ck', rfl, ⟨row_row hrd (fun ad had => by have := hfd ad had; omega), row_row hrc (fun ad had => by have := hfc ad had; omega)⟩, Below_setRow m4.b (by omega) _⟩

set_option maxRecDepth 100000 in
set_option maxHeartbeats 16000000 in
theorem rcharge_any (l : Lo) (da ca : Option Addr) (dk ck : Nat) (on : Int) (w : World) (hl : LoInA w l da ca) (hn : l.ds.length ≤ 100000) (hm : l.cs.length ≤ 100000) (hd : Dok l.ds) :
    Calls Tryd.prog 20 #[(.agg #[.int .i64 (l).id, .int .i64 (l).ac, .int .i64 (l).st, .int .i64 (l).pp, .int .i64 (l).pi, .int .i64 (l).fee, .int .i64 (l).pen, .int .i64 (l).chg, .int .i64 (l).prov, .int .i64 (l).loss, .int .i64 (l).rcv, .int .i64 ((l).tm).me, .int .i64 ((l).tm).pr, .int .i64 ((l).tm).ppm, .int .i64 ((l).tm).stt, .int .i64 ((l).tm).ev, .int .i64 ((l).tm).ct, .int .i64 ((l).tm).ba, .int .i64 ((l).tm).mo, .int .i64 ((l).tm).pen, .int .i64 ((l).tm).fe, .string ((l).tm).cal, .string ((l).tm).cur, .slice da (l).ds.length dk, .slice ca (l).cs.length ck]), .int .i64 on] w (ChP (chgL l on) (chgN l on) (chgE l on) w) := by
  have m0 : MSt w ((w.alloc (.cells #[.int .i64 (l).id, .int .i64 (l).ac, .int .i64 (l).st, .int .i64 (l).pp, .int .i64 (l).pi, .int .i64 (l).fee, .int .i64 (l).pen, .int .i64 (l).chg, .int .i64 (l).prov, .int .i64 (l).loss, .int .i64 (l).rcv, .int .i64 ((l).tm).me, .int .i64 ((l).tm).pr, .int .i64 ((l).tm).ppm, .int .i64 ((l).tm).stt, .int .i64 ((l).tm).ev, .int .i64 ((l).tm).ct, .int .i64 ((l).tm).ba, .int .i64 ((l).tm).mo, .int .i64 ((l).tm).pen, .int .i64 ((l).tm).fe, .string ((l).tm).cal, .string ((l).tm).cur, .slice da (l).ds.length dk, .slice ca (l).cs.length ck] 27)).alloc (.cells Zc 27)) Zc l da ca dk ck := ⟨Bk.Blk.nw20, Bk.Blk.nw21, ((Below.refl _ _).alloc (Nat.le_refl _) _).alloc (by simp) _⟩
  have hck := fun (W : World) (hW : Below w.heap.size w W) => rcheck_any l da ca dk ck W (dues_of_row (by omega) (hl.later hW).d) hd
  have HPN := Lib.hid (fun (E : Int) (he : penE l l.chg on = E) (W : World) (hW : Below w.heap.size w W) => rpen_at (V := chgG l on) rfl he da ca dk ck W (dues_of_row (by omega) (hl.later hW).d) hd)
  have HAM := Lib.hid (fun (E : Int) (he : Rd.amE (chgG l on) 6 = E) (W : World) (hW : Below w.heap.size w W) => ram_at (g := chgG l on) (v := chgM l on) (penV_128 _ _ _) rfl rfl he W)
  have HL := Lib.hid hl
  have HN := Lib.hid (And.intro hn hm)
  clear hl hd
  rcases chg_ways l on with ⟨h1, e1, e2, e3⟩ | ⟨h1, h2, e1, e2, e3⟩ | ⟨h1, h2, h3, e1, e2, e3⟩ | ⟨h1, h2, h3, h4, e1, e2, e3⟩ | ⟨h1, h2, h3, h4, h5, e1, e2, e3⟩ | ⟨h1, h2, h3, h4, h5, h6, e1, e2, e3⟩ | ⟨h1, h2, h3, h4, h5, h6, h7, e1, e2, e3⟩ | ⟨h1, h2, h3, h4, h5, h6, h7, e1, e2, e3⟩
  · rw [e1, e2, e3]
    clear e1 e2 e3
    have HCK := Lib.hid hck
    clear hck HPN HAM
    have g1 : (chk l != 0) = true := bne_iff_ne.2 h1
    generalize chk l = ch at *
    go_enter Tryd.func20, Tryd.ntmps20
    go_wp2_with (refine wpList_load_row rfl 27 _ rfl _ rfl _ _ _ _ (m0.k) Tryd.underlying27 rfl (by kernel_rfl) ?_)
    refine (HCK.out _ m0.b).mono ?_
    rintro e w1 ⟨rfl, hb⟩
    have m1 := m0.later hb
    clear m0 hb HCK
    go_wp2_with (refine wpList_store_row rfl 27 _ _ rfl _ _ rfl rfl _ _ m1.z (by kernel_rfl) rfl (one25 ..) ?_)
    (try simp only [Exit.inBlock, Exit.then])
    refine bodyPost_ret (results3_cell Tryd.results20 _ _ _ _ _ _ _ rfl (Blk_setRow_same m1.z) Tryd.underlying27 rfl (by kernel_rfl)) rfl ?_
    exact ⟨none, 0, none, 0, rfl, ⟨RowIn.noneA, RowIn.noneA⟩, Below_setRow m1.b (by omega) _⟩
  · rw [e1, e2, e3]
    clear e1 e2 e3
    rw [h1] at hck
    have HCK := Lib.hid hck
    clear hck
    go_enter Tryd.func20, Tryd.ntmps20
    go_wp2_with (refine wpList_load_row rfl 27 _ rfl _ rfl _ _ _ _ (m0.k) Tryd.underlying27 rfl (by kernel_rfl) ?_)
    refine (HCK.out _ m0.b).mono ?_
    rintro e w1 ⟨rfl, hb⟩
    have m1 := m0.later hb
    clear m0 hb HCK
    go_wp2_with fail
    refine (rday_at h2 _).mono ?_
    rintro e w' ⟨rfl, rfl⟩
    go_wp2_with (refine wpList_store_row rfl 27 _ _ rfl _ _ rfl rfl _ _ m1.z (by kernel_rfl) rfl (one25 ..) ?_)
    (try simp only [Exit.inBlock, Exit.then])
    refine bodyPost_ret (results3_cell Tryd.results20 _ _ _ _ _ _ _ rfl (Blk_setRow_same m1.z) Tryd.underlying27 rfl (by kernel_rfl)) rfl ?_
    exact ⟨none, 0, none, 0, rfl, ⟨RowIn.noneA, RowIn.noneA⟩, Below_setRow m1.b (by omega) _⟩
  · rw [e1, e2, e3]
    clear e1 e2 e3
    rw [h1] at hck
    have HCK := Lib.hid hck
    clear hck
    have g3 : (l.st != 1) = true := bne_iff_ne.2 h3
    clear h3
    go_enter Tryd.func20, Tryd.ntmps20
    go_wp2_with (refine wpList_load_row rfl 27 _ rfl _ rfl _ _ _ _ (m0.k) Tryd.underlying27 rfl (by kernel_rfl) ?_)
    refine (HCK.out _ m0.b).mono ?_
    rintro e w1 ⟨rfl, hb⟩
    have m1 := m0.later hb
    clear m0 hb HCK
    go_wp2_with fail
    refine (rday_at h2 _).mono ?_
    rintro e w' ⟨rfl, rfl⟩
    have l2 := m1.k.c2
    go_wp2_with (refine wpList_store_row rfl 27 _ _ rfl _ _ rfl rfl _ _ m1.z (by kernel_rfl) rfl (one25 ..) ?_)
    (try simp only [Exit.inBlock, Exit.then])
    refine bodyPost_ret (results3_cell Tryd.results20 _ _ _ _ _ _ _ rfl (Blk_setRow_same m1.z) Tryd.underlying27 rfl (by kernel_rfl)) rfl ?_
    exact ⟨none, 0, none, 0, rfl, ⟨RowIn.noneA, RowIn.noneA⟩, Below_setRow m1.b (by omega) _⟩
  · rw [e1, e2, e3]
    clear e1 e2 e3
    rw [h1] at hck
    have HCK := Lib.hid hck
    clear hck
    have g3 : (l.st != 1) = false := by rw [h3]; rfl
    clear h3
    have g4 : decide (on < l.chg) = true := decide_eq_true h4
    go_enter Tryd.func20, Tryd.ntmps20
    go_wp2_with (refine wpList_load_row rfl 27 _ rfl _ rfl _ _ _ _ (m0.k) Tryd.underlying27 rfl (by kernel_rfl) ?_)
    refine (HCK.out _ m0.b).mono ?_
    rintro e w1 ⟨rfl, hb⟩
    have m1 := m0.later hb
    clear m0 hb HCK
    go_wp2_with fail
    refine (rday_at h2 _).mono ?_
    rintro e w' ⟨rfl, rfl⟩
    have l2 := m1.k.c2
    have l7 := m1.k.c7
    go_wp2_with (refine wpList_store_row rfl 27 _ _ rfl _ _ rfl rfl _ _ m1.z (by kernel_rfl) rfl (one25 ..) ?_)
    (try simp only [Exit.inBlock, Exit.then])
    refine bodyPost_ret (results3_cell Tryd.results20 _ _ _ _ _ _ _ rfl (Blk_setRow_same m1.z) Tryd.underlying27 rfl (by kernel_rfl)) rfl ?_
    exact ⟨none, 0, none, 0, rfl, ⟨RowIn.noneA, RowIn.noneA⟩, Below_setRow m1.b (by omega) _⟩
  · rw [e1, e2, e3]
    clear e1 e2 e3
    rw [h1] at hck
    have HCK := Lib.hid hck
    clear hck
    have g3 : (l.st != 1) = false := by rw [h3]; rfl
    clear h3
    have g4 : decide (on < l.chg) = false := decide_eq_false (by omega)
    have HPC := Lib.hid (HPN.out _ h5)
    clear HPN h5
    generalize chgG l on = gg at *
    go_enter Tryd.func20, Tryd.ntmps20
    go_wp2_with (refine wpList_load_row rfl 27 _ rfl _ rfl _ _ _ _ (m0.k) Tryd.underlying27 rfl (by kernel_rfl) ?_)
    refine (HCK.out _ m0.b).mono ?_
    rintro e w1 ⟨rfl, hb⟩
    have m1 := m0.later hb
    clear m0 hb HCK
    go_wp2_with fail
    refine (rday_at h2 _).mono ?_
    rintro e w' ⟨rfl, rfl⟩
    have l2 := m1.k.c2
    have l7 := m1.k.c7
    go_wp2_with (refine wpList_load_row rfl 27 _ rfl _ rfl _ _ _ _ (m1.k) Tryd.underlying27 rfl (by kernel_rfl) ?_)
    refine (HPC.out _ m1.b).mono ?_
    rintro e w2 ⟨rfl, hb⟩
    have m2 := m1.later hb
    clear m1 hb HPC l2 l7
    go_upto_region 8 with fail
    have hal : Below w2.heap.size w2 (w2.alloc (.cells #[.int .i64 (hi gg), .int .u64 (lo gg)] 36)) := (Below.refl _ _).alloc (Nat.le_refl _) _
    have k7 := Bk.Blk.nw10 (W := w2) (cs := #[.int .i64 (hi gg), .int .u64 (lo gg)]) (t := 36)
    have m3 := m2.later hal
    clear hal m2
    generalize (w2.alloc (.cells #[.int .i64 (hi gg), .int .u64 (lo gg)] 36)) = w3 at *
    generalize w2.heap.size = g7 at *
    go_wp2_with (refine wpList_store_row rfl 27 _ _ rfl _ _ rfl rfl _ _ m3.z (by kernel_rfl) rfl (one25 ..) ?_)
    (try simp only [Exit.inBlock, Exit.then])
    refine bodyPost_ret (results3_cell Tryd.results20 _ _ _ _ _ _ _ rfl (Blk_setRow_same m3.z) Tryd.underlying27 rfl (by kernel_rfl)) rfl ?_
    exact ⟨none, 0, none, 0, rfl, ⟨RowIn.noneA, RowIn.noneA⟩, Below_setRow m3.b (by omega) _⟩
  · rw [e1, e2, e3]
    clear e1 e2 e3
    rw [h1] at hck
    have HCK := Lib.hid hck
    clear hck
    have g3 : (l.st != 1) = false := by rw [h3]; rfl
    clear h3
    have g4 : decide (on < l.chg) = false := decide_eq_false (by omega)
    have HPC := Lib.hid (HPN.out _ h5)
    clear HPN h5
    have g6 : (Rd.amE (chgG l on) 6 != 0) = true := bne_iff_ne.2 h6
    have HAC := Lib.hid (HAM.out _ rfl)
    generalize Rd.amE (chgG l on) 6 = ae at *
    clear HAM h6
    generalize chgM l on = n at *
    generalize Rd.amR (chgG l on) 6 = ar at *
    generalize chgG l on = gg at *
    go_enter Tryd.func20, Tryd.ntmps20
    go_wp2_with (refine wpList_load_row rfl 27 _ rfl _ rfl _ _ _ _ (m0.k) Tryd.underlying27 rfl (by kernel_rfl) ?_)
    refine (HCK.out _ m0.b).mono ?_
    rintro e w1 ⟨rfl, hb⟩
    have m1 := m0.later hb
    clear m0 hb HCK
    go_wp2_with fail
    refine (rday_at h2 _).mono ?_
    rintro e w' ⟨rfl, rfl⟩
    have l2 := m1.k.c2
    have l7 := m1.k.c7
    go_wp2_with (refine wpList_load_row rfl 27 _ rfl _ rfl _ _ _ _ (m1.k) Tryd.underlying27 rfl (by kernel_rfl) ?_)
    refine (HPC.out _ m1.b).mono ?_
    rintro e w2 ⟨rfl, hb⟩
    have m2 := m1.later hb
    clear m1 hb HPC l2 l7
    go_upto_region 8 with fail
    have hal : Below w2.heap.size w2 (w2.alloc (.cells #[.int .i64 (hi gg), .int .u64 (lo gg)] 36)) := (Below.refl _ _).alloc (Nat.le_refl _) _
    have k7 := Bk.Blk.nw10 (W := w2) (cs := #[.int .i64 (hi gg), .int .u64 (lo gg)]) (t := 36)
    have m3 := m2.later hal
    clear hal m2
    generalize (w2.alloc (.cells #[.int .i64 (hi gg), .int .u64 (lo gg)] 36)) = w3 at *
    generalize w2.heap.size = g7 at *
    have q70 := k7.c0
    have q71 := k7.c1
    go_wp2_with fail
    refine (HAC.out _ m3.b).mono ?_
    rintro e w4 ⟨rfl, hb⟩
    have m4 := m3.later hb
    clear m3 hb HAC q70 q71 k7
    go_upto_region 11 with fail
    have hal : Below w4.heap.size w4 (w4.alloc (.cells #[.int .i64 (hi ar), .int .u64 (lo ar)] 36)) := (Below.refl _ _).alloc (Nat.le_refl _) _
    have m5 := m4.later hal
    clear hal m4
    generalize (w4.alloc (.cells #[.int .i64 (hi ar), .int .u64 (lo ar)] 36)) = w5 at *
    generalize w4.heap.size = g10 at *
    go_wp2_with (refine wpList_store_row rfl 27 _ _ rfl _ _ rfl rfl _ _ m5.z (by kernel_rfl) rfl (one25 ..) ?_)
    (try simp only [Exit.inBlock, Exit.then])
    refine bodyPost_ret (results3_cell Tryd.results20 _ _ _ _ _ _ _ rfl (Blk_setRow_same m5.z) Tryd.underlying27 rfl (by kernel_rfl)) rfl ?_
    exact ⟨none, 0, none, 0, rfl, ⟨RowIn.noneA, RowIn.noneA⟩, Below_setRow m5.b (by omega) _⟩
  · rw [e1, e2, e3]
    clear e1 e2 e3
    rw [h1] at hck
    have HCK := Lib.hid hck
    clear hck
    have g3 : (l.st != 1) = false := by rw [h3]; rfl
    clear h3
    have g4 : decide (on < l.chg) = false := decide_eq_false (by omega)
    have HPC := Lib.hid (HPN.out _ h5)
    clear HPN h5
    have HAC := Lib.hid (HAM.out _ h6)
    have hp := amt_iff.1 (ok_iff.1 h1).pen
    have hq := am_pos (chgG_pos (ok_iff.1 h1) on) h6
    have hqq : 0 ≤ chgM l on ∧ chgM l on ≤ 1000000000000 := hq
    have hw : IntKind.i64.wrap (l.pen + chgM l on) = l.pen + chgM l on := by rw [IntKind.wrap_i64]; omega
    clear HAM h6 hq
    have g7 : decide (1000000000000 < l.pen + chgM l on) = true := decide_eq_true h7
    generalize chgM l on = n at *
    generalize Rd.amR (chgG l on) 6 = ar at *
    generalize chgG l on = gg at *
    go_enter Tryd.func20, Tryd.ntmps20
    go_wp2_with (refine wpList_load_row rfl 27 _ rfl _ rfl _ _ _ _ (m0.k) Tryd.underlying27 rfl (by kernel_rfl) ?_)
    refine (HCK.out _ m0.b).mono ?_
    rintro e w1 ⟨rfl, hb⟩
    have m1 := m0.later hb
    clear m0 hb HCK
    go_wp2_with fail
    refine (rday_at h2 _).mono ?_
    rintro e w' ⟨rfl, rfl⟩
    have l2 := m1.k.c2
    have l7 := m1.k.c7
    go_wp2_with (refine wpList_load_row rfl 27 _ rfl _ rfl _ _ _ _ (m1.k) Tryd.underlying27 rfl (by kernel_rfl) ?_)
    refine (HPC.out _ m1.b).mono ?_
    rintro e w2 ⟨rfl, hb⟩
    have m2 := m1.later hb
    clear m1 hb HPC l2 l7
    go_upto_region 8 with fail
    have hal : Below w2.heap.size w2 (w2.alloc (.cells #[.int .i64 (hi gg), .int .u64 (lo gg)] 36)) := (Below.refl _ _).alloc (Nat.le_refl _) _
    have k7 := Bk.Blk.nw10 (W := w2) (cs := #[.int .i64 (hi gg), .int .u64 (lo gg)]) (t := 36)
    have m3 := m2.later hal
    clear hal m2
    generalize (w2.alloc (.cells #[.int .i64 (hi gg), .int .u64 (lo gg)] 36)) = w3 at *
    generalize w2.heap.size = g7 at *
    have q70 := k7.c0
    have q71 := k7.c1
    go_wp2_with fail
    refine (HAC.out _ m3.b).mono ?_
    rintro e w4 ⟨rfl, hb⟩
    have m4 := m3.later hb
    clear m3 hb HAC q70 q71 k7
    go_upto_region 11 with fail
    have hal : Below w4.heap.size w4 (w4.alloc (.cells #[.int .i64 (hi ar), .int .u64 (lo ar)] 36)) := (Below.refl _ _).alloc (Nat.le_refl _) _
    have m5 := m4.later hal
    clear hal m4
    generalize (w4.alloc (.cells #[.int .i64 (hi ar), .int .u64 (lo ar)] 36)) = w5 at *
    generalize w4.heap.size = g10 at *
    have l6 := m5.k.c6
    go_wp2_with (refine wpList_store_row rfl 27 _ _ rfl _ _ rfl rfl _ _ m5.z (by kernel_rfl) rfl (one25 ..) ?_)
    (try simp only [Exit.inBlock, Exit.then])
    refine bodyPost_ret (results3_cell Tryd.results20 _ _ _ _ _ _ _ rfl (Blk_setRow_same m5.z) Tryd.underlying27 rfl (by kernel_rfl)) rfl ?_
    exact ⟨none, 0, none, 0, rfl, ⟨RowIn.noneA, RowIn.noneA⟩, Below_setRow m5.b (by omega) _⟩
  · rw [e1, e2, e3]
    clear e1 e2 e3
    rw [h1] at hck
    have HCK := Lib.hid hck
    clear hck
    have g3 : (l.st != 1) = false := by rw [h3]; rfl
    clear h3
    have g4 : decide (on < l.chg) = false := decide_eq_false (by omega)
    have HPC := Lib.hid (HPN.out _ h5)
    clear HPN h5
    have HAC := Lib.hid (HAM.out _ h6)
    have hp := amt_iff.1 (ok_iff.1 h1).pen
    have hq := am_pos (chgG_pos (ok_iff.1 h1) on) h6
    have hqq : 0 ≤ chgM l on ∧ chgM l on ≤ 1000000000000 := hq
    have hw : IntKind.i64.wrap (l.pen + chgM l on) = l.pen + chgM l on := by rw [IntKind.wrap_i64]; omega
    clear HAM h6 hq
    have g7 : decide (1000000000000 < l.pen + chgM l on) = false := decide_eq_false (by omega)
    generalize chgM l on = n at *
    generalize Rd.amR (chgG l on) 6 = ar at *
    generalize chgG l on = gg at *
    go_enter Tryd.func20, Tryd.ntmps20
    go_wp2_with (refine wpList_load_row rfl 27 _ rfl _ rfl _ _ _ _ (m0.k) Tryd.underlying27 rfl (by kernel_rfl) ?_)
    refine (HCK.out _ m0.b).mono ?_
    rintro e w1 ⟨rfl, hb⟩
    have m1 := m0.later hb
    clear m0 hb HCK
    go_wp2_with fail
    refine (rday_at h2 _).mono ?_
    rintro e w' ⟨rfl, rfl⟩
    have l2 := m1.k.c2
    have l7 := m1.k.c7
    go_wp2_with (refine wpList_load_row rfl 27 _ rfl _ rfl _ _ _ _ (m1.k) Tryd.underlying27 rfl (by kernel_rfl) ?_)
    refine (HPC.out _ m1.b).mono ?_
    rintro e w2 ⟨rfl, hb⟩
    have m2 := m1.later hb
    clear m1 hb HPC l2 l7
    go_upto_region 8 with fail
    have hal : Below w2.heap.size w2 (w2.alloc (.cells #[.int .i64 (hi gg), .int .u64 (lo gg)] 36)) := (Below.refl _ _).alloc (Nat.le_refl _) _
    have k7 := Bk.Blk.nw10 (W := w2) (cs := #[.int .i64 (hi gg), .int .u64 (lo gg)]) (t := 36)
    have m3 := m2.later hal
    clear hal m2
    generalize (w2.alloc (.cells #[.int .i64 (hi gg), .int .u64 (lo gg)] 36)) = w3 at *
    generalize w2.heap.size = g7 at *
    have q70 := k7.c0
    have q71 := k7.c1
    go_wp2_with fail
    refine (HAC.out _ m3.b).mono ?_
    rintro e w4 ⟨rfl, hb⟩
    have m4 := m3.later hb
    clear m3 hb HAC q70 q71 k7
    go_upto_region 11 with fail
    have hal : Below w4.heap.size w4 (w4.alloc (.cells #[.int .i64 (hi ar), .int .u64 (lo ar)] 36)) := (Below.refl _ _).alloc (Nat.le_refl _) _
    have m5 := m4.later hal
    clear hal m4
    generalize (w4.alloc (.cells #[.int .i64 (hi ar), .int .u64 (lo ar)] 36)) = w5 at *
    generalize w4.heap.size = g10 at *
    have l6 := m5.k.c6
    have f6 := m5.k.f6
    have l7 := m5.k.c7
    have f7 := m5.k.f7
    go_upto_region 15 with fail
    have m6 := (m5.put 6 (.int .i64 (l.pen + n)) { l with pen := l.pen + n } (da' := da) (ca' := ca) (dk' := dk) (ck' := ck) (by simp)).put 7 (.int .i64 on) (l.chd n on) (da' := da) (ca' := ca) (dk' := dk) (ck' := ck) (by simp [Lo.chd])
    clear m5 l6 f6 l7 f7
    generalize (w5.setCell ⟨w.heap.size, 6, none⟩ (.int .i64 (l.pen + n))).setCell ⟨w.heap.size, 7, none⟩ (.int .i64 on) = w6 at *
    go_wp2_with (first | (refine wpList_load_row rfl 27 _ rfl _ rfl _ _ _ _ (m6.k) Tryd.underlying27 rfl (by kernel_rfl) ?_) | (refine wpList_store_row rfl 27 _ _ rfl _ _ rfl rfl _ _ m6.z (by kernel_rfl) rfl (one25 ..) ?_))
    (try simp only [Exit.inBlock, Exit.then])
    refine bodyPost_ret (results3_cell Tryd.results20 _ _ _ _ _ _ _ rfl (Blk_setRow_same m6.z) Tryd.underlying27 rfl (by kernel_rfl)) rfl ?_
    have hb := Below_setRow m6.b (show w.heap.size ≤ w.heap.size + 1 by omega) #[.int .i64 ((l.chd n on)).id, .int .i64 ((l.chd n on)).ac, .int .i64 ((l.chd n on)).st, .int .i64 ((l.chd n on)).pp, .int .i64 ((l.chd n on)).pi, .int .i64 ((l.chd n on)).fee, .int .i64 ((l.chd n on)).pen, .int .i64 ((l.chd n on)).chg, .int .i64 ((l.chd n on)).prov, .int .i64 ((l.chd n on)).loss, .int .i64 ((l.chd n on)).rcv, .int .i64 (((l.chd n on)).tm).me, .int .i64 (((l.chd n on)).tm).pr, .int .i64 (((l.chd n on)).tm).ppm, .int .i64 (((l.chd n on)).tm).stt, .int .i64 (((l.chd n on)).tm).ev, .int .i64 (((l.chd n on)).tm).ct, .int .i64 (((l.chd n on)).tm).ba, .int .i64 (((l.chd n on)).tm).mo, .int .i64 (((l.chd n on)).tm).pen, .int .i64 (((l.chd n on)).tm).fe, .string (((l.chd n on)).tm).cal, .string (((l.chd n on)).tm).cur, .slice da ((l.chd n on)).ds.length dk, .slice ca ((l.chd n on)).cs.length ck]
    exact ⟨da, dk, ca, ck, rfl, ⟨(HL.out.later hb).d, (HL.out.later hb).c⟩, hb⟩
end Go.Proofs.YtjmgahdjojdanaaDoor.Ln
