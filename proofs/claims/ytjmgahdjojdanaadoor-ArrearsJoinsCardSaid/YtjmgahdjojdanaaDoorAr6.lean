/-
  ArrearsJoins: its walk.
-/
import Derived.Test.YtjmgahdjojdanaaDoorAr5
namespace Go.Proofs.YtjmgahdjojdanaaDoor.Ln
open Go.RowKit
open Go.Proofs.YtjmgahdjojdanaaDoor
open Go.Proofs.YtjmgahdjojdanaaDoor.Wm
set_option linter.unusedSimpArgs false
set_option maxRecDepth 100000

theorem pen_join {l : Lo} {a b c : Int} (h0 : 0 ≤ a) (h1 : a ≤ b) (h2 : b ≤ c) (h3 : c ≤ 73048) (h4 : c - a ≤ 300) : penE l a b = penE l a c ∧ penE l b c = penE l a c ∧ penV l a b + penV l b c = penV l a c ∧ 0 ≤ penV l a c := by
  have da := dayB_iff.2 (show 0 ≤ a ∧ a ≤ 73048 by omega)
  have db := dayB_iff.2 (show 0 ≤ b ∧ b ≤ 73048 by omega)
  have dc := dayB_iff.2 (show 0 ≤ c ∧ c ≤ 73048 by omega)
  by_cases hk : chk l = 0
  · have k1 : penOk l a b := ⟨hk, da, db, h1, by omega⟩
    have k2 : penOk l b c := ⟨hk, db, dc, h2, by omega⟩
    have k3 : penOk l a c := ⟨hk, da, dc, by omega, by omega⟩
    unfold penE penV
    rw [if_pos k1, if_pos k2, if_pos k3, if_pos k1, if_pos k2, if_pos k3]
    have ha := penS_add l a (b - a).toNat (c - b).toNat
    rw [show (b - a).toNat + (c - b).toNat = (c - a).toNat by omega, show a + ((b - a).toNat : Int) = b by omega] at ha
    exact ⟨rfl, rfl, ha.symm, ((ok_iff.1 hk).penS _ _).1⟩
  · unfold penE penV
    rw [if_neg (fun h => hk h.1), if_neg (fun h => hk h.1), if_neg (fun h => hk h.1), if_neg (fun h => hk h.1), if_neg (fun h => hk h.1), if_neg (fun h => hk h.1)]
    exact ⟨rfl, rfl, rfl, Int.le_refl _⟩
theorem hi_pos {v : Int} (h : 0 ≤ v) : 0 ≤ hi v := by unfold hi; omega
theorem check_atA {l : Lo} (h : chk l = 0) (da ca : Option Addr) (dk ck : Nat) (w : World) (hl : LoInA w l da ca) (hn : l.ds.length ≤ 100000) :
    Calls Tryd.prog 23 #[(.agg #[.int .i64 (l).id, .int .i64 (l).ac, .int .i64 (l).st, .int .i64 (l).pp, .int .i64 (l).pi, .int .i64 (l).fee, .int .i64 (l).pen, .int .i64 (l).chg, .int .i64 (l).prov, .int .i64 (l).loss, .int .i64 (l).rcv, .int .i64 ((l).tm).me, .int .i64 ((l).tm).pr, .int .i64 ((l).tm).ppm, .int .i64 ((l).tm).stt, .int .i64 ((l).tm).ev, .int .i64 ((l).tm).ct, .int .i64 ((l).tm).ba, .int .i64 ((l).tm).mo, .int .i64 ((l).tm).pen, .int .i64 ((l).tm).fe, .string ((l).tm).cal, .string ((l).tm).cur, .slice da (l).ds.length dk, .slice ca (l).cs.length ck])] w fun e w' => e = .returned (.int .i64 0) ∧ Below w.heap.size w w' := by
  have := check_any l da ca dk ck w (dues_of_row (by omega) hl.d)
  rw [h] at this
  exact this
/-- A loan with another day of charges. -/
def Lo.chgd (l : Lo) (d : Int) : Lo := { l with chg := d }
set_option maxHeartbeats 16000000 in
theorem joins_walk (l : Lo) (da ca : Option Addr) (dk ck : Nat) (a b c : Int) (_ : (Lit.int .i64 a).wf = true) (_ : (Lit.int .i64 b).wf = true) (_ : (Lit.int .i64 c).wf = true) (w : World) (hl : LoInA w l da ca) (_hd : Dok l.ds) (hS : Rd.Stp w ∧ Ctb w) :
    Calls Tryd.prog 6 #[(.agg #[.int .i64 (l).id, .int .i64 (l).ac, .int .i64 (l).st, .int .i64 (l).pp, .int .i64 (l).pi, .int .i64 (l).fee, .int .i64 (l).pen, .int .i64 (l).chg, .int .i64 (l).prov, .int .i64 (l).loss, .int .i64 (l).rcv, .int .i64 ((l).tm).me, .int .i64 ((l).tm).pr, .int .i64 ((l).tm).ppm, .int .i64 ((l).tm).stt, .int .i64 ((l).tm).ev, .int .i64 ((l).tm).ct, .int .i64 ((l).tm).ba, .int .i64 ((l).tm).mo, .int .i64 ((l).tm).pen, .int .i64 ((l).tm).fe, .string ((l).tm).cal, .string ((l).tm).cur, .slice da (l).ds.length dk, .slice ca (l).cs.length ck]), .agg #[.int .i64 a, .int .i64 b, .int .i64 c]] w fun e w' => e = .returned (.bool true) ∧ Below w.heap.size w w' := by
  have HH := Lib.hid (fun (W : World) (hW : Below w.heap.size w W) => hl.later hW)
  have HSS := Lib.hid (fun (W : World) (hW : Below w.heap.size w W) => And.intro (hS.1.of hW) (hS.2.of hW))
  have HG := Lib.hid (great_any l da ca dk ck)
  have HGL := Lib.hid (great_lenA (l := l))
  have HLV := Lib.hid (fun (W : World) (hW : Below w.heap.size w W) => live37_any W (hS.1.of hW) (hS.2.of hW))
  have cw : Below w.heap.size w ((w.alloc (.cells #[.int .i64 (l).id, .int .i64 (l).ac, .int .i64 (l).st, .int .i64 (l).pp, .int .i64 (l).pi, .int .i64 (l).fee, .int .i64 (l).pen, .int .i64 (l).chg, .int .i64 (l).prov, .int .i64 (l).loss, .int .i64 (l).rcv, .int .i64 ((l).tm).me, .int .i64 ((l).tm).pr, .int .i64 ((l).tm).ppm, .int .i64 ((l).tm).stt, .int .i64 ((l).tm).ev, .int .i64 ((l).tm).ct, .int .i64 ((l).tm).ba, .int .i64 ((l).tm).mo, .int .i64 ((l).tm).pen, .int .i64 ((l).tm).fe, .string ((l).tm).cal, .string ((l).tm).cur, .slice da (l).ds.length dk, .slice ca (l).cs.length ck] 27)).alloc (.cells #[.int .i64 a, .int .i64 b, .int .i64 c] 44)) := ((Below.refl _ _).alloc (Nat.le_refl _) _).alloc (by simp) _
  have k0 : Bk.Blk ((w.alloc (.cells #[.int .i64 (l).id, .int .i64 (l).ac, .int .i64 (l).st, .int .i64 (l).pp, .int .i64 (l).pi, .int .i64 (l).fee, .int .i64 (l).pen, .int .i64 (l).chg, .int .i64 (l).prov, .int .i64 (l).loss, .int .i64 (l).rcv, .int .i64 ((l).tm).me, .int .i64 ((l).tm).pr, .int .i64 ((l).tm).ppm, .int .i64 ((l).tm).stt, .int .i64 ((l).tm).ev, .int .i64 ((l).tm).ct, .int .i64 ((l).tm).ba, .int .i64 ((l).tm).mo, .int .i64 ((l).tm).pen, .int .i64 ((l).tm).fe, .string ((l).tm).cal, .string ((l).tm).cur, .slice da (l).ds.length dk, .slice ca (l).cs.length ck] 27)).alloc (.cells #[.int .i64 a, .int .i64 b, .int .i64 c] 44)) w.heap.size #[.int .i64 (l).id, .int .i64 (l).ac, .int .i64 (l).st, .int .i64 (l).pp, .int .i64 (l).pi, .int .i64 (l).fee, .int .i64 (l).pen, .int .i64 (l).chg, .int .i64 (l).prov, .int .i64 (l).loss, .int .i64 (l).rcv, .int .i64 ((l).tm).me, .int .i64 ((l).tm).pr, .int .i64 ((l).tm).ppm, .int .i64 ((l).tm).stt, .int .i64 ((l).tm).ev, .int .i64 ((l).tm).ct, .int .i64 ((l).tm).ba, .int .i64 ((l).tm).mo, .int .i64 ((l).tm).pen, .int .i64 ((l).tm).fe, .string ((l).tm).cal, .string ((l).tm).cur, .slice da (l).ds.length dk, .slice ca (l).cs.length ck] 27 := Bk.Blk.nw20
  have k3 : Bk.Blk ((w.alloc (.cells #[.int .i64 (l).id, .int .i64 (l).ac, .int .i64 (l).st, .int .i64 (l).pp, .int .i64 (l).pi, .int .i64 (l).fee, .int .i64 (l).pen, .int .i64 (l).chg, .int .i64 (l).prov, .int .i64 (l).loss, .int .i64 (l).rcv, .int .i64 ((l).tm).me, .int .i64 ((l).tm).pr, .int .i64 ((l).tm).ppm, .int .i64 ((l).tm).stt, .int .i64 ((l).tm).ev, .int .i64 ((l).tm).ct, .int .i64 ((l).tm).ba, .int .i64 ((l).tm).mo, .int .i64 ((l).tm).pen, .int .i64 ((l).tm).fe, .string ((l).tm).cal, .string ((l).tm).cur, .slice da (l).ds.length dk, .slice ca (l).cs.length ck] 27)).alloc (.cells #[.int .i64 a, .int .i64 b, .int .i64 c] 44)) (w.heap.size + 1) #[.int .i64 a, .int .i64 b, .int .i64 c] 44 := Bk.Blk.nw21
  clear hl _hd hS
  generalize greatB l = gb at *
  go_enter Tryd.func6, Tryd.ntmps6
  go_upto_region 1 with fail
  generalize ((w.alloc (.cells #[.int .i64 (l).id, .int .i64 (l).ac, .int .i64 (l).st, .int .i64 (l).pp, .int .i64 (l).pi, .int .i64 (l).fee, .int .i64 (l).pen, .int .i64 (l).chg, .int .i64 (l).prov, .int .i64 (l).loss, .int .i64 (l).rcv, .int .i64 ((l).tm).me, .int .i64 ((l).tm).pr, .int .i64 ((l).tm).ppm, .int .i64 ((l).tm).stt, .int .i64 ((l).tm).ev, .int .i64 ((l).tm).ct, .int .i64 ((l).tm).ba, .int .i64 ((l).tm).mo, .int .i64 ((l).tm).pen, .int .i64 ((l).tm).fe, .string ((l).tm).cal, .string ((l).tm).cur, .slice da (l).ds.length dk, .slice ca (l).cs.length ck] 27)).alloc (.cells #[.int .i64 a, .int .i64 b, .int .i64 c] 44)) = w0 at *
  have q0 : ∀ W', Reg.Cls w0 W' → W'.cell? ⟨w.heap.size + 1, 0, none⟩ = some (.int .i64 a) := fun W' hW => (k3.later hW).c0
  have q1 : ∀ W', Reg.Cls w0 W' → W'.cell? ⟨w.heap.size + 1, 1, none⟩ = some (.int .i64 b) := fun W' hW => (k3.later hW).c1
  have q2 : ∀ W', Reg.Cls w0 W' → W'.cell? ⟨w.heap.size + 1, 2, none⟩ = some (.int .i64 c) := fun W' hW => (k3.later hW).c2
  refine Reg.region_quiet (by kernel_rfl) (by kernel_rfl) ?_
  iterate 9 (first | go_big_quiet_skip | (go_big_quiet_want; (first | (go_big_quiet_op; go_big_quiet_on) | (apply Reg.quiet_run; (intro W hW; skip; go_simp; (first | done | rfl | exact ⟨rfl, rfl⟩ )); (simp only [Act.put, List.setIfInBounds_toArray, List.set_cons_zero, List.set_cons_succ]; go_big_quiet_on)) | (apply Reg.quiet_call; (intro W hW; go_simp; (first | done | rfl | exact ⟨rfl, rfl⟩)); (intro W hW; (first | fail)); (simp only [Act.put, List.setIfInBounds_toArray, List.set_cons_zero, List.set_cons_succ]; go_big_quiet_on)))))
  refine wpQuiet_nil ?_
  intro w0b hW
  replace k0 := k0.later hW
  have cw0 := bl2 hW cw
  clear hW cw q0 q1 q2 k3
  go_wp2_with (refine wpList_load_row rfl 27 _ rfl _ rfl _ _ _ _ (k0) Tryd.underlying27 rfl (by kernel_rfl) ?_)
  refine (HG.out _).mono ?_
  rintro e w1 ⟨rfl, hb⟩
  replace k0 := k0.later hb
  have cw1 := bl2 hb cw0
  clear hb cw0 HG
  cases gb
  · have hlen := HGL.out rfl
    have HN := Lib.hid (show l.ds.length ≤ 100000 ∧ l.cs.length ≤ 100000 from ⟨by omega, by omega⟩)
    clear hlen HGL
    by_cases hz1 : b < a
    · have gz1 : decide (b < a) = true := decide_eq_true hz1
      go_wp2_with fail
      go_ret
      exact ⟨rfl, cw1⟩
    · have gz1 : decide (b < a) = false := decide_eq_false hz1
      by_cases hz2 : c < b
      · have gz2 : decide (c < b) = true := decide_eq_true hz2
        go_wp2_with fail
        go_ret
        exact ⟨rfl, cw1⟩
      · have gz2 : decide (c < b) = false := decide_eq_false hz2
        by_cases hz3 : a < 0
        · have gz3 : decide (a < 0) = true := decide_eq_true hz3
          go_wp2_with fail
          go_ret
          exact ⟨rfl, cw1⟩
        · have gz3 : decide (a < 0) = false := decide_eq_false hz3
          by_cases hz4 : 73048 < c
          · have gz4 : decide (73048 < c) = true := decide_eq_true hz4
            go_wp2_with fail
            go_ret
            exact ⟨rfl, cw1⟩
          · have gz4 : decide (73048 < c) = false := decide_eq_false hz4
            have hw0 : IntKind.i64.wrap (c - a) = c - a := by rw [IntKind.wrap_i64]; omega
            by_cases hz5 : 300 < c - a
            · have gz5 : decide (300 < c - a) = true := decide_eq_true hz5
              go_wp2_with fail
              go_ret
              exact ⟨rfl, cw1⟩
            · have gz5 : decide (300 < c - a) = false := decide_eq_false hz5
              have hj := pen_join (l := l) (show 0 ≤ a by omega) (show a ≤ b by omega) (show b ≤ c by omega) (show c ≤ 73048 by omega) (show c - a ≤ 300 by omega)
              have HP1 := Lib.hid (fun (W : World) (hW : Below w.heap.size w W) => pen_at (l := l) (a := a) (b := b) rfl hj.1 da ca dk ck W (dues_of_row (by have := HN.out.1; omega) (HH.out W hW).d))
              have HP2 := Lib.hid (fun (W : World) (hW : Below w.heap.size w W) => pen_at (l := l) (a := b) (b := c) rfl hj.2.1 da ca dk ck W (dues_of_row (by have := HN.out.1; omega) (HH.out W hW).d))
              have HP3 := Lib.hid (fun (W : World) (hW : Below w.heap.size w W) => pen_at (l := l) (a := a) (b := c) rfl rfl da ca dk ck W (dues_of_row (by have := HN.out.1; omega) (HH.out W hW).d))
              have HAD := Lib.hid (fun (W : World) => radd_at (penV_128 l a b) (penV_128 l b c) hj.2.2.1 (penV_128 l a c) W)
              have hpos := hi_pos hj.2.2.2
              have HLC := Lib.hid (fun (W : World) (hW : Below w.heap.size w W) => charge_any (l.chgd a) da ca dk ck c W ⟨(HH.out W hW).d, (HH.out W hW).c⟩ HN.out.1 HN.out.2 (HSS.out W hW).1)
              have HLB := Lib.hid (fun (h : chgE (l.chgd a) c = 0) => chg_again h)
              have HAL := Lib.hid (show (chgL (l.chgd a) c).ds.length ≤ 100000 ∧ (chgL (l.chgd a) c).cs.length ≤ 100000 from chgL_len HN.out)
              clear hj
              generalize penV l a b = v1 at *
              generalize penV l b c = v2 at *
              generalize penV l a c = v at *
              generalize penE l a c = pe at *
              have e1 : (pe != pe) = false := bne_self_eq_false' pe
              have e2 : (hi v == hi v) = true := beq_self_eq_true _
              have e3 : (lo v == lo v) = true := beq_self_eq_true _
              have e4 : decide (hi v < 0) = false := decide_eq_false (by omega)
              go_wp2_with (refine wpList_load_row rfl 27 _ rfl _ rfl _ _ _ _ (k0) Tryd.underlying27 rfl (by kernel_rfl) ?_)
              refine (HP1.out _ cw1).mono ?_
              rintro e w2 ⟨rfl, hb⟩
              replace k0 := k0.later hb
              have cw2 := bl2 hb cw1
              clear hb cw1
              go_upto_region 5 with fail
              have hal : Below w2.heap.size w2 (w2.alloc (.cells #[.int .i64 (hi v1), .int .u64 (lo v1)] 36)) := (Below.refl _ _).alloc (Nat.le_refl _) _
              replace k0 := k0.later hal
              have k8 := Bk.Blk.nw10 (W := w2) (cs := #[.int .i64 (hi v1), .int .u64 (lo v1)]) (t := 36)
              have cw3 := bl2 hal cw2
              clear hal cw2
              generalize (w2.alloc (.cells #[.int .i64 (hi v1), .int .u64 (lo v1)] 36)) = w3 at *
              generalize w2.heap.size = g8 at *
              go_wp2_with (refine wpList_load_row rfl 27 _ rfl _ rfl _ _ _ _ (k0) Tryd.underlying27 rfl (by kernel_rfl) ?_)
              refine (HP2.out _ cw3).mono ?_
              rintro e w4 ⟨rfl, hb⟩
              replace k0 := k0.later hb
              replace k8 := k8.later hb
              have cw4 := bl2 hb cw3
              clear hb cw3
              go_upto_region 6 with fail
              have hal : Below w4.heap.size w4 (w4.alloc (.cells #[.int .i64 (hi v2), .int .u64 (lo v2)] 36)) := (Below.refl _ _).alloc (Nat.le_refl _) _
              replace k0 := k0.later hal
              replace k8 := k8.later hal
              have k10 := Bk.Blk.nw10 (W := w4) (cs := #[.int .i64 (hi v2), .int .u64 (lo v2)]) (t := 36)
              have cw5 := bl2 hal cw4
              clear hal cw4
              generalize (w4.alloc (.cells #[.int .i64 (hi v2), .int .u64 (lo v2)] 36)) = w5 at *
              generalize w4.heap.size = g10 at *
              go_wp2_with (refine wpList_load_row rfl 27 _ rfl _ rfl _ _ _ _ (k0) Tryd.underlying27 rfl (by kernel_rfl) ?_)
              refine (HP3.out _ cw5).mono ?_
              rintro e w6 ⟨rfl, hb⟩
              replace k0 := k0.later hb
              replace k8 := k8.later hb
              replace k10 := k10.later hb
              have cw6 := bl2 hb cw5
              clear hb cw5
              go_upto_region 7 with fail
              have hal : Below w6.heap.size w6 (w6.alloc (.cells #[.int .i64 (hi v), .int .u64 (lo v)] 36)) := (Below.refl _ _).alloc (Nat.le_refl _) _
              replace k0 := k0.later hal
              replace k8 := k8.later hal
              replace k10 := k10.later hal
              have k12 := Bk.Blk.nw10 (W := w6) (cs := #[.int .i64 (hi v), .int .u64 (lo v)]) (t := 36)
              have cw7 := bl2 hal cw6
              clear hal cw6
              generalize (w6.alloc (.cells #[.int .i64 (hi v), .int .u64 (lo v)] 36)) = w7 at *
              generalize w6.heap.size = g12 at *
              have l80 := k8.c0
              have l81 := k8.c1
              have l100 := k10.c0
              have l101 := k10.c1
              go_wp2_with fail
              clear l80 l81 l100 l101
              refine (HAD.out _).mono ?_
              rintro e w8 ⟨rfl, hb⟩
              replace k0 := k0.later hb
              replace k8 := k8.later hb
              replace k10 := k10.later hb
              replace k12 := k12.later hb
              have cw8 := bl2 hb cw7
              clear hb cw7
              go_upto_region 8 with fail
              have hal : Below w8.heap.size w8 (w8.alloc (.cells #[.int .i64 (hi v), .int .u64 (lo v)] 36)) := (Below.refl _ _).alloc (Nat.le_refl _) _
              replace k0 := k0.later hal
              replace k8 := k8.later hal
              replace k10 := k10.later hal
              replace k12 := k12.later hal
              have k14 := Bk.Blk.nw10 (W := w8) (cs := #[.int .i64 (hi v), .int .u64 (lo v)]) (t := 36)
              have cw9 := bl2 hal cw8
              clear hal cw8
              generalize (w8.alloc (.cells #[.int .i64 (hi v), .int .u64 (lo v)] 36)) = w9 at *
              generalize w8.heap.size = g14 at *
              have l120 := k12.c0
              have l121 := k12.c1
              have l140 := k14.c0
              have l141 := k14.c1
              have l07 := k0.c7
              have f07 := k0.f7
              clear HP1 HP2 HP3 HAD
              generalize hi v = vh at *
              generalize lo v = vl at *
              cases he0 : (pe == 0)
              · go_upto_region 11 with fail
                have cw10 : Below w.heap.size w (w9.setCell ⟨w.heap.size, 7, none⟩ (.int .i64 a)) := cw9.setCell (Nat.le_refl _) _
                have k0x : Bk.Blk (w9.setCell ⟨w.heap.size, 7, none⟩ (.int .i64 a)) w.heap.size #[.int .i64 (l.chgd a).id, .int .i64 (l.chgd a).ac, .int .i64 (l.chgd a).st, .int .i64 (l.chgd a).pp, .int .i64 (l.chgd a).pi, .int .i64 (l.chgd a).fee, .int .i64 (l.chgd a).pen, .int .i64 (l.chgd a).chg, .int .i64 (l.chgd a).prov, .int .i64 (l.chgd a).loss, .int .i64 (l.chgd a).rcv, .int .i64 ((l.chgd a).tm).me, .int .i64 ((l.chgd a).tm).pr, .int .i64 ((l.chgd a).tm).ppm, .int .i64 ((l.chgd a).tm).stt, .int .i64 ((l.chgd a).tm).ev, .int .i64 ((l.chgd a).tm).ct, .int .i64 ((l.chgd a).tm).ba, .int .i64 ((l.chgd a).tm).mo, .int .i64 ((l.chgd a).tm).pen, .int .i64 ((l.chgd a).tm).fe, .string ((l.chgd a).tm).cal, .string ((l.chgd a).tm).cur, .slice da (l.chgd a).ds.length dk, .slice ca (l.chgd a).cs.length ck] 27 := (k0.set_same (i := 7) (u := .int .i64 a)).conv rfl
                clear k0 k8 k10 k12 k14 l120 l121 l140 l141 l07 f07 cw9
                generalize (w9.setCell ⟨w.heap.size, 7, none⟩ (.int .i64 a)) = w10 at *
                go_wp2_with (refine wpList_load_row rfl 27 _ rfl _ rfl _ _ _ _ (k0x) Tryd.underlying27 rfl (by kernel_rfl) ?_)
                refine (HLC.out _ cw10).mono ?_
                rintro e w11 ⟨da1, dk1, ca1, ck1, rfl, hl1, hb⟩
                replace k0x := k0x.later hb
                have cw11 := bl2 hb cw10
                clear hb cw10
                obtain ⟨A, hA⟩ : ∃ A, A = chgL (l.chgd a) c := ⟨_, rfl⟩
                obtain ⟨n, hn⟩ : ∃ n, n = chgN (l.chgd a) c := ⟨_, rfl⟩
                rw [← hA, ← hn] at HLB
                rw [← hA] at HAL hl1
                rw [← hA, ← hn]
                clear hA hn
                generalize chgE (l.chgd a) c = ce at *
                go_upto_region 12 with (refine wpList_store_row rfl 27 _ _ rfl _ _ rfl rfl _ _ Bk.Blk.nw10 (by kernel_rfl) rfl (one25 ..) ?_)
                have hbs : Below w11.heap.size w11 ((w11.alloc (.cells #[.int .i64 0, .int .i64 0, .int .i64 0, .int .i64 0, .int .i64 0, .int .i64 0, .int .i64 0, .int .i64 0, .int .i64 0, .int .i64 0, .int .i64 0, .int .i64 0, .int .i64 0, .int .i64 0, .int .i64 0, .int .i64 0, .int .i64 0, .int .i64 0, .int .i64 0, .int .i64 0, .int .i64 0, .string { data := #[] }, .string { data := #[] }, .slice none 0 0, .slice none 0 0] 27)).setRow w11.heap.size #[.int .i64 (A).id, .int .i64 (A).ac, .int .i64 (A).st, .int .i64 (A).pp, .int .i64 (A).pi, .int .i64 (A).fee, .int .i64 (A).pen, .int .i64 (A).chg, .int .i64 (A).prov, .int .i64 (A).loss, .int .i64 (A).rcv, .int .i64 ((A).tm).me, .int .i64 ((A).tm).pr, .int .i64 ((A).tm).ppm, .int .i64 ((A).tm).stt, .int .i64 ((A).tm).ev, .int .i64 ((A).tm).ct, .int .i64 ((A).tm).ba, .int .i64 ((A).tm).mo, .int .i64 ((A).tm).pen, .int .i64 ((A).tm).fe, .string ((A).tm).cal, .string ((A).tm).cur, .slice da1 (A).ds.length dk1, .slice ca1 (A).cs.length ck1]) := Below_setRow ((Below.refl _ _).alloc (Nat.le_refl _) _) (Nat.le_refl _) _
                have k1 : Bk.Blk ((w11.alloc (.cells #[.int .i64 0, .int .i64 0, .int .i64 0, .int .i64 0, .int .i64 0, .int .i64 0, .int .i64 0, .int .i64 0, .int .i64 0, .int .i64 0, .int .i64 0, .int .i64 0, .int .i64 0, .int .i64 0, .int .i64 0, .int .i64 0, .int .i64 0, .int .i64 0, .int .i64 0, .int .i64 0, .int .i64 0, .string { data := #[] }, .string { data := #[] }, .slice none 0 0, .slice none 0 0] 27)).setRow w11.heap.size #[.int .i64 (A).id, .int .i64 (A).ac, .int .i64 (A).st, .int .i64 (A).pp, .int .i64 (A).pi, .int .i64 (A).fee, .int .i64 (A).pen, .int .i64 (A).chg, .int .i64 (A).prov, .int .i64 (A).loss, .int .i64 (A).rcv, .int .i64 ((A).tm).me, .int .i64 ((A).tm).pr, .int .i64 ((A).tm).ppm, .int .i64 ((A).tm).stt, .int .i64 ((A).tm).ev, .int .i64 ((A).tm).ct, .int .i64 ((A).tm).ba, .int .i64 ((A).tm).mo, .int .i64 ((A).tm).pen, .int .i64 ((A).tm).fe, .string ((A).tm).cal, .string ((A).tm).cur, .slice da1 (A).ds.length dk1, .slice ca1 (A).cs.length ck1]) w11.heap.size #[.int .i64 (A).id, .int .i64 (A).ac, .int .i64 (A).st, .int .i64 (A).pp, .int .i64 (A).pi, .int .i64 (A).fee, .int .i64 (A).pen, .int .i64 (A).chg, .int .i64 (A).prov, .int .i64 (A).loss, .int .i64 (A).rcv, .int .i64 ((A).tm).me, .int .i64 ((A).tm).pr, .int .i64 ((A).tm).ppm, .int .i64 ((A).tm).stt, .int .i64 ((A).tm).ev, .int .i64 ((A).tm).ct, .int .i64 ((A).tm).ba, .int .i64 ((A).tm).mo, .int .i64 ((A).tm).pen, .int .i64 ((A).tm).fe, .string ((A).tm).cal, .string ((A).tm).cur, .slice da1 (A).ds.length dk1, .slice ca1 (A).cs.length ck1] 27 := Blk_setRow_same Bk.Blk.nw10
                replace k0x := k0x.later hbs
                replace hl1 := hl1.later hbs
                have cw12 := bl2 hbs cw11
                clear cw11 hbs
                generalize ((w11.alloc (.cells #[.int .i64 0, .int .i64 0, .int .i64 0, .int .i64 0, .int .i64 0, .int .i64 0, .int .i64 0, .int .i64 0, .int .i64 0, .int .i64 0, .int .i64 0, .int .i64 0, .int .i64 0, .int .i64 0, .int .i64 0, .int .i64 0, .int .i64 0, .int .i64 0, .int .i64 0, .int .i64 0, .int .i64 0, .string { data := #[] }, .string { data := #[] }, .slice none 0 0, .slice none 0 0] 27)).setRow w11.heap.size #[.int .i64 (A).id, .int .i64 (A).ac, .int .i64 (A).st, .int .i64 (A).pp, .int .i64 (A).pi, .int .i64 (A).fee, .int .i64 (A).pen, .int .i64 (A).chg, .int .i64 (A).prov, .int .i64 (A).loss, .int .i64 (A).rcv, .int .i64 ((A).tm).me, .int .i64 ((A).tm).pr, .int .i64 ((A).tm).ppm, .int .i64 ((A).tm).stt, .int .i64 ((A).tm).ev, .int .i64 ((A).tm).ct, .int .i64 ((A).tm).ba, .int .i64 ((A).tm).mo, .int .i64 ((A).tm).pen, .int .i64 ((A).tm).fe, .string ((A).tm).cal, .string ((A).tm).cur, .slice da1 (A).ds.length dk1, .slice ca1 (A).cs.length ck1]) = w12 at *
                generalize w11.heap.size = g1 at *
                by_cases hce : ce = 0
                · have g1 : (ce != 0) = false := by rw [hce]; rfl
                  obtain ⟨hok, hn0, hAe, hcE, hcN, hcL⟩ := HLB.out hce
                  have HC2 := Lib.hid (fun (W : World) (hl : LoInA W A da1 ca1) (hS : Rd.Stp W) => charge_at ⟨hcL, hcN, hcE⟩ da1 ca1 dk1 ck1 W hl HAL.out.1 HAL.out.2 hS)
                  have HCH := Lib.hid (fun (W : World) (hl : LoInA W A da1 ca1) => check_atA (ok_iff.2 hok) da1 ca1 dk1 ck1 W hl HAL.out.1)
                  have hpen : A.pen = l.pen + n := by rw [hAe]; rfl
                  have hap := amt_iff.1 hok.pen
                  have hw : IntKind.i64.wrap (l.pen + n) = l.pen + n := by rw [IntKind.wrap_i64]; omega
                  have g2 : decide (0 ≤ n) = true := decide_eq_true hn0
                  have g3 : (A.pen == l.pen + n) = true := by rw [hpen]; exact beq_self_eq_true _
                  clear hce hok hn0 hAe hcE hcN hcL hpen hap HLB HLC
                  go_wp2_with (refine wpList_load_row rfl 27 _ rfl _ rfl _ _ _ _ (k1) Tryd.underlying27 rfl (by kernel_rfl) ?_)
                  refine (HC2.out _ hl1 (HSS.out _ cw12).1).mono ?_
                  rintro e w13 ⟨da2, dk2, ca2, ck2, rfl, hl2, hb⟩
                  replace k0x := k0x.later hb
                  replace hl1 := hl1.later hb
                  replace k1 := k1.later hb
                  have cw13 := bl2 hb cw12
                  clear hb cw12
                  go_upto_region 15 with (refine wpList_store_row rfl 27 _ _ rfl _ _ rfl rfl _ _ Bk.Blk.nw10 (by kernel_rfl) rfl (one25 ..) ?_)
                  have hbs : Below w13.heap.size w13 ((w13.alloc (.cells #[.int .i64 0, .int .i64 0, .int .i64 0, .int .i64 0, .int .i64 0, .int .i64 0, .int .i64 0, .int .i64 0, .int .i64 0, .int .i64 0, .int .i64 0, .int .i64 0, .int .i64 0, .int .i64 0, .int .i64 0, .int .i64 0, .int .i64 0, .int .i64 0, .int .i64 0, .int .i64 0, .int .i64 0, .string { data := #[] }, .string { data := #[] }, .slice none 0 0, .slice none 0 0] 27)).setRow w13.heap.size #[.int .i64 (A).id, .int .i64 (A).ac, .int .i64 (A).st, .int .i64 (A).pp, .int .i64 (A).pi, .int .i64 (A).fee, .int .i64 (A).pen, .int .i64 (A).chg, .int .i64 (A).prov, .int .i64 (A).loss, .int .i64 (A).rcv, .int .i64 ((A).tm).me, .int .i64 ((A).tm).pr, .int .i64 ((A).tm).ppm, .int .i64 ((A).tm).stt, .int .i64 ((A).tm).ev, .int .i64 ((A).tm).ct, .int .i64 ((A).tm).ba, .int .i64 ((A).tm).mo, .int .i64 ((A).tm).pen, .int .i64 ((A).tm).fe, .string ((A).tm).cal, .string ((A).tm).cur, .slice da2 (A).ds.length dk2, .slice ca2 (A).cs.length ck2]) := Below_setRow ((Below.refl _ _).alloc (Nat.le_refl _) _) (Nat.le_refl _) _
                  have k2 : Bk.Blk ((w13.alloc (.cells #[.int .i64 0, .int .i64 0, .int .i64 0, .int .i64 0, .int .i64 0, .int .i64 0, .int .i64 0, .int .i64 0, .int .i64 0, .int .i64 0, .int .i64 0, .int .i64 0, .int .i64 0, .int .i64 0, .int .i64 0, .int .i64 0, .int .i64 0, .int .i64 0, .int .i64 0, .int .i64 0, .int .i64 0, .string { data := #[] }, .string { data := #[] }, .slice none 0 0, .slice none 0 0] 27)).setRow w13.heap.size #[.int .i64 (A).id, .int .i64 (A).ac, .int .i64 (A).st, .int .i64 (A).pp, .int .i64 (A).pi, .int .i64 (A).fee, .int .i64 (A).pen, .int .i64 (A).chg, .int .i64 (A).prov, .int .i64 (A).loss, .int .i64 (A).rcv, .int .i64 ((A).tm).me, .int .i64 ((A).tm).pr, .int .i64 ((A).tm).ppm, .int .i64 ((A).tm).stt, .int .i64 ((A).tm).ev, .int .i64 ((A).tm).ct, .int .i64 ((A).tm).ba, .int .i64 ((A).tm).mo, .int .i64 ((A).tm).pen, .int .i64 ((A).tm).fe, .string ((A).tm).cal, .string ((A).tm).cur, .slice da2 (A).ds.length dk2, .slice ca2 (A).cs.length ck2]) w13.heap.size #[.int .i64 (A).id, .int .i64 (A).ac, .int .i64 (A).st, .int .i64 (A).pp, .int .i64 (A).pi, .int .i64 (A).fee, .int .i64 (A).pen, .int .i64 (A).chg, .int .i64 (A).prov, .int .i64 (A).loss, .int .i64 (A).rcv, .int .i64 ((A).tm).me, .int .i64 ((A).tm).pr, .int .i64 ((A).tm).ppm, .int .i64 ((A).tm).stt, .int .i64 ((A).tm).ev, .int .i64 ((A).tm).ct, .int .i64 ((A).tm).ba, .int .i64 ((A).tm).mo, .int .i64 ((A).tm).pen, .int .i64 ((A).tm).fe, .string ((A).tm).cal, .string ((A).tm).cur, .slice da2 (A).ds.length dk2, .slice ca2 (A).cs.length ck2] 27 := Blk_setRow_same Bk.Blk.nw10
                  replace k0x := k0x.later hbs
                  replace hl1 := hl1.later hbs
                  replace k1 := k1.later hbs
                  replace hl2 := hl2.later hbs
                  have cw14 := bl2 hbs cw13
                  clear cw13 hbs
                  generalize ((w13.alloc (.cells #[.int .i64 0, .int .i64 0, .int .i64 0, .int .i64 0, .int .i64 0, .int .i64 0, .int .i64 0, .int .i64 0, .int .i64 0, .int .i64 0, .int .i64 0, .int .i64 0, .int .i64 0, .int .i64 0, .int .i64 0, .int .i64 0, .int .i64 0, .int .i64 0, .int .i64 0, .int .i64 0, .int .i64 0, .string { data := #[] }, .string { data := #[] }, .slice none 0 0, .slice none 0 0] 27)).setRow w13.heap.size #[.int .i64 (A).id, .int .i64 (A).ac, .int .i64 (A).st, .int .i64 (A).pp, .int .i64 (A).pi, .int .i64 (A).fee, .int .i64 (A).pen, .int .i64 (A).chg, .int .i64 (A).prov, .int .i64 (A).loss, .int .i64 (A).rcv, .int .i64 ((A).tm).me, .int .i64 ((A).tm).pr, .int .i64 ((A).tm).ppm, .int .i64 ((A).tm).stt, .int .i64 ((A).tm).ev, .int .i64 ((A).tm).ct, .int .i64 ((A).tm).ba, .int .i64 ((A).tm).mo, .int .i64 ((A).tm).pen, .int .i64 ((A).tm).fe, .string ((A).tm).cal, .string ((A).tm).cur, .slice da2 (A).ds.length dk2, .slice ca2 (A).cs.length ck2]) = w14 at *
                  generalize w13.heap.size = g2 at *
                  go_wp2_with (refine wpList_load_row rfl 27 _ rfl _ rfl _ _ _ _ (k1) Tryd.underlying27 rfl (by kernel_rfl) ?_)
                  refine (HCH.out _ hl1).mono ?_
                  rintro e w15 ⟨rfl, hb⟩
                  replace k0x := k0x.later hb
                  replace hl1 := hl1.later hb
                  replace k1 := k1.later hb
                  replace hl2 := hl2.later hb
                  replace k2 := k2.later hb
                  have cw15 := bl2 hb cw14
                  clear hb cw14
                  have l16 := k1.c6
                  have l06 : w15.cell? ⟨w.heap.size, 6, none⟩ = some (.int .i64 l.pen) := k0x.c6
                  go_wp2_with (first | (refine load_guarded 27 _ rfl rfl _ rfl _ _ _ _ (k1) Tryd.underlying27 rfl (by kernel_rfl) ?_) | (refine load_guarded 27 _ rfl rfl _ rfl _ _ _ _ (k2) Tryd.underlying27 rfl (by kernel_rfl) ?_))
                  clear l16 l06
                  refine (same_any A da1 ca1 da2 ca2 dk1 ck1 dk2 ck2 _ hl1.d hl2.d hl1.c hl2.c HAL.out.1 HAL.out.2).mono ?_
                  rintro e w16 ⟨rfl, hb⟩
                  replace k0x := k0x.later hb
                  replace hl1 := hl1.later hb
                  replace k1 := k1.later hb
                  replace hl2 := hl2.later hb
                  replace k2 := k2.later hb
                  have cw16 := bl2 hb cw15
                  clear hb cw15
                  go_wp2_with fail
                  refine (HLV.out _ cw16).mono ?_
                  rintro e w17 ⟨rfl, hb⟩
                  replace k0x := k0x.later hb
                  replace hl1 := hl1.later hb
                  replace k1 := k1.later hb
                  replace hl2 := hl2.later hb
                  replace k2 := k2.later hb
                  have cw17 := bl2 hb cw16
                  clear hb cw16
                  go_wp2_with fail
                  go_ret
                  exact ⟨rfl, cw17⟩
                · have g1 : (ce != 0) = true := bne_iff_ne.2 hce
                  clear hce
                  go_wp2_with fail
                  refine (HLV.out _ cw12).mono ?_
                  rintro e wy ⟨rfl, hb⟩
                  have cwy := bl2 hb cw12
                  go_wp2_with fail
                  go_ret
                  exact ⟨rfl, cwy⟩
              · go_upto_region 11 with fail
                have cw10 : Below w.heap.size w (w9.setCell ⟨w.heap.size, 7, none⟩ (.int .i64 a)) := cw9.setCell (Nat.le_refl _) _
                have k0x : Bk.Blk (w9.setCell ⟨w.heap.size, 7, none⟩ (.int .i64 a)) w.heap.size #[.int .i64 (l.chgd a).id, .int .i64 (l.chgd a).ac, .int .i64 (l.chgd a).st, .int .i64 (l.chgd a).pp, .int .i64 (l.chgd a).pi, .int .i64 (l.chgd a).fee, .int .i64 (l.chgd a).pen, .int .i64 (l.chgd a).chg, .int .i64 (l.chgd a).prov, .int .i64 (l.chgd a).loss, .int .i64 (l.chgd a).rcv, .int .i64 ((l.chgd a).tm).me, .int .i64 ((l.chgd a).tm).pr, .int .i64 ((l.chgd a).tm).ppm, .int .i64 ((l.chgd a).tm).stt, .int .i64 ((l.chgd a).tm).ev, .int .i64 ((l.chgd a).tm).ct, .int .i64 ((l.chgd a).tm).ba, .int .i64 ((l.chgd a).tm).mo, .int .i64 ((l.chgd a).tm).pen, .int .i64 ((l.chgd a).tm).fe, .string ((l.chgd a).tm).cal, .string ((l.chgd a).tm).cur, .slice da (l.chgd a).ds.length dk, .slice ca (l.chgd a).cs.length ck] 27 := (k0.set_same (i := 7) (u := .int .i64 a)).conv rfl
                clear k0 k8 k10 k12 k14 l120 l121 l140 l141 l07 f07 cw9
                generalize (w9.setCell ⟨w.heap.size, 7, none⟩ (.int .i64 a)) = w10 at *
                go_wp2_with (refine wpList_load_row rfl 27 _ rfl _ rfl _ _ _ _ (k0x) Tryd.underlying27 rfl (by kernel_rfl) ?_)
                refine (HLC.out _ cw10).mono ?_
                rintro e w11 ⟨da1, dk1, ca1, ck1, rfl, hl1, hb⟩
                replace k0x := k0x.later hb
                have cw11 := bl2 hb cw10
                clear hb cw10
                obtain ⟨A, hA⟩ : ∃ A, A = chgL (l.chgd a) c := ⟨_, rfl⟩
                obtain ⟨n, hn⟩ : ∃ n, n = chgN (l.chgd a) c := ⟨_, rfl⟩
                rw [← hA, ← hn] at HLB
                rw [← hA] at HAL hl1
                rw [← hA, ← hn]
                clear hA hn
                generalize chgE (l.chgd a) c = ce at *
                go_upto_region 12 with (refine wpList_store_row rfl 27 _ _ rfl _ _ rfl rfl _ _ Bk.Blk.nw10 (by kernel_rfl) rfl (one25 ..) ?_)
                have hbs : Below w11.heap.size w11 ((w11.alloc (.cells #[.int .i64 0, .int .i64 0, .int .i64 0, .int .i64 0, .int .i64 0, .int .i64 0, .int .i64 0, .int .i64 0, .int .i64 0, .int .i64 0, .int .i64 0, .int .i64 0, .int .i64 0, .int .i64 0, .int .i64 0, .int .i64 0, .int .i64 0, .int .i64 0, .int .i64 0, .int .i64 0, .int .i64 0, .string { data := #[] }, .string { data := #[] }, .slice none 0 0, .slice none 0 0] 27)).setRow w11.heap.size #[.int .i64 (A).id, .int .i64 (A).ac, .int .i64 (A).st, .int .i64 (A).pp, .int .i64 (A).pi, .int .i64 (A).fee, .int .i64 (A).pen, .int .i64 (A).chg, .int .i64 (A).prov, .int .i64 (A).loss, .int .i64 (A).rcv, .int .i64 ((A).tm).me, .int .i64 ((A).tm).pr, .int .i64 ((A).tm).ppm, .int .i64 ((A).tm).stt, .int .i64 ((A).tm).ev, .int .i64 ((A).tm).ct, .int .i64 ((A).tm).ba, .int .i64 ((A).tm).mo, .int .i64 ((A).tm).pen, .int .i64 ((A).tm).fe, .string ((A).tm).cal, .string ((A).tm).cur, .slice da1 (A).ds.length dk1, .slice ca1 (A).cs.length ck1]) := Below_setRow ((Below.refl _ _).alloc (Nat.le_refl _) _) (Nat.le_refl _) _
                have k1 : Bk.Blk ((w11.alloc (.cells #[.int .i64 0, .int .i64 0, .int .i64 0, .int .i64 0, .int .i64 0, .int .i64 0, .int .i64 0, .int .i64 0, .int .i64 0, .int .i64 0, .int .i64 0, .int .i64 0, .int .i64 0, .int .i64 0, .int .i64 0, .int .i64 0, .int .i64 0, .int .i64 0, .int .i64 0, .int .i64 0, .int .i64 0, .string { data := #[] }, .string { data := #[] }, .slice none 0 0, .slice none 0 0] 27)).setRow w11.heap.size #[.int .i64 (A).id, .int .i64 (A).ac, .int .i64 (A).st, .int .i64 (A).pp, .int .i64 (A).pi, .int .i64 (A).fee, .int .i64 (A).pen, .int .i64 (A).chg, .int .i64 (A).prov, .int .i64 (A).loss, .int .i64 (A).rcv, .int .i64 ((A).tm).me, .int .i64 ((A).tm).pr, .int .i64 ((A).tm).ppm, .int .i64 ((A).tm).stt, .int .i64 ((A).tm).ev, .int .i64 ((A).tm).ct, .int .i64 ((A).tm).ba, .int .i64 ((A).tm).mo, .int .i64 ((A).tm).pen, .int .i64 ((A).tm).fe, .string ((A).tm).cal, .string ((A).tm).cur, .slice da1 (A).ds.length dk1, .slice ca1 (A).cs.length ck1]) w11.heap.size #[.int .i64 (A).id, .int .i64 (A).ac, .int .i64 (A).st, .int .i64 (A).pp, .int .i64 (A).pi, .int .i64 (A).fee, .int .i64 (A).pen, .int .i64 (A).chg, .int .i64 (A).prov, .int .i64 (A).loss, .int .i64 (A).rcv, .int .i64 ((A).tm).me, .int .i64 ((A).tm).pr, .int .i64 ((A).tm).ppm, .int .i64 ((A).tm).stt, .int .i64 ((A).tm).ev, .int .i64 ((A).tm).ct, .int .i64 ((A).tm).ba, .int .i64 ((A).tm).mo, .int .i64 ((A).tm).pen, .int .i64 ((A).tm).fe, .string ((A).tm).cal, .string ((A).tm).cur, .slice da1 (A).ds.length dk1, .slice ca1 (A).cs.length ck1] 27 := Blk_setRow_same Bk.Blk.nw10
                replace k0x := k0x.later hbs
                replace hl1 := hl1.later hbs
                have cw12 := bl2 hbs cw11
                clear cw11 hbs
                generalize ((w11.alloc (.cells #[.int .i64 0, .int .i64 0, .int .i64 0, .int .i64 0, .int .i64 0, .int .i64 0, .int .i64 0, .int .i64 0, .int .i64 0, .int .i64 0, .int .i64 0, .int .i64 0, .int .i64 0, .int .i64 0, .int .i64 0, .int .i64 0, .int .i64 0, .int .i64 0, .int .i64 0, .int .i64 0, .int .i64 0, .string { data := #[] }, .string { data := #[] }, .slice none 0 0, .slice none 0 0] 27)).setRow w11.heap.size #[.int .i64 (A).id, .int .i64 (A).ac, .int .i64 (A).st, .int .i64 (A).pp, .int .i64 (A).pi, .int .i64 (A).fee, .int .i64 (A).pen, .int .i64 (A).chg, .int .i64 (A).prov, .int .i64 (A).loss, .int .i64 (A).rcv, .int .i64 ((A).tm).me, .int .i64 ((A).tm).pr, .int .i64 ((A).tm).ppm, .int .i64 ((A).tm).stt, .int .i64 ((A).tm).ev, .int .i64 ((A).tm).ct, .int .i64 ((A).tm).ba, .int .i64 ((A).tm).mo, .int .i64 ((A).tm).pen, .int .i64 ((A).tm).fe, .string ((A).tm).cal, .string ((A).tm).cur, .slice da1 (A).ds.length dk1, .slice ca1 (A).cs.length ck1]) = w12 at *
                generalize w11.heap.size = g1 at *
                by_cases hce : ce = 0
                · have g1 : (ce != 0) = false := by rw [hce]; rfl
                  obtain ⟨hok, hn0, hAe, hcE, hcN, hcL⟩ := HLB.out hce
                  have HC2 := Lib.hid (fun (W : World) (hl : LoInA W A da1 ca1) (hS : Rd.Stp W) => charge_at ⟨hcL, hcN, hcE⟩ da1 ca1 dk1 ck1 W hl HAL.out.1 HAL.out.2 hS)
                  have HCH := Lib.hid (fun (W : World) (hl : LoInA W A da1 ca1) => check_atA (ok_iff.2 hok) da1 ca1 dk1 ck1 W hl HAL.out.1)
                  have hpen : A.pen = l.pen + n := by rw [hAe]; rfl
                  have hap := amt_iff.1 hok.pen
                  have hw : IntKind.i64.wrap (l.pen + n) = l.pen + n := by rw [IntKind.wrap_i64]; omega
                  have g2 : decide (0 ≤ n) = true := decide_eq_true hn0
                  have g3 : (A.pen == l.pen + n) = true := by rw [hpen]; exact beq_self_eq_true _
                  clear hce hok hn0 hAe hcE hcN hcL hpen hap HLB HLC
                  go_wp2_with (refine wpList_load_row rfl 27 _ rfl _ rfl _ _ _ _ (k1) Tryd.underlying27 rfl (by kernel_rfl) ?_)
                  refine (HC2.out _ hl1 (HSS.out _ cw12).1).mono ?_
                  rintro e w13 ⟨da2, dk2, ca2, ck2, rfl, hl2, hb⟩
                  replace k0x := k0x.later hb
                  replace hl1 := hl1.later hb
                  replace k1 := k1.later hb
                  have cw13 := bl2 hb cw12
                  clear hb cw12
                  go_upto_region 15 with (refine wpList_store_row rfl 27 _ _ rfl _ _ rfl rfl _ _ Bk.Blk.nw10 (by kernel_rfl) rfl (one25 ..) ?_)
                  have hbs : Below w13.heap.size w13 ((w13.alloc (.cells #[.int .i64 0, .int .i64 0, .int .i64 0, .int .i64 0, .int .i64 0, .int .i64 0, .int .i64 0, .int .i64 0, .int .i64 0, .int .i64 0, .int .i64 0, .int .i64 0, .int .i64 0, .int .i64 0, .int .i64 0, .int .i64 0, .int .i64 0, .int .i64 0, .int .i64 0, .int .i64 0, .int .i64 0, .string { data := #[] }, .string { data := #[] }, .slice none 0 0, .slice none 0 0] 27)).setRow w13.heap.size #[.int .i64 (A).id, .int .i64 (A).ac, .int .i64 (A).st, .int .i64 (A).pp, .int .i64 (A).pi, .int .i64 (A).fee, .int .i64 (A).pen, .int .i64 (A).chg, .int .i64 (A).prov, .int .i64 (A).loss, .int .i64 (A).rcv, .int .i64 ((A).tm).me, .int .i64 ((A).tm).pr, .int .i64 ((A).tm).ppm, .int .i64 ((A).tm).stt, .int .i64 ((A).tm).ev, .int .i64 ((A).tm).ct, .int .i64 ((A).tm).ba, .int .i64 ((A).tm).mo, .int .i64 ((A).tm).pen, .int .i64 ((A).tm).fe, .string ((A).tm).cal, .string ((A).tm).cur, .slice da2 (A).ds.length dk2, .slice ca2 (A).cs.length ck2]) := Below_setRow ((Below.refl _ _).alloc (Nat.le_refl _) _) (Nat.le_refl _) _
                  have k2 : Bk.Blk ((w13.alloc (.cells #[.int .i64 0, .int .i64 0, .int .i64 0, .int .i64 0, .int .i64 0, .int .i64 0, .int .i64 0, .int .i64 0, .int .i64 0, .int .i64 0, .int .i64 0, .int .i64 0, .int .i64 0, .int .i64 0, .int .i64 0, .int .i64 0, .int .i64 0, .int .i64 0, .int .i64 0, .int .i64 0, .int .i64 0, .string { data := #[] }, .string { data := #[] }, .slice none 0 0, .slice none 0 0] 27)).setRow w13.heap.size #[.int .i64 (A).id, .int .i64 (A).ac, .int .i64 (A).st, .int .i64 (A).pp, .int .i64 (A).pi, .int .i64 (A).fee, .int .i64 (A).pen, .int .i64 (A).chg, .int .i64 (A).prov, .int .i64 (A).loss, .int .i64 (A).rcv, .int .i64 ((A).tm).me, .int .i64 ((A).tm).pr, .int .i64 ((A).tm).ppm, .int .i64 ((A).tm).stt, .int .i64 ((A).tm).ev, .int .i64 ((A).tm).ct, .int .i64 ((A).tm).ba, .int .i64 ((A).tm).mo, .int .i64 ((A).tm).pen, .int .i64 ((A).tm).fe, .string ((A).tm).cal, .string ((A).tm).cur, .slice da2 (A).ds.length dk2, .slice ca2 (A).cs.length ck2]) w13.heap.size #[.int .i64 (A).id, .int .i64 (A).ac, .int .i64 (A).st, .int .i64 (A).pp, .int .i64 (A).pi, .int .i64 (A).fee, .int .i64 (A).pen, .int .i64 (A).chg, .int .i64 (A).prov, .int .i64 (A).loss, .int .i64 (A).rcv, .int .i64 ((A).tm).me, .int .i64 ((A).tm).pr, .int .i64 ((A).tm).ppm, .int .i64 ((A).tm).stt, .int .i64 ((A).tm).ev, .int .i64 ((A).tm).ct, .int .i64 ((A).tm).ba, .int .i64 ((A).tm).mo, .int .i64 ((A).tm).pen, .int .i64 ((A).tm).fe, .string ((A).tm).cal, .string ((A).tm).cur, .slice da2 (A).ds.length dk2, .slice ca2 (A).cs.length ck2] 27 := Blk_setRow_same Bk.Blk.nw10
                  replace k0x := k0x.later hbs
                  replace hl1 := hl1.later hbs
                  replace k1 := k1.later hbs
                  replace hl2 := hl2.later hbs
                  have cw14 := bl2 hbs cw13
                  clear cw13 hbs
                  generalize ((w13.alloc (.cells #[.int .i64 0, .int .i64 0, .int .i64 0, .int .i64 0, .int .i64 0, .int .i64 0, .int .i64 0, .int .i64 0, .int .i64 0, .int .i64 0, .int .i64 0, .int .i64 0, .int .i64 0, .int .i64 0, .int .i64 0, .int .i64 0, .int .i64 0, .int .i64 0, .int .i64 0, .int .i64 0, .int .i64 0, .string { data := #[] }, .string { data := #[] }, .slice none 0 0, .slice none 0 0] 27)).setRow w13.heap.size #[.int .i64 (A).id, .int .i64 (A).ac, .int .i64 (A).st, .int .i64 (A).pp, .int .i64 (A).pi, .int .i64 (A).fee, .int .i64 (A).pen, .int .i64 (A).chg, .int .i64 (A).prov, .int .i64 (A).loss, .int .i64 (A).rcv, .int .i64 ((A).tm).me, .int .i64 ((A).tm).pr, .int .i64 ((A).tm).ppm, .int .i64 ((A).tm).stt, .int .i64 ((A).tm).ev, .int .i64 ((A).tm).ct, .int .i64 ((A).tm).ba, .int .i64 ((A).tm).mo, .int .i64 ((A).tm).pen, .int .i64 ((A).tm).fe, .string ((A).tm).cal, .string ((A).tm).cur, .slice da2 (A).ds.length dk2, .slice ca2 (A).cs.length ck2]) = w14 at *
                  generalize w13.heap.size = g2 at *
                  go_wp2_with (refine wpList_load_row rfl 27 _ rfl _ rfl _ _ _ _ (k1) Tryd.underlying27 rfl (by kernel_rfl) ?_)
                  refine (HCH.out _ hl1).mono ?_
                  rintro e w15 ⟨rfl, hb⟩
                  replace k0x := k0x.later hb
                  replace hl1 := hl1.later hb
                  replace k1 := k1.later hb
                  replace hl2 := hl2.later hb
                  replace k2 := k2.later hb
                  have cw15 := bl2 hb cw14
                  clear hb cw14
                  have l16 := k1.c6
                  have l06 : w15.cell? ⟨w.heap.size, 6, none⟩ = some (.int .i64 l.pen) := k0x.c6
                  go_wp2_with (first | (refine load_guarded 27 _ rfl rfl _ rfl _ _ _ _ (k1) Tryd.underlying27 rfl (by kernel_rfl) ?_) | (refine load_guarded 27 _ rfl rfl _ rfl _ _ _ _ (k2) Tryd.underlying27 rfl (by kernel_rfl) ?_))
                  clear l16 l06
                  refine (same_any A da1 ca1 da2 ca2 dk1 ck1 dk2 ck2 _ hl1.d hl2.d hl1.c hl2.c HAL.out.1 HAL.out.2).mono ?_
                  rintro e w16 ⟨rfl, hb⟩
                  replace k0x := k0x.later hb
                  replace hl1 := hl1.later hb
                  replace k1 := k1.later hb
                  replace hl2 := hl2.later hb
                  replace k2 := k2.later hb
                  have cw16 := bl2 hb cw15
                  clear hb cw15
                  go_wp2_with fail
                  refine (HLV.out _ cw16).mono ?_
                  rintro e w17 ⟨rfl, hb⟩
                  replace k0x := k0x.later hb
                  replace hl1 := hl1.later hb
                  replace k1 := k1.later hb
                  replace hl2 := hl2.later hb
                  replace k2 := k2.later hb
                  have cw17 := bl2 hb cw16
                  clear hb cw16
                  go_wp2_with fail
                  go_ret
                  exact ⟨rfl, cw17⟩
                · have g1 : (ce != 0) = true := bne_iff_ne.2 hce
                  clear hce
                  go_wp2_with fail
                  refine (HLV.out _ cw12).mono ?_
                  rintro e wy ⟨rfl, hb⟩
                  have cwy := bl2 hb cw12
                  go_wp2_with fail
                  go_ret
                  exact ⟨rfl, cwy⟩
  · go_wp2_with fail
    go_ret
    exact ⟨rfl, cw1⟩
end Go.Proofs.YtjmgahdjojdanaaDoor.Ln
