/-
  ProvisionRises: its walk.
-/
import Derived.Test.YtjicnlgndkcahaaDoorPw1
import Derived.Test.YtjicnlgndkcahaaDoorPvr
import Derived.Test.YtjicnlgndkcahaaDoorLr4
namespace Go.Proofs.YtjicnlgndkcahaaDoor.Ln
open Go.RowKit
open Go.Proofs.YtjicnlgndkcahaaDoor
set_option linter.unusedSimpArgs false

set_option maxRecDepth 100000 in
set_option maxHeartbeats 8000000 in
theorem rises_walk (l : Lo) (da ca : Option Addr) (dk ck : Nat) (on later : Int) (_ : (Lit.int .i64 on).wf = true) (_ : (Lit.int .i64 later).wf = true) (w : World) (hl : LoIn' w l da ca) (hd : Dok l.ds) (hS : Rd.Stp w ∧ Ctb w) :
    Calls Tryd.prog 7 #[(.agg #[.int .i64 (l).id, .int .i64 (l).ac, .int .i64 (l).st, .int .i64 (l).pp, .int .i64 (l).pi, .int .i64 (l).fee, .int .i64 (l).pen, .int .i64 (l).chg, .int .i64 (l).prov, .int .i64 (l).loss, .int .i64 (l).rcv, .int .i64 ((l).tm).me, .int .i64 ((l).tm).pr, .int .i64 ((l).tm).ppm, .int .i64 ((l).tm).stt, .int .i64 ((l).tm).ev, .int .i64 ((l).tm).ct, .int .i64 ((l).tm).ba, .int .i64 ((l).tm).mo, .int .i64 ((l).tm).pen, .int .i64 ((l).tm).fe, .string ((l).tm).cal, .string ((l).tm).cur, .slice da (l).ds.length dk, .slice ca (l).cs.length ck]), .int .i64 on, .int .i64 later] w fun e w' => e = .returned (.bool true) ∧ Below w.heap.size w w' := by
  have HH := Lib.hid (fun (W : World) (hW : Below w.heap.size w W) => hl.later hW)
  have HD := Lib.hid hd
  have HSS := Lib.hid (fun (W : World) (hW : Below w.heap.size w W) => And.intro (hS.1.of hW) (hS.2.of hW))
  have HG := Lib.hid (fun (W : World) (hW : Below w.heap.size w W) => great38_any l da ca dk ck W (hl.later hW).c)
  have HGL := Lib.hid (great38_len (l := l))
  have cw : Below w.heap.size w (w.alloc (.cells #[.int .i64 (l).id, .int .i64 (l).ac, .int .i64 (l).st, .int .i64 (l).pp, .int .i64 (l).pi, .int .i64 (l).fee, .int .i64 (l).pen, .int .i64 (l).chg, .int .i64 (l).prov, .int .i64 (l).loss, .int .i64 (l).rcv, .int .i64 ((l).tm).me, .int .i64 ((l).tm).pr, .int .i64 ((l).tm).ppm, .int .i64 ((l).tm).stt, .int .i64 ((l).tm).ev, .int .i64 ((l).tm).ct, .int .i64 ((l).tm).ba, .int .i64 ((l).tm).mo, .int .i64 ((l).tm).pen, .int .i64 ((l).tm).fe, .string ((l).tm).cal, .string ((l).tm).cur, .slice da (l).ds.length dk, .slice ca (l).cs.length ck] 27)) := (Below.refl _ _).alloc (Nat.le_refl _) _
  have k0 := Bk.Blk.nw10 (W := w) (cs := #[.int .i64 (l).id, .int .i64 (l).ac, .int .i64 (l).st, .int .i64 (l).pp, .int .i64 (l).pi, .int .i64 (l).fee, .int .i64 (l).pen, .int .i64 (l).chg, .int .i64 (l).prov, .int .i64 (l).loss, .int .i64 (l).rcv, .int .i64 ((l).tm).me, .int .i64 ((l).tm).pr, .int .i64 ((l).tm).ppm, .int .i64 ((l).tm).stt, .int .i64 ((l).tm).ev, .int .i64 ((l).tm).ct, .int .i64 ((l).tm).ba, .int .i64 ((l).tm).mo, .int .i64 ((l).tm).pen, .int .i64 ((l).tm).fe, .string ((l).tm).cal, .string ((l).tm).cur, .slice da (l).ds.length dk, .slice ca (l).cs.length ck]) (t := 27)
  clear hl hd hS
  generalize great38 l = gb at *
  have HLV := Lib.hid (fun (W : World) (hW : Below w.heap.size w W) => live38_any W (HSS.out W hW).2 (HSS.out W hW).1)
  go_enter Tryd.func7, Tryd.ntmps7
  go_wp2_with (refine wpList_load_row rfl 27 _ rfl _ rfl _ _ _ _ (Bk.Blk.nw10) Tryd.underlying27 rfl (by kernel_rfl) ?_)
  refine (HG.out _ cw).mono ?_
  rintro e w1 ⟨rfl, hb⟩
  replace k0 := k0.later hb
  have cw1 := bl2 hb cw
  clear hb cw HG
  cases gb
  · have hlen := HGL.out rfl
    have HN := Lib.hid (show l.ds.length ≤ 100000 ∧ l.cs.length ≤ 100000 from ⟨by omega, by omega⟩)
    have HX := Lib.hid (fun (n : Int) (W : World) (hW : Below w.heap.size w W) => expd_any l da ca dk ck n W (dues_of_row (by have := HN.out.1; omega) (HH.out W hW).d) (HSS.out W hW).2 (HSS.out W hW).1)
    have HC := Lib.hid (fun (W : World) (hW : Below w.heap.size w W) => rcheck_any l da ca dk ck W (dues_of_row (by have := HN.out.1; omega) (HH.out W hW).d) HD.out)
    have HO := Lib.hid (fun (W : World) (hW : Below w.heap.size w W) => rout_any l da ca dk ck W (dues_of_row (by have := HN.out.1; omega) (HH.out W hW).d) HD.out)
    have HCK := Lib.hid (ok_iff (l := l))
    generalize chk l = ch at *
    clear hlen
    go_wp2_with (refine load_guarded 27 _ rfl rfl _ rfl _ _ _ _ (k0) Tryd.underlying27 rfl (by kernel_rfl) ?_)
    refine (HC.out _ cw1).mono ?_
    rintro e w2 ⟨rfl, hb⟩
    replace k0 := k0.later hb
    have cw2 := bl2 hb cw1
    clear hb cw1
    by_cases hch : ch = 0
    · have q1 : (ch != 0) = false := by rw [hch]; rfl
      have HOK := Lib.hid (HCK.out.1 hch)
      clear hch HCK
      go_wp2_with (refine load_guarded 27 _ rfl rfl _ rfl _ _ _ _ (k0) Tryd.underlying27 rfl (by kernel_rfl) ?_)
      refine (HO.out _ cw2).mono ?_
      rintro e w3 ⟨rfl, hb⟩
      replace k0 := k0.later hb
      have cw3 := bl2 hb cw2
      clear hb cw2
      go_wp2_with fail
      by_cases hg : Rd.gd (wrap64 (P l.ds - l.pp))
      · have HGD := Lib.hid hg
        refine (Rd.rgood_yes _ _ hg).mono ?_
        rintro e w' ⟨rfl, rfl⟩
        clear hg
        by_cases h1 : later < on
        · have g1 : decide (later < on) = true := decide_eq_true h1
          go_wp2_with fail
          refine (HLV.out _ cw3).mono ?_
          rintro e wy ⟨rfl, hb⟩
          have cwy := bl2 hb cw3
          go_wp2_with fail
          go_ret
          exact ⟨rfl, cwy⟩
        · have g1 : decide (later < on) = false := decide_eq_false h1
          by_cases h2 : on < 0
          · have g2 : decide (on < 0) = true := decide_eq_true h2
            go_wp2_with fail
            refine (HLV.out _ cw3).mono ?_
            rintro e wy ⟨rfl, hb⟩
            have cwy := bl2 hb cw3
            go_wp2_with fail
            go_ret
            exact ⟨rfl, cwy⟩
          · have g2 : decide (on < 0) = false := decide_eq_false h2
            by_cases h3 : 73048 < later
            · have g3 : decide (73048 < later) = true := decide_eq_true h3
              go_wp2_with fail
              refine (HLV.out _ cw3).mono ?_
              rintro e wy ⟨rfl, hb⟩
              have cwy := bl2 hb cw3
              go_wp2_with fail
              go_ret
              exact ⟨rfl, cwy⟩
            · have g3 : decide (73048 < later) = false := decide_eq_false h3
              have e1 := ex_ok HOK.out HGD.out on
              have e2 := ex_ok HOK.out HGD.out later
              have e3 := ex_mono HOK.out HGD.out (show on ≤ later by omega) (show 0 ≤ on by omega) (show later ≤ 73048 by omega)
              have HID := Lib.hid (fun (h : ¬ l.st = 1) => ex_idle HOK.out HGD.out h later)
              generalize wrap64 (P l.ds - l.pp) = ou at *
              have HX1 := Lib.hid (HX.out on)
              have HX2 := Lib.hid (HX.out later)
              rw [show exE l on = 0 from e1.1] at HX1
              rw [show exE l later = 0 from e2.1] at HX2
              generalize exV l on = x at *
              generalize exV l later = y at *
              have g4 : decide (x < 0) = false := decide_eq_false (by omega)
              have g5 : decide (y < x) = false := decide_eq_false (by omega)
              have g6 : decide (ou < y) = false := decide_eq_false (by omega)
              clear h1 h2 h3 e1 e2 e3 HX HGD HOK
              go_wp2_with (refine wpList_load_row rfl 27 _ rfl _ rfl _ _ _ _ (k0) Tryd.underlying27 rfl (by kernel_rfl) ?_)
              refine (HX1.out _ cw3).mono ?_
              rintro e w4 ⟨rfl, hb⟩
              replace k0 := k0.later hb
              have cw4 := bl2 hb cw3
              clear hb cw3
              go_wp2_with (refine wpList_load_row rfl 27 _ rfl _ rfl _ _ _ _ (k0) Tryd.underlying27 rfl (by kernel_rfl) ?_)
              refine (HX2.out _ cw4).mono ?_
              rintro e w5 ⟨rfl, hb⟩
              replace k0 := k0.later hb
              have cw5 := bl2 hb cw4
              clear hb cw4
              go_wp2_with (refine load_guarded 27 _ rfl rfl _ rfl _ _ _ _ (k0) Tryd.underlying27 rfl (by kernel_rfl) ?_)
              refine (HO.out _ cw5).mono ?_
              rintro e w6 ⟨rfl, hb⟩
              replace k0 := k0.later hb
              have cw6 := bl2 hb cw5
              clear hb cw5
              have l2 := k0.c2
              by_cases hst : l.st = 1
              · have g7 : (l.st == 1) = true := by rw [hst]; rfl
                clear hst
                go_wp2_with fail
                refine (HLV.out _ cw6).mono ?_
                rintro e wy ⟨rfl, hb⟩
                have cwy := bl2 hb cw6
                go_wp2_with fail
                go_ret
                exact ⟨rfl, cwy⟩
              · have g7 : (l.st == 1) = false := beq_eq_false_iff_ne.2 hst
                have hy := HID.out hst
                have g8 : (y == 0) = true := by rw [hy]; rfl
                clear hst hy HID
                go_wp2_with fail
                refine (HLV.out _ cw6).mono ?_
                rintro e wy ⟨rfl, hb⟩
                have cwy := bl2 hb cw6
                go_wp2_with fail
                go_ret
                exact ⟨rfl, cwy⟩
      · refine (Rd.rgood_no _ _ hg).mono ?_
        rintro e w' ⟨rfl, rfl⟩
        clear hg
        go_wp2_with fail
        refine (HLV.out _ cw3).mono ?_
        rintro e wy ⟨rfl, hb⟩
        have cwy := bl2 hb cw3
        go_wp2_with fail
        go_ret
        exact ⟨rfl, cwy⟩
    · have q1 : (ch != 0) = true := bne_iff_ne.2 hch
      clear hch HCK
      go_wp2_with fail
      refine (HLV.out _ cw2).mono ?_
      rintro e wy ⟨rfl, hb⟩
      have cwy := bl2 hb cw2
      go_wp2_with fail
      go_ret
      exact ⟨rfl, cwy⟩
  · go_wp2_with fail
    refine (HLV.out _ cw1).mono ?_
    rintro e wy ⟨rfl, hb⟩
    have cwy := bl2 hb cw1
    go_wp2_with fail
    go_ret
    exact ⟨rfl, cwy⟩
end Go.Proofs.YtjicnlgndkcahaaDoor.Ln
