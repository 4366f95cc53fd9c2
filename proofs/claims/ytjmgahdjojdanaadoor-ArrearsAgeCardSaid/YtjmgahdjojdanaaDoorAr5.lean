/-
  Arrears: the walks of three statements.
-/
import Derived.Test.YtjmgahdjojdanaaDoorAr4
namespace Go.Proofs.YtjmgahdjojdanaaDoor.Ln
open Go.RowKit
open Go.Proofs.YtjmgahdjojdanaaDoor
open Go.Proofs.YtjmgahdjojdanaaDoor.Wm
set_option linter.unusedSimpArgs false
set_option maxRecDepth 100000

theorem great_lenA {l : Lo} (h : greatB l = false) : l.ds.length ≤ 300 ∧ l.cs.length ≤ 100 := by
  unfold greatB at h
  simp at h
  omega
/-- Days that are far apart, as the statements ask. -/
def longB (a b : Int) : Bool := decide (0 ≤ a) && decide (b ≤ 73048) && decide (300 < wrap64 (b - a))
theorem long_any (a b : Int) (w : World) : Calls Tryd.prog 16 #[.int .i64 a, .int .i64 b] w fun e w' => e = .returned (.bool (longB a b)) ∧ w = w' := by
  unfold longB
  by_cases h : 0 ≤ a
  · by_cases h2 : b ≤ 73048
    · rw [decide_eq_true h, decide_eq_true h2]
      go_enter Tryd.func16, Tryd.ntmps16
      go_wp2_with fail
      go_ret
      exact ⟨by simp, rfl⟩
    · rw [decide_eq_true h, decide_eq_false h2]
      go_enter Tryd.func16, Tryd.ntmps16
      go_wp2_with fail
      go_ret
      exact ⟨by simp, rfl⟩
  · rw [decide_eq_false h]
    go_enter Tryd.func16, Tryd.ntmps16
    go_wp2_with fail
    go_ret
    exact ⟨by simp, rfl⟩

set_option maxHeartbeats 16000000 in
theorem counts_walk (l : Lo) (da ca : Option Addr) (dk ck : Nat) (on n : Int) (_ : (Lit.int .i64 on).wf = true) (_ : (Lit.int .i64 n).wf = true) (w : World) (hl : LoInA w l da ca) (hd : Dok l.ds) (hS : Rd.Stp w ∧ Ctb w) :
    Calls Tryd.prog 3 #[(.agg #[.int .i64 (l).id, .int .i64 (l).ac, .int .i64 (l).st, .int .i64 (l).pp, .int .i64 (l).pi, .int .i64 (l).fee, .int .i64 (l).pen, .int .i64 (l).chg, .int .i64 (l).prov, .int .i64 (l).loss, .int .i64 (l).rcv, .int .i64 ((l).tm).me, .int .i64 ((l).tm).pr, .int .i64 ((l).tm).ppm, .int .i64 ((l).tm).stt, .int .i64 ((l).tm).ev, .int .i64 ((l).tm).ct, .int .i64 ((l).tm).ba, .int .i64 ((l).tm).mo, .int .i64 ((l).tm).pen, .int .i64 ((l).tm).fe, .string ((l).tm).cal, .string ((l).tm).cur, .slice da (l).ds.length dk, .slice ca (l).cs.length ck]), .int .i64 on, .int .i64 n] w fun e w' => e = .returned (.bool true) ∧ Below w.heap.size w w' := by
  have HH := Lib.hid (fun (W : World) (hW : Below w.heap.size w W) => hl.later hW)
  have HD := Lib.hid hd
  have HSS := Lib.hid (fun (W : World) (hW : Below w.heap.size w W) => And.intro (hS.1.of hW) (hS.2.of hW))
  have HG := Lib.hid (great_any l da ca dk ck)
  have HGL := Lib.hid (great_lenA (l := l))
  have HLV := Lib.hid (fun (W : World) (hW : Below w.heap.size w W) => live37_any W (hS.1.of hW) (hS.2.of hW))
  have cw : Below w.heap.size w (w.alloc (.cells #[.int .i64 (l).id, .int .i64 (l).ac, .int .i64 (l).st, .int .i64 (l).pp, .int .i64 (l).pi, .int .i64 (l).fee, .int .i64 (l).pen, .int .i64 (l).chg, .int .i64 (l).prov, .int .i64 (l).loss, .int .i64 (l).rcv, .int .i64 ((l).tm).me, .int .i64 ((l).tm).pr, .int .i64 ((l).tm).ppm, .int .i64 ((l).tm).stt, .int .i64 ((l).tm).ev, .int .i64 ((l).tm).ct, .int .i64 ((l).tm).ba, .int .i64 ((l).tm).mo, .int .i64 ((l).tm).pen, .int .i64 ((l).tm).fe, .string ((l).tm).cal, .string ((l).tm).cur, .slice da (l).ds.length dk, .slice ca (l).cs.length ck] 27)) := (Below.refl _ _).alloc (Nat.le_refl _) _
  have k0 := Bk.Blk.nw10 (W := w) (cs := #[.int .i64 (l).id, .int .i64 (l).ac, .int .i64 (l).st, .int .i64 (l).pp, .int .i64 (l).pi, .int .i64 (l).fee, .int .i64 (l).pen, .int .i64 (l).chg, .int .i64 (l).prov, .int .i64 (l).loss, .int .i64 (l).rcv, .int .i64 ((l).tm).me, .int .i64 ((l).tm).pr, .int .i64 ((l).tm).ppm, .int .i64 ((l).tm).stt, .int .i64 ((l).tm).ev, .int .i64 ((l).tm).ct, .int .i64 ((l).tm).ba, .int .i64 ((l).tm).mo, .int .i64 ((l).tm).pen, .int .i64 ((l).tm).fe, .string ((l).tm).cal, .string ((l).tm).cur, .slice da (l).ds.length dk, .slice ca (l).cs.length ck]) (t := 27)
  clear hl hd hS
  generalize greatB l = gb at *
  go_enter Tryd.func3, Tryd.ntmps3
  go_wp2_with (refine wpList_load_row rfl 27 _ rfl _ rfl _ _ _ _ (Bk.Blk.nw10) Tryd.underlying27 rfl (by kernel_rfl) ?_)
  refine (HG.out _).mono ?_
  rintro e w1 ⟨rfl, hb⟩
  replace k0 := k0.later hb
  have cw1 := bl2 hb cw
  clear hb cw HG
  cases gb
  · have hlen := HGL.out rfl
    have HN := Lib.hid (show l.ds.length ≤ 100000 ∧ l.cs.length ≤ 100000 from ⟨by omega, by omega⟩)
    clear hlen HGL
    have HX1 := Lib.hid (fun (W : World) (hW : Below w.heap.size w W) => days_any l da ca dk ck on W (dues_of_row (by have := HN.out.1; omega) (HH.out W hW).d))
    have HX2 := Lib.hid (fun (W : World) (hW : Below w.heap.size w W) => rdays_any l da ca dk ck on W (dues_of_row (by have := HN.out.1; omega) (HH.out W hW).d))
    have HX3 := Lib.hid (fun (W : World) (hW : Below w.heap.size w W) => od_any l da ca dk ck on W (dues_of_row (by have := HN.out.1; omega) (HH.out W hW).d))
    have HX4 := Lib.hid (fun (W : World) (hW : Below w.heap.size w W) => rod_any l da ca dk ck on W (dues_of_row (by have := HN.out.1; omega) (HH.out W hW).d))
    have HX5 := Lib.hid (fun (W : World) (hW : Below w.heap.size w W) => bucket_any n W (HSS.out W hW).2)
    have HX6 := Lib.hid (fun (W : World) => rbucket_any n W)
    generalize daysL l on = x at *
    generalize ovL l on = y at *
    generalize bkt n = z at *
    have q1 : (x == x) = true := beq_self_eq_true x
    have q2 : (y == y) = true := beq_self_eq_true y
    have q3 : (z == z) = true := beq_self_eq_true z
    go_upto_region 3 with fail
    have HQ := Lib.hid (fun (W' : World) (hW : Reg.Cls w1 W') => k0.later hW)
    clear k0
    refine Reg.region_quiet (by kernel_rfl) (by kernel_rfl) ?_
    iterate 27 (first | go_big_quiet_skip | (go_big_quiet_want; (first | (refine quiet_load_row 27 _ rfl _ rfl _ _ _ _ (HQ.out) Tryd.underlying27 rfl (by kernel_rfl) ?_; (simp only [Act.put, List.setIfInBounds_toArray, List.set_cons_zero, List.set_cons_succ]; go_big_quiet_on)) | (go_big_quiet_op; go_big_quiet_on) | (apply Reg.quiet_run; (intro W hW; skip; go_simp; (first | done | rfl | exact ⟨rfl, rfl⟩ )); (simp only [Act.put, List.setIfInBounds_toArray, List.set_cons_zero, List.set_cons_succ]; go_big_quiet_on)) | (apply Reg.quiet_call; (intro W hW; go_simp; (first | done | rfl | exact ⟨rfl, rfl⟩)); (intro W hW; (first | (go_at_call 9; exact Reg.cls_call hW (HX1.out _ (bl2 hW cw1))) | (go_at_call 10; exact Reg.cls_call hW (HX2.out _ (bl2 hW cw1))) | (go_at_call 11; exact Reg.cls_call hW (HX3.out _ (bl2 hW cw1))) | (go_at_call 12; exact Reg.cls_call hW (HX4.out _ (bl2 hW cw1))) | (go_at_call 13; exact Reg.cls_same hW (HX5.out _ (bl2 hW cw1))) | (go_at_call 14; exact Reg.cls_same hW (HX6.out _)) | (go_at_call 15; exact Reg.cls_call hW (HLV.out _ (bl2 hW cw1))))); (simp only [Act.put, List.setIfInBounds_toArray, List.set_cons_zero, List.set_cons_succ]; go_big_quiet_on)))))
    refine wpQuiet_nil ?_
    intro w2 hW
    have b2 := bl2 hW cw1
    go_wp2_with fail
    go_ret
    exact ⟨rfl, b2⟩
  · go_wp2_with fail
    go_ret
    exact ⟨rfl, cw1⟩

set_option maxHeartbeats 16000000 in
theorem penalties_walk (l : Lo) (da ca : Option Addr) (dk ck : Nat) (a b : Int) (_ : (Lit.int .i64 a).wf = true) (_ : (Lit.int .i64 b).wf = true) (w : World) (hl : LoInA w l da ca) (hd : Dok l.ds) (hS : Rd.Stp w ∧ Ctb w) :
    Calls Tryd.prog 4 #[(.agg #[.int .i64 (l).id, .int .i64 (l).ac, .int .i64 (l).st, .int .i64 (l).pp, .int .i64 (l).pi, .int .i64 (l).fee, .int .i64 (l).pen, .int .i64 (l).chg, .int .i64 (l).prov, .int .i64 (l).loss, .int .i64 (l).rcv, .int .i64 ((l).tm).me, .int .i64 ((l).tm).pr, .int .i64 ((l).tm).ppm, .int .i64 ((l).tm).stt, .int .i64 ((l).tm).ev, .int .i64 ((l).tm).ct, .int .i64 ((l).tm).ba, .int .i64 ((l).tm).mo, .int .i64 ((l).tm).pen, .int .i64 ((l).tm).fe, .string ((l).tm).cal, .string ((l).tm).cur, .slice da (l).ds.length dk, .slice ca (l).cs.length ck]), .int .i64 a, .int .i64 b] w fun e w' => e = .returned (.bool true) ∧ Below w.heap.size w w' := by
  have HH := Lib.hid (fun (W : World) (hW : Below w.heap.size w W) => hl.later hW)
  have HD := Lib.hid hd
  have HSS := Lib.hid (fun (W : World) (hW : Below w.heap.size w W) => And.intro (hS.1.of hW) (hS.2.of hW))
  have HG := Lib.hid (great_any l da ca dk ck)
  have HGL := Lib.hid (great_lenA (l := l))
  have HLV := Lib.hid (fun (W : World) (hW : Below w.heap.size w W) => live37_any W (hS.1.of hW) (hS.2.of hW))
  have cw : Below w.heap.size w (w.alloc (.cells #[.int .i64 (l).id, .int .i64 (l).ac, .int .i64 (l).st, .int .i64 (l).pp, .int .i64 (l).pi, .int .i64 (l).fee, .int .i64 (l).pen, .int .i64 (l).chg, .int .i64 (l).prov, .int .i64 (l).loss, .int .i64 (l).rcv, .int .i64 ((l).tm).me, .int .i64 ((l).tm).pr, .int .i64 ((l).tm).ppm, .int .i64 ((l).tm).stt, .int .i64 ((l).tm).ev, .int .i64 ((l).tm).ct, .int .i64 ((l).tm).ba, .int .i64 ((l).tm).mo, .int .i64 ((l).tm).pen, .int .i64 ((l).tm).fe, .string ((l).tm).cal, .string ((l).tm).cur, .slice da (l).ds.length dk, .slice ca (l).cs.length ck] 27)) := (Below.refl _ _).alloc (Nat.le_refl _) _
  have k0 := Bk.Blk.nw10 (W := w) (cs := #[.int .i64 (l).id, .int .i64 (l).ac, .int .i64 (l).st, .int .i64 (l).pp, .int .i64 (l).pi, .int .i64 (l).fee, .int .i64 (l).pen, .int .i64 (l).chg, .int .i64 (l).prov, .int .i64 (l).loss, .int .i64 (l).rcv, .int .i64 ((l).tm).me, .int .i64 ((l).tm).pr, .int .i64 ((l).tm).ppm, .int .i64 ((l).tm).stt, .int .i64 ((l).tm).ev, .int .i64 ((l).tm).ct, .int .i64 ((l).tm).ba, .int .i64 ((l).tm).mo, .int .i64 ((l).tm).pen, .int .i64 ((l).tm).fe, .string ((l).tm).cal, .string ((l).tm).cur, .slice da (l).ds.length dk, .slice ca (l).cs.length ck]) (t := 27)
  clear hl hd hS
  generalize greatB l = gb at *
  go_enter Tryd.func4, Tryd.ntmps4
  go_wp2_with (refine wpList_load_row rfl 27 _ rfl _ rfl _ _ _ _ (Bk.Blk.nw10) Tryd.underlying27 rfl (by kernel_rfl) ?_)
  refine (HG.out _).mono ?_
  rintro e w1 ⟨rfl, hb⟩
  replace k0 := k0.later hb
  have cw1 := bl2 hb cw
  clear hb cw HG
  cases gb
  · have hlen := HGL.out rfl
    have HN := Lib.hid (show l.ds.length ≤ 100000 ∧ l.cs.length ≤ 100000 from ⟨by omega, by omega⟩)
    clear hlen HGL
    have HX1 := Lib.hid (fun (W : World) (hW : Below w.heap.size w W) => pen_any l da ca dk ck a b W (dues_of_row (by have := HN.out.1; omega) (HH.out W hW).d))
    have HX2 := Lib.hid (fun (W : World) (hW : Below w.heap.size w W) => rpen_any l da ca dk ck a b W (dues_of_row (by have := HN.out.1; omega) (HH.out W hW).d) HD.out)
    unfold PenP at HX1 HX2
    generalize penV l a b = v at *
    generalize penE l a b = x at *
    have HLG := Lib.hid (long_any a b)
    generalize longB a b = lg at *
    have q1 : (hi v == hi v) = true := beq_self_eq_true _
    have q2 : (lo v == lo v) = true := beq_self_eq_true _
    have q3 : (x == x) = true := beq_self_eq_true _
    go_wp2_with fail
    refine (HLG.out _).mono ?_
    rintro e w' ⟨rfl, rfl⟩
    cases lg
    · go_wp2_with (refine wpList_load_row rfl 27 _ rfl _ rfl _ _ _ _ (k0) Tryd.underlying27 rfl (by kernel_rfl) ?_)
      refine (HX1.out _ cw1).mono ?_
      rintro e w2 ⟨rfl, hb⟩
      replace k0 := k0.later hb
      have cw2 := bl2 hb cw1
      clear hb cw1
      go_upto_region 4 with fail
      have hal : Below w2.heap.size w2 (w2.alloc (.cells #[.int .i64 (hi v), .int .u64 (lo v)] 36)) := (Below.refl _ _).alloc (Nat.le_refl _) _
      replace k0 := k0.later hal
      have k7 := Bk.Blk.nw10 (W := w2) (cs := #[.int .i64 (hi v), .int .u64 (lo v)]) (t := 36)
      have cw3 := bl2 hal cw2
      clear hal cw2
      generalize (w2.alloc (.cells #[.int .i64 (hi v), .int .u64 (lo v)] 36)) = w3 at *
      generalize w2.heap.size = g7 at *
      go_wp2_with (refine wpList_load_row rfl 27 _ rfl _ rfl _ _ _ _ (k0) Tryd.underlying27 rfl (by kernel_rfl) ?_)
      refine (HX2.out _ cw3).mono ?_
      rintro e w4 ⟨rfl, hb⟩
      replace k0 := k0.later hb
      replace k7 := k7.later hb
      have cw4 := bl2 hb cw3
      clear hb cw3
      go_upto_region 5 with fail
      have hal : Below w4.heap.size w4 (w4.alloc (.cells #[.int .i64 (hi v), .int .u64 (lo v)] 36)) := (Below.refl _ _).alloc (Nat.le_refl _) _
      replace k0 := k0.later hal
      replace k7 := k7.later hal
      have k9 := Bk.Blk.nw10 (W := w4) (cs := #[.int .i64 (hi v), .int .u64 (lo v)]) (t := 36)
      have cw5 := bl2 hal cw4
      clear hal cw4
      generalize (w4.alloc (.cells #[.int .i64 (hi v), .int .u64 (lo v)] 36)) = w5 at *
      generalize w4.heap.size = g9 at *
      have l70 := k7.c0
      have l71 := k7.c1
      have l90 := k9.c0
      have l91 := k9.c1
      go_wp2_with fail
      clear l70 l71 l90 l91
      refine (HLV.out _ cw5).mono ?_
      rintro e w6 ⟨rfl, hb⟩
      replace k0 := k0.later hb
      replace k7 := k7.later hb
      replace k9 := k9.later hb
      have cw6 := bl2 hb cw5
      clear hb cw5
      go_wp2_with fail
      go_ret
      exact ⟨rfl, cw6⟩
    · cases hq : decide (wrap64 (b - a) ≤ 4000)
      · go_wp2_with (refine wpList_load_row rfl 27 _ rfl _ rfl _ _ _ _ (k0) Tryd.underlying27 rfl (by kernel_rfl) ?_)
        refine (HX1.out _ cw1).mono ?_
        rintro e w2 ⟨rfl, hb⟩
        replace k0 := k0.later hb
        have cw2 := bl2 hb cw1
        clear hb cw1
        go_upto_region 4 with fail
        have hal : Below w2.heap.size w2 (w2.alloc (.cells #[.int .i64 (hi v), .int .u64 (lo v)] 36)) := (Below.refl _ _).alloc (Nat.le_refl _) _
        replace k0 := k0.later hal
        have k7 := Bk.Blk.nw10 (W := w2) (cs := #[.int .i64 (hi v), .int .u64 (lo v)]) (t := 36)
        have cw3 := bl2 hal cw2
        clear hal cw2
        generalize (w2.alloc (.cells #[.int .i64 (hi v), .int .u64 (lo v)] 36)) = w3 at *
        generalize w2.heap.size = g7 at *
        go_wp2_with (refine wpList_load_row rfl 27 _ rfl _ rfl _ _ _ _ (k0) Tryd.underlying27 rfl (by kernel_rfl) ?_)
        refine (HX2.out _ cw3).mono ?_
        rintro e w4 ⟨rfl, hb⟩
        replace k0 := k0.later hb
        replace k7 := k7.later hb
        have cw4 := bl2 hb cw3
        clear hb cw3
        go_upto_region 5 with fail
        have hal : Below w4.heap.size w4 (w4.alloc (.cells #[.int .i64 (hi v), .int .u64 (lo v)] 36)) := (Below.refl _ _).alloc (Nat.le_refl _) _
        replace k0 := k0.later hal
        replace k7 := k7.later hal
        have k9 := Bk.Blk.nw10 (W := w4) (cs := #[.int .i64 (hi v), .int .u64 (lo v)]) (t := 36)
        have cw5 := bl2 hal cw4
        clear hal cw4
        generalize (w4.alloc (.cells #[.int .i64 (hi v), .int .u64 (lo v)] 36)) = w5 at *
        generalize w4.heap.size = g9 at *
        have l70 := k7.c0
        have l71 := k7.c1
        have l90 := k9.c0
        have l91 := k9.c1
        go_wp2_with fail
        clear l70 l71 l90 l91
        refine (HLV.out _ cw5).mono ?_
        rintro e w6 ⟨rfl, hb⟩
        replace k0 := k0.later hb
        replace k7 := k7.later hb
        replace k9 := k9.later hb
        have cw6 := bl2 hb cw5
        clear hb cw5
        go_wp2_with fail
        go_ret
        exact ⟨rfl, cw6⟩
      · go_wp2_with fail
        go_ret
        exact ⟨rfl, cw1⟩
  · go_wp2_with fail
    go_ret
    exact ⟨rfl, cw1⟩

theorem chgL_len {l : Lo} {on : Int} (h : l.ds.length ≤ 100000 ∧ l.cs.length ≤ 100000) : (chgL l on).ds.length ≤ 100000 ∧ (chgL l on).cs.length ≤ 100000 := by
  unfold chgL
  split
  · exact h
  · exact ⟨Nat.zero_le _, Nat.zero_le _⟩
set_option maxHeartbeats 16000000 in
theorem charges_walk (l : Lo) (da ca : Option Addr) (dk ck : Nat) (on : Int) (_ : (Lit.int .i64 on).wf = true) (w : World) (hl : LoInA w l da ca) (hd : Dok l.ds) (hS : Rd.Stp w ∧ Ctb w) :
    Calls Tryd.prog 5 #[(.agg #[.int .i64 (l).id, .int .i64 (l).ac, .int .i64 (l).st, .int .i64 (l).pp, .int .i64 (l).pi, .int .i64 (l).fee, .int .i64 (l).pen, .int .i64 (l).chg, .int .i64 (l).prov, .int .i64 (l).loss, .int .i64 (l).rcv, .int .i64 ((l).tm).me, .int .i64 ((l).tm).pr, .int .i64 ((l).tm).ppm, .int .i64 ((l).tm).stt, .int .i64 ((l).tm).ev, .int .i64 ((l).tm).ct, .int .i64 ((l).tm).ba, .int .i64 ((l).tm).mo, .int .i64 ((l).tm).pen, .int .i64 ((l).tm).fe, .string ((l).tm).cal, .string ((l).tm).cur, .slice da (l).ds.length dk, .slice ca (l).cs.length ck]), .int .i64 on] w fun e w' => e = .returned (.bool true) ∧ Below w.heap.size w w' := by
  have HH := Lib.hid (fun (W : World) (hW : Below w.heap.size w W) => hl.later hW)
  have HD := Lib.hid hd
  have HSS := Lib.hid (fun (W : World) (hW : Below w.heap.size w W) => And.intro (hS.1.of hW) (hS.2.of hW))
  have HG := Lib.hid (great_any l da ca dk ck)
  have HGL := Lib.hid (great_lenA (l := l))
  have HLV := Lib.hid (fun (W : World) (hW : Below w.heap.size w W) => live37_any W (hS.1.of hW) (hS.2.of hW))
  have cw : Below w.heap.size w (w.alloc (.cells #[.int .i64 (l).id, .int .i64 (l).ac, .int .i64 (l).st, .int .i64 (l).pp, .int .i64 (l).pi, .int .i64 (l).fee, .int .i64 (l).pen, .int .i64 (l).chg, .int .i64 (l).prov, .int .i64 (l).loss, .int .i64 (l).rcv, .int .i64 ((l).tm).me, .int .i64 ((l).tm).pr, .int .i64 ((l).tm).ppm, .int .i64 ((l).tm).stt, .int .i64 ((l).tm).ev, .int .i64 ((l).tm).ct, .int .i64 ((l).tm).ba, .int .i64 ((l).tm).mo, .int .i64 ((l).tm).pen, .int .i64 ((l).tm).fe, .string ((l).tm).cal, .string ((l).tm).cur, .slice da (l).ds.length dk, .slice ca (l).cs.length ck] 27)) := (Below.refl _ _).alloc (Nat.le_refl _) _
  have k0 := Bk.Blk.nw10 (W := w) (cs := #[.int .i64 (l).id, .int .i64 (l).ac, .int .i64 (l).st, .int .i64 (l).pp, .int .i64 (l).pi, .int .i64 (l).fee, .int .i64 (l).pen, .int .i64 (l).chg, .int .i64 (l).prov, .int .i64 (l).loss, .int .i64 (l).rcv, .int .i64 ((l).tm).me, .int .i64 ((l).tm).pr, .int .i64 ((l).tm).ppm, .int .i64 ((l).tm).stt, .int .i64 ((l).tm).ev, .int .i64 ((l).tm).ct, .int .i64 ((l).tm).ba, .int .i64 ((l).tm).mo, .int .i64 ((l).tm).pen, .int .i64 ((l).tm).fe, .string ((l).tm).cal, .string ((l).tm).cur, .slice da (l).ds.length dk, .slice ca (l).cs.length ck]) (t := 27)
  clear hl hd hS
  generalize greatB l = gb at *
  go_enter Tryd.func5, Tryd.ntmps5
  go_wp2_with (refine wpList_load_row rfl 27 _ rfl _ rfl _ _ _ _ (Bk.Blk.nw10) Tryd.underlying27 rfl (by kernel_rfl) ?_)
  refine (HG.out _).mono ?_
  rintro e w1 ⟨rfl, hb⟩
  replace k0 := k0.later hb
  have cw1 := bl2 hb cw
  clear hb cw HG
  cases gb
  · have hlen := HGL.out rfl
    have HN := Lib.hid (show l.ds.length ≤ 100000 ∧ l.cs.length ≤ 100000 from ⟨by omega, by omega⟩)
    clear hlen HGL
    have HX1 := Lib.hid (fun (W : World) (hW : Below w.heap.size w W) => charge_any l da ca dk ck on W (HH.out W hW) HN.out.1 HN.out.2 (HSS.out W hW).1)
    have HX2 := Lib.hid (fun (W : World) (hW : Below w.heap.size w W) => rcharge_any l da ca dk ck on W (HH.out W hW) HN.out.1 HN.out.2 HD.out)
    have HAL := Lib.hid (show (chgL l on).ds.length ≤ 100000 ∧ (chgL l on).cs.length ≤ 100000 from chgL_len HN.out)
    generalize chgL l on = A at *
    generalize chgN l on = x at *
    generalize chgE l on = y at *
    have HLG := Lib.hid (long_any l.chg on)
    generalize longB l.chg on = lg at *
    have q1 : (x == x) = true := beq_self_eq_true _
    have q3 : (y == y) = true := beq_self_eq_true _
    have l7 := k0.c7
    go_wp2_with fail
    refine (HLG.out _).mono ?_
    rintro e w' ⟨rfl, rfl⟩
    cases lg
    · go_wp2_with (first | (refine wpList_load_row rfl 27 _ rfl _ rfl _ _ _ _ (k0) Tryd.underlying27 rfl (by kernel_rfl) ?_) | (refine load_guarded 27 _ rfl rfl _ rfl _ _ _ _ (k0) Tryd.underlying27 rfl (by kernel_rfl) ?_))
      clear l7
      refine (HX1.out _ cw1).mono ?_
      rintro e w2 ⟨da1, dk1, ca1, ck1, rfl, hl1, hb⟩
      replace k0 := k0.later hb
      have cw2 := bl2 hb cw1
      clear hb cw1
      go_upto_region 4 with (refine wpList_store_row rfl 27 _ _ rfl _ _ rfl rfl _ _ Bk.Blk.nw10 (by kernel_rfl) rfl (one25 ..) ?_)
      have hbs : Below w2.heap.size w2 ((w2.alloc (.cells #[.int .i64 0, .int .i64 0, .int .i64 0, .int .i64 0, .int .i64 0, .int .i64 0, .int .i64 0, .int .i64 0, .int .i64 0, .int .i64 0, .int .i64 0, .int .i64 0, .int .i64 0, .int .i64 0, .int .i64 0, .int .i64 0, .int .i64 0, .int .i64 0, .int .i64 0, .int .i64 0, .int .i64 0, .string { data := #[] }, .string { data := #[] }, .slice none 0 0, .slice none 0 0] 27)).setRow w2.heap.size #[.int .i64 (A).id, .int .i64 (A).ac, .int .i64 (A).st, .int .i64 (A).pp, .int .i64 (A).pi, .int .i64 (A).fee, .int .i64 (A).pen, .int .i64 (A).chg, .int .i64 (A).prov, .int .i64 (A).loss, .int .i64 (A).rcv, .int .i64 ((A).tm).me, .int .i64 ((A).tm).pr, .int .i64 ((A).tm).ppm, .int .i64 ((A).tm).stt, .int .i64 ((A).tm).ev, .int .i64 ((A).tm).ct, .int .i64 ((A).tm).ba, .int .i64 ((A).tm).mo, .int .i64 ((A).tm).pen, .int .i64 ((A).tm).fe, .string ((A).tm).cal, .string ((A).tm).cur, .slice da1 (A).ds.length dk1, .slice ca1 (A).cs.length ck1]) := Below_setRow ((Below.refl _ _).alloc (Nat.le_refl _) _) (Nat.le_refl _) _
      have k1 : Bk.Blk ((w2.alloc (.cells #[.int .i64 0, .int .i64 0, .int .i64 0, .int .i64 0, .int .i64 0, .int .i64 0, .int .i64 0, .int .i64 0, .int .i64 0, .int .i64 0, .int .i64 0, .int .i64 0, .int .i64 0, .int .i64 0, .int .i64 0, .int .i64 0, .int .i64 0, .int .i64 0, .int .i64 0, .int .i64 0, .int .i64 0, .string { data := #[] }, .string { data := #[] }, .slice none 0 0, .slice none 0 0] 27)).setRow w2.heap.size #[.int .i64 (A).id, .int .i64 (A).ac, .int .i64 (A).st, .int .i64 (A).pp, .int .i64 (A).pi, .int .i64 (A).fee, .int .i64 (A).pen, .int .i64 (A).chg, .int .i64 (A).prov, .int .i64 (A).loss, .int .i64 (A).rcv, .int .i64 ((A).tm).me, .int .i64 ((A).tm).pr, .int .i64 ((A).tm).ppm, .int .i64 ((A).tm).stt, .int .i64 ((A).tm).ev, .int .i64 ((A).tm).ct, .int .i64 ((A).tm).ba, .int .i64 ((A).tm).mo, .int .i64 ((A).tm).pen, .int .i64 ((A).tm).fe, .string ((A).tm).cal, .string ((A).tm).cur, .slice da1 (A).ds.length dk1, .slice ca1 (A).cs.length ck1]) w2.heap.size #[.int .i64 (A).id, .int .i64 (A).ac, .int .i64 (A).st, .int .i64 (A).pp, .int .i64 (A).pi, .int .i64 (A).fee, .int .i64 (A).pen, .int .i64 (A).chg, .int .i64 (A).prov, .int .i64 (A).loss, .int .i64 (A).rcv, .int .i64 ((A).tm).me, .int .i64 ((A).tm).pr, .int .i64 ((A).tm).ppm, .int .i64 ((A).tm).stt, .int .i64 ((A).tm).ev, .int .i64 ((A).tm).ct, .int .i64 ((A).tm).ba, .int .i64 ((A).tm).mo, .int .i64 ((A).tm).pen, .int .i64 ((A).tm).fe, .string ((A).tm).cal, .string ((A).tm).cur, .slice da1 (A).ds.length dk1, .slice ca1 (A).cs.length ck1] 27 := Blk_setRow_same Bk.Blk.nw10
      replace k0 := k0.later hbs
      replace hl1 := hl1.later hbs
      have cw3 := bl2 hbs cw2
      clear cw2 hbs
      generalize ((w2.alloc (.cells #[.int .i64 0, .int .i64 0, .int .i64 0, .int .i64 0, .int .i64 0, .int .i64 0, .int .i64 0, .int .i64 0, .int .i64 0, .int .i64 0, .int .i64 0, .int .i64 0, .int .i64 0, .int .i64 0, .int .i64 0, .int .i64 0, .int .i64 0, .int .i64 0, .int .i64 0, .int .i64 0, .int .i64 0, .string { data := #[] }, .string { data := #[] }, .slice none 0 0, .slice none 0 0] 27)).setRow w2.heap.size #[.int .i64 (A).id, .int .i64 (A).ac, .int .i64 (A).st, .int .i64 (A).pp, .int .i64 (A).pi, .int .i64 (A).fee, .int .i64 (A).pen, .int .i64 (A).chg, .int .i64 (A).prov, .int .i64 (A).loss, .int .i64 (A).rcv, .int .i64 ((A).tm).me, .int .i64 ((A).tm).pr, .int .i64 ((A).tm).ppm, .int .i64 ((A).tm).stt, .int .i64 ((A).tm).ev, .int .i64 ((A).tm).ct, .int .i64 ((A).tm).ba, .int .i64 ((A).tm).mo, .int .i64 ((A).tm).pen, .int .i64 ((A).tm).fe, .string ((A).tm).cal, .string ((A).tm).cur, .slice da1 (A).ds.length dk1, .slice ca1 (A).cs.length ck1]) = w3 at *
      generalize w2.heap.size = g1 at *
      go_wp2_with (refine wpList_load_row rfl 27 _ rfl _ rfl _ _ _ _ (k0) Tryd.underlying27 rfl (by kernel_rfl) ?_)
      refine (HX2.out _ cw3).mono ?_
      rintro e w4 ⟨da2, dk2, ca2, ck2, rfl, hl2, hb⟩
      replace k0 := k0.later hb
      replace hl1 := hl1.later hb
      replace k1 := k1.later hb
      have cw4 := bl2 hb cw3
      clear hb cw3
      go_upto_region 5 with (refine wpList_store_row rfl 27 _ _ rfl _ _ rfl rfl _ _ Bk.Blk.nw10 (by kernel_rfl) rfl (one25 ..) ?_)
      have hbs : Below w4.heap.size w4 ((w4.alloc (.cells #[.int .i64 0, .int .i64 0, .int .i64 0, .int .i64 0, .int .i64 0, .int .i64 0, .int .i64 0, .int .i64 0, .int .i64 0, .int .i64 0, .int .i64 0, .int .i64 0, .int .i64 0, .int .i64 0, .int .i64 0, .int .i64 0, .int .i64 0, .int .i64 0, .int .i64 0, .int .i64 0, .int .i64 0, .string { data := #[] }, .string { data := #[] }, .slice none 0 0, .slice none 0 0] 27)).setRow w4.heap.size #[.int .i64 (A).id, .int .i64 (A).ac, .int .i64 (A).st, .int .i64 (A).pp, .int .i64 (A).pi, .int .i64 (A).fee, .int .i64 (A).pen, .int .i64 (A).chg, .int .i64 (A).prov, .int .i64 (A).loss, .int .i64 (A).rcv, .int .i64 ((A).tm).me, .int .i64 ((A).tm).pr, .int .i64 ((A).tm).ppm, .int .i64 ((A).tm).stt, .int .i64 ((A).tm).ev, .int .i64 ((A).tm).ct, .int .i64 ((A).tm).ba, .int .i64 ((A).tm).mo, .int .i64 ((A).tm).pen, .int .i64 ((A).tm).fe, .string ((A).tm).cal, .string ((A).tm).cur, .slice da2 (A).ds.length dk2, .slice ca2 (A).cs.length ck2]) := Below_setRow ((Below.refl _ _).alloc (Nat.le_refl _) _) (Nat.le_refl _) _
      have k2 : Bk.Blk ((w4.alloc (.cells #[.int .i64 0, .int .i64 0, .int .i64 0, .int .i64 0, .int .i64 0, .int .i64 0, .int .i64 0, .int .i64 0, .int .i64 0, .int .i64 0, .int .i64 0, .int .i64 0, .int .i64 0, .int .i64 0, .int .i64 0, .int .i64 0, .int .i64 0, .int .i64 0, .int .i64 0, .int .i64 0, .int .i64 0, .string { data := #[] }, .string { data := #[] }, .slice none 0 0, .slice none 0 0] 27)).setRow w4.heap.size #[.int .i64 (A).id, .int .i64 (A).ac, .int .i64 (A).st, .int .i64 (A).pp, .int .i64 (A).pi, .int .i64 (A).fee, .int .i64 (A).pen, .int .i64 (A).chg, .int .i64 (A).prov, .int .i64 (A).loss, .int .i64 (A).rcv, .int .i64 ((A).tm).me, .int .i64 ((A).tm).pr, .int .i64 ((A).tm).ppm, .int .i64 ((A).tm).stt, .int .i64 ((A).tm).ev, .int .i64 ((A).tm).ct, .int .i64 ((A).tm).ba, .int .i64 ((A).tm).mo, .int .i64 ((A).tm).pen, .int .i64 ((A).tm).fe, .string ((A).tm).cal, .string ((A).tm).cur, .slice da2 (A).ds.length dk2, .slice ca2 (A).cs.length ck2]) w4.heap.size #[.int .i64 (A).id, .int .i64 (A).ac, .int .i64 (A).st, .int .i64 (A).pp, .int .i64 (A).pi, .int .i64 (A).fee, .int .i64 (A).pen, .int .i64 (A).chg, .int .i64 (A).prov, .int .i64 (A).loss, .int .i64 (A).rcv, .int .i64 ((A).tm).me, .int .i64 ((A).tm).pr, .int .i64 ((A).tm).ppm, .int .i64 ((A).tm).stt, .int .i64 ((A).tm).ev, .int .i64 ((A).tm).ct, .int .i64 ((A).tm).ba, .int .i64 ((A).tm).mo, .int .i64 ((A).tm).pen, .int .i64 ((A).tm).fe, .string ((A).tm).cal, .string ((A).tm).cur, .slice da2 (A).ds.length dk2, .slice ca2 (A).cs.length ck2] 27 := Blk_setRow_same Bk.Blk.nw10
      replace k0 := k0.later hbs
      replace hl1 := hl1.later hbs
      replace k1 := k1.later hbs
      replace hl2 := hl2.later hbs
      have cw5 := bl2 hbs cw4
      clear cw4 hbs
      generalize ((w4.alloc (.cells #[.int .i64 0, .int .i64 0, .int .i64 0, .int .i64 0, .int .i64 0, .int .i64 0, .int .i64 0, .int .i64 0, .int .i64 0, .int .i64 0, .int .i64 0, .int .i64 0, .int .i64 0, .int .i64 0, .int .i64 0, .int .i64 0, .int .i64 0, .int .i64 0, .int .i64 0, .int .i64 0, .int .i64 0, .string { data := #[] }, .string { data := #[] }, .slice none 0 0, .slice none 0 0] 27)).setRow w4.heap.size #[.int .i64 (A).id, .int .i64 (A).ac, .int .i64 (A).st, .int .i64 (A).pp, .int .i64 (A).pi, .int .i64 (A).fee, .int .i64 (A).pen, .int .i64 (A).chg, .int .i64 (A).prov, .int .i64 (A).loss, .int .i64 (A).rcv, .int .i64 ((A).tm).me, .int .i64 ((A).tm).pr, .int .i64 ((A).tm).ppm, .int .i64 ((A).tm).stt, .int .i64 ((A).tm).ev, .int .i64 ((A).tm).ct, .int .i64 ((A).tm).ba, .int .i64 ((A).tm).mo, .int .i64 ((A).tm).pen, .int .i64 ((A).tm).fe, .string ((A).tm).cal, .string ((A).tm).cur, .slice da2 (A).ds.length dk2, .slice ca2 (A).cs.length ck2]) = w5 at *
      generalize w4.heap.size = g2 at *
      go_wp2_with (first | (refine load_guarded 27 _ rfl rfl _ rfl _ _ _ _ (k1) Tryd.underlying27 rfl (by kernel_rfl) ?_) | (refine load_guarded 27 _ rfl rfl _ rfl _ _ _ _ (k2) Tryd.underlying27 rfl (by kernel_rfl) ?_))
      refine (same_any A da1 ca1 da2 ca2 dk1 ck1 dk2 ck2 _ hl1.d hl2.d hl1.c hl2.c HAL.out.1 HAL.out.2).mono ?_
      rintro e w6 ⟨rfl, hb⟩
      replace k0 := k0.later hb
      replace hl1 := hl1.later hb
      replace k1 := k1.later hb
      replace hl2 := hl2.later hb
      replace k2 := k2.later hb
      have cw6 := bl2 hb cw5
      clear hb cw5
      go_wp2_with fail
      refine (HLV.out _ cw6).mono ?_
      rintro e w7 ⟨rfl, hb⟩
      replace k0 := k0.later hb
      replace hl1 := hl1.later hb
      replace k1 := k1.later hb
      replace hl2 := hl2.later hb
      replace k2 := k2.later hb
      have cw7 := bl2 hb cw6
      clear hb cw6
      go_wp2_with fail
      go_ret
      exact ⟨rfl, cw7⟩
    · cases hq : decide (wrap64 (on - l.chg) ≤ 4000)
      · go_wp2_with (first | (refine wpList_load_row rfl 27 _ rfl _ rfl _ _ _ _ (k0) Tryd.underlying27 rfl (by kernel_rfl) ?_) | (refine load_guarded 27 _ rfl rfl _ rfl _ _ _ _ (k0) Tryd.underlying27 rfl (by kernel_rfl) ?_))
        clear l7
        refine (HX1.out _ cw1).mono ?_
        rintro e w2 ⟨da1, dk1, ca1, ck1, rfl, hl1, hb⟩
        replace k0 := k0.later hb
        have cw2 := bl2 hb cw1
        clear hb cw1
        go_upto_region 4 with (refine wpList_store_row rfl 27 _ _ rfl _ _ rfl rfl _ _ Bk.Blk.nw10 (by kernel_rfl) rfl (one25 ..) ?_)
        have hbs : Below w2.heap.size w2 ((w2.alloc (.cells #[.int .i64 0, .int .i64 0, .int .i64 0, .int .i64 0, .int .i64 0, .int .i64 0, .int .i64 0, .int .i64 0, .int .i64 0, .int .i64 0, .int .i64 0, .int .i64 0, .int .i64 0, .int .i64 0, .int .i64 0, .int .i64 0, .int .i64 0, .int .i64 0, .int .i64 0, .int .i64 0, .int .i64 0, .string { data := #[] }, .string { data := #[] }, .slice none 0 0, .slice none 0 0] 27)).setRow w2.heap.size #[.int .i64 (A).id, .int .i64 (A).ac, .int .i64 (A).st, .int .i64 (A).pp, .int .i64 (A).pi, .int .i64 (A).fee, .int .i64 (A).pen, .int .i64 (A).chg, .int .i64 (A).prov, .int .i64 (A).loss, .int .i64 (A).rcv, .int .i64 ((A).tm).me, .int .i64 ((A).tm).pr, .int .i64 ((A).tm).ppm, .int .i64 ((A).tm).stt, .int .i64 ((A).tm).ev, .int .i64 ((A).tm).ct, .int .i64 ((A).tm).ba, .int .i64 ((A).tm).mo, .int .i64 ((A).tm).pen, .int .i64 ((A).tm).fe, .string ((A).tm).cal, .string ((A).tm).cur, .slice da1 (A).ds.length dk1, .slice ca1 (A).cs.length ck1]) := Below_setRow ((Below.refl _ _).alloc (Nat.le_refl _) _) (Nat.le_refl _) _
        have k1 : Bk.Blk ((w2.alloc (.cells #[.int .i64 0, .int .i64 0, .int .i64 0, .int .i64 0, .int .i64 0, .int .i64 0, .int .i64 0, .int .i64 0, .int .i64 0, .int .i64 0, .int .i64 0, .int .i64 0, .int .i64 0, .int .i64 0, .int .i64 0, .int .i64 0, .int .i64 0, .int .i64 0, .int .i64 0, .int .i64 0, .int .i64 0, .string { data := #[] }, .string { data := #[] }, .slice none 0 0, .slice none 0 0] 27)).setRow w2.heap.size #[.int .i64 (A).id, .int .i64 (A).ac, .int .i64 (A).st, .int .i64 (A).pp, .int .i64 (A).pi, .int .i64 (A).fee, .int .i64 (A).pen, .int .i64 (A).chg, .int .i64 (A).prov, .int .i64 (A).loss, .int .i64 (A).rcv, .int .i64 ((A).tm).me, .int .i64 ((A).tm).pr, .int .i64 ((A).tm).ppm, .int .i64 ((A).tm).stt, .int .i64 ((A).tm).ev, .int .i64 ((A).tm).ct, .int .i64 ((A).tm).ba, .int .i64 ((A).tm).mo, .int .i64 ((A).tm).pen, .int .i64 ((A).tm).fe, .string ((A).tm).cal, .string ((A).tm).cur, .slice da1 (A).ds.length dk1, .slice ca1 (A).cs.length ck1]) w2.heap.size #[.int .i64 (A).id, .int .i64 (A).ac, .int .i64 (A).st, .int .i64 (A).pp, .int .i64 (A).pi, .int .i64 (A).fee, .int .i64 (A).pen, .int .i64 (A).chg, .int .i64 (A).prov, .int .i64 (A).loss, .int .i64 (A).rcv, .int .i64 ((A).tm).me, .int .i64 ((A).tm).pr, .int .i64 ((A).tm).ppm, .int .i64 ((A).tm).stt, .int .i64 ((A).tm).ev, .int .i64 ((A).tm).ct, .int .i64 ((A).tm).ba, .int .i64 ((A).tm).mo, .int .i64 ((A).tm).pen, .int .i64 ((A).tm).fe, .string ((A).tm).cal, .string ((A).tm).cur, .slice da1 (A).ds.length dk1, .slice ca1 (A).cs.length ck1] 27 := Blk_setRow_same Bk.Blk.nw10
        replace k0 := k0.later hbs
        replace hl1 := hl1.later hbs
        have cw3 := bl2 hbs cw2
        clear cw2 hbs
        generalize ((w2.alloc (.cells #[.int .i64 0, .int .i64 0, .int .i64 0, .int .i64 0, .int .i64 0, .int .i64 0, .int .i64 0, .int .i64 0, .int .i64 0, .int .i64 0, .int .i64 0, .int .i64 0, .int .i64 0, .int .i64 0, .int .i64 0, .int .i64 0, .int .i64 0, .int .i64 0, .int .i64 0, .int .i64 0, .int .i64 0, .string { data := #[] }, .string { data := #[] }, .slice none 0 0, .slice none 0 0] 27)).setRow w2.heap.size #[.int .i64 (A).id, .int .i64 (A).ac, .int .i64 (A).st, .int .i64 (A).pp, .int .i64 (A).pi, .int .i64 (A).fee, .int .i64 (A).pen, .int .i64 (A).chg, .int .i64 (A).prov, .int .i64 (A).loss, .int .i64 (A).rcv, .int .i64 ((A).tm).me, .int .i64 ((A).tm).pr, .int .i64 ((A).tm).ppm, .int .i64 ((A).tm).stt, .int .i64 ((A).tm).ev, .int .i64 ((A).tm).ct, .int .i64 ((A).tm).ba, .int .i64 ((A).tm).mo, .int .i64 ((A).tm).pen, .int .i64 ((A).tm).fe, .string ((A).tm).cal, .string ((A).tm).cur, .slice da1 (A).ds.length dk1, .slice ca1 (A).cs.length ck1]) = w3 at *
        generalize w2.heap.size = g1 at *
        go_wp2_with (refine wpList_load_row rfl 27 _ rfl _ rfl _ _ _ _ (k0) Tryd.underlying27 rfl (by kernel_rfl) ?_)
        refine (HX2.out _ cw3).mono ?_
        rintro e w4 ⟨da2, dk2, ca2, ck2, rfl, hl2, hb⟩
        replace k0 := k0.later hb
        replace hl1 := hl1.later hb
        replace k1 := k1.later hb
        have cw4 := bl2 hb cw3
        clear hb cw3
        go_upto_region 5 with (refine wpList_store_row rfl 27 _ _ rfl _ _ rfl rfl _ _ Bk.Blk.nw10 (by kernel_rfl) rfl (one25 ..) ?_)
        have hbs : Below w4.heap.size w4 ((w4.alloc (.cells #[.int .i64 0, .int .i64 0, .int .i64 0, .int .i64 0, .int .i64 0, .int .i64 0, .int .i64 0, .int .i64 0, .int .i64 0, .int .i64 0, .int .i64 0, .int .i64 0, .int .i64 0, .int .i64 0, .int .i64 0, .int .i64 0, .int .i64 0, .int .i64 0, .int .i64 0, .int .i64 0, .int .i64 0, .string { data := #[] }, .string { data := #[] }, .slice none 0 0, .slice none 0 0] 27)).setRow w4.heap.size #[.int .i64 (A).id, .int .i64 (A).ac, .int .i64 (A).st, .int .i64 (A).pp, .int .i64 (A).pi, .int .i64 (A).fee, .int .i64 (A).pen, .int .i64 (A).chg, .int .i64 (A).prov, .int .i64 (A).loss, .int .i64 (A).rcv, .int .i64 ((A).tm).me, .int .i64 ((A).tm).pr, .int .i64 ((A).tm).ppm, .int .i64 ((A).tm).stt, .int .i64 ((A).tm).ev, .int .i64 ((A).tm).ct, .int .i64 ((A).tm).ba, .int .i64 ((A).tm).mo, .int .i64 ((A).tm).pen, .int .i64 ((A).tm).fe, .string ((A).tm).cal, .string ((A).tm).cur, .slice da2 (A).ds.length dk2, .slice ca2 (A).cs.length ck2]) := Below_setRow ((Below.refl _ _).alloc (Nat.le_refl _) _) (Nat.le_refl _) _
        have k2 : Bk.Blk ((w4.alloc (.cells #[.int .i64 0, .int .i64 0, .int .i64 0, .int .i64 0, .int .i64 0, .int .i64 0, .int .i64 0, .int .i64 0, .int .i64 0, .int .i64 0, .int .i64 0, .int .i64 0, .int .i64 0, .int .i64 0, .int .i64 0, .int .i64 0, .int .i64 0, .int .i64 0, .int .i64 0, .int .i64 0, .int .i64 0, .string { data := #[] }, .string { data := #[] }, .slice none 0 0, .slice none 0 0] 27)).setRow w4.heap.size #[.int .i64 (A).id, .int .i64 (A).ac, .int .i64 (A).st, .int .i64 (A).pp, .int .i64 (A).pi, .int .i64 (A).fee, .int .i64 (A).pen, .int .i64 (A).chg, .int .i64 (A).prov, .int .i64 (A).loss, .int .i64 (A).rcv, .int .i64 ((A).tm).me, .int .i64 ((A).tm).pr, .int .i64 ((A).tm).ppm, .int .i64 ((A).tm).stt, .int .i64 ((A).tm).ev, .int .i64 ((A).tm).ct, .int .i64 ((A).tm).ba, .int .i64 ((A).tm).mo, .int .i64 ((A).tm).pen, .int .i64 ((A).tm).fe, .string ((A).tm).cal, .string ((A).tm).cur, .slice da2 (A).ds.length dk2, .slice ca2 (A).cs.length ck2]) w4.heap.size #[.int .i64 (A).id, .int .i64 (A).ac, .int .i64 (A).st, .int .i64 (A).pp, .int .i64 (A).pi, .int .i64 (A).fee, .int .i64 (A).pen, .int .i64 (A).chg, .int .i64 (A).prov, .int .i64 (A).loss, .int .i64 (A).rcv, .int .i64 ((A).tm).me, .int .i64 ((A).tm).pr, .int .i64 ((A).tm).ppm, .int .i64 ((A).tm).stt, .int .i64 ((A).tm).ev, .int .i64 ((A).tm).ct, .int .i64 ((A).tm).ba, .int .i64 ((A).tm).mo, .int .i64 ((A).tm).pen, .int .i64 ((A).tm).fe, .string ((A).tm).cal, .string ((A).tm).cur, .slice da2 (A).ds.length dk2, .slice ca2 (A).cs.length ck2] 27 := Blk_setRow_same Bk.Blk.nw10
        replace k0 := k0.later hbs
        replace hl1 := hl1.later hbs
        replace k1 := k1.later hbs
        replace hl2 := hl2.later hbs
        have cw5 := bl2 hbs cw4
        clear cw4 hbs
        generalize ((w4.alloc (.cells #[.int .i64 0, .int .i64 0, .int .i64 0, .int .i64 0, .int .i64 0, .int .i64 0, .int .i64 0, .int .i64 0, .int .i64 0, .int .i64 0, .int .i64 0, .int .i64 0, .int .i64 0, .int .i64 0, .int .i64 0, .int .i64 0, .int .i64 0, .int .i64 0, .int .i64 0, .int .i64 0, .int .i64 0, .string { data := #[] }, .string { data := #[] }, .slice none 0 0, .slice none 0 0] 27)).setRow w4.heap.size #[.int .i64 (A).id, .int .i64 (A).ac, .int .i64 (A).st, .int .i64 (A).pp, .int .i64 (A).pi, .int .i64 (A).fee, .int .i64 (A).pen, .int .i64 (A).chg, .int .i64 (A).prov, .int .i64 (A).loss, .int .i64 (A).rcv, .int .i64 ((A).tm).me, .int .i64 ((A).tm).pr, .int .i64 ((A).tm).ppm, .int .i64 ((A).tm).stt, .int .i64 ((A).tm).ev, .int .i64 ((A).tm).ct, .int .i64 ((A).tm).ba, .int .i64 ((A).tm).mo, .int .i64 ((A).tm).pen, .int .i64 ((A).tm).fe, .string ((A).tm).cal, .string ((A).tm).cur, .slice da2 (A).ds.length dk2, .slice ca2 (A).cs.length ck2]) = w5 at *
        generalize w4.heap.size = g2 at *
        go_wp2_with (first | (refine load_guarded 27 _ rfl rfl _ rfl _ _ _ _ (k1) Tryd.underlying27 rfl (by kernel_rfl) ?_) | (refine load_guarded 27 _ rfl rfl _ rfl _ _ _ _ (k2) Tryd.underlying27 rfl (by kernel_rfl) ?_))
        refine (same_any A da1 ca1 da2 ca2 dk1 ck1 dk2 ck2 _ hl1.d hl2.d hl1.c hl2.c HAL.out.1 HAL.out.2).mono ?_
        rintro e w6 ⟨rfl, hb⟩
        replace k0 := k0.later hb
        replace hl1 := hl1.later hb
        replace k1 := k1.later hb
        replace hl2 := hl2.later hb
        replace k2 := k2.later hb
        have cw6 := bl2 hb cw5
        clear hb cw5
        go_wp2_with fail
        refine (HLV.out _ cw6).mono ?_
        rintro e w7 ⟨rfl, hb⟩
        replace k0 := k0.later hb
        replace hl1 := hl1.later hb
        replace k1 := k1.later hb
        replace hl2 := hl2.later hb
        replace k2 := k2.later hb
        have cw7 := bl2 hb cw6
        clear hb cw6
        go_wp2_with fail
        go_ret
        exact ⟨rfl, cw7⟩
      · go_wp2_with fail
        go_ret
        exact ⟨rfl, cw1⟩
  · go_wp2_with fail
    go_ret
    exact ⟨rfl, cw1⟩

end Go.Proofs.YtjmgahdjojdanaaDoor.Ln
