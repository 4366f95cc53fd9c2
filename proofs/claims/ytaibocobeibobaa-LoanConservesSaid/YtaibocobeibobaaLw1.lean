/-
  LoanPays: its walk.
-/
import Derived.Test.YtaibocobeibobaaLw0
namespace Go.Proofs.Ytaibocobeibobaa.Ln
open Go.RowKit
open Go.Proofs.Ytaibocobeibobaa

theorem great_len {l : Lo} (h : greatB l = false) : l.ds.length ≤ 300 ∧ l.cs.length ≤ 100 := by
  unfold greatB at h
  simp at h
  omega
set_option maxRecDepth 100000 in
set_option maxHeartbeats 8000000 in
theorem pays_walk (l : Lo) (da ca : Option Addr) (dk ck : Nat) (n on : Int) (_ : (Lit.int .i64 n).wf = true) (_ : (Lit.int .i64 on).wf = true) (w : World) (h : LoIn w l da ca) (hd : Dok l.ds) :
    Calls Try.prog 4 #[(.agg #[.int .i64 (l).id, .int .i64 (l).ac, .int .i64 (l).st, .int .i64 (l).pp, .int .i64 (l).pi, .int .i64 (l).fee, .int .i64 (l).pen, .int .i64 (l).chg, .int .i64 (l).prov, .int .i64 (l).loss, .int .i64 (l).rcv, .int .i64 ((l).tm).me, .int .i64 ((l).tm).pr, .int .i64 ((l).tm).ppm, .int .i64 ((l).tm).stt, .int .i64 ((l).tm).ev, .int .i64 ((l).tm).ct, .int .i64 ((l).tm).ba, .int .i64 ((l).tm).mo, .int .i64 ((l).tm).pen, .int .i64 ((l).tm).fe, .string ((l).tm).cal, .string ((l).tm).cur, .slice da (l).ds.length dk, .slice ca (l).cs.length ck]), .int .i64 n, .int .i64 on] w fun e w' => e = .returned (.bool true) ∧ Below w.heap.size w w' := by
  have HH := Lib.hid h
  have HD := Lib.hid hd
  have HG := Lib.hid (great_any l da ca dk ck)
  have HGL := Lib.hid (great_len (l := l))
  clear h hd
  generalize greatB l = gb at *
  go_enter Try.func4, Try.ntmps4
  go_wp2_with (refine wpList_load_row rfl 27 _ rfl _ rfl _ _ _ _ (Bk.Blk.nw10) Try.underlying27 rfl (by kernel_rfl) ?_)
  have cw : Below w.heap.size w (w.alloc (.cells #[.int .i64 (l).id, .int .i64 (l).ac, .int .i64 (l).st, .int .i64 (l).pp, .int .i64 (l).pi, .int .i64 (l).fee, .int .i64 (l).pen, .int .i64 (l).chg, .int .i64 (l).prov, .int .i64 (l).loss, .int .i64 (l).rcv, .int .i64 ((l).tm).me, .int .i64 ((l).tm).pr, .int .i64 ((l).tm).ppm, .int .i64 ((l).tm).stt, .int .i64 ((l).tm).ev, .int .i64 ((l).tm).ct, .int .i64 ((l).tm).ba, .int .i64 ((l).tm).mo, .int .i64 ((l).tm).pen, .int .i64 ((l).tm).fe, .string ((l).tm).cal, .string ((l).tm).cur, .slice da (l).ds.length dk, .slice ca (l).cs.length ck] 27)) := (Below.refl _ _).alloc (Nat.le_refl _) _
  refine (HG.out _).mono ?_
  rintro e w1 ⟨rfl, hb⟩
  have k0 := Bk.Blk.later (g := w.heap.size) hb (Bk.Blk.nw10 (W := w) (cs := #[.int .i64 (l).id, .int .i64 (l).ac, .int .i64 (l).st, .int .i64 (l).pp, .int .i64 (l).pi, .int .i64 (l).fee, .int .i64 (l).pen, .int .i64 (l).chg, .int .i64 (l).prov, .int .i64 (l).loss, .int .i64 (l).rcv, .int .i64 ((l).tm).me, .int .i64 ((l).tm).pr, .int .i64 ((l).tm).ppm, .int .i64 ((l).tm).stt, .int .i64 ((l).tm).ev, .int .i64 ((l).tm).ct, .int .i64 ((l).tm).ba, .int .i64 ((l).tm).mo, .int .i64 ((l).tm).pen, .int .i64 ((l).tm).fe, .string ((l).tm).cal, .string ((l).tm).cur, .slice da (l).ds.length dk, .slice ca (l).cs.length ck]) (t := 27))
  have cw1 := bl2 hb cw
  clear hb cw HG
  cases gb
  · have hlen := HGL.out rfl
    have HLEN := Lib.hid (show l.ds.length ≤ 100000 ∧ l.cs.length ≤ 100000 from ⟨by omega, by omega⟩)
    clear hlen HGL
    have hl := HH.out.later cw1
    obtain ⟨A, hA⟩ : ∃ A, A = payA l n on := ⟨_, rfl⟩
    obtain ⟨E, hE⟩ : ∃ E, E = payE l n on := ⟨_, rfl⟩
    obtain ⟨ps, hP⟩ : ∃ ps, ps = payP l n on := ⟨_, rfl⟩
    have HP := Lib.hid (pay_at hA hE.symm hP.symm HLEN.out.1)
    have HRP := Lib.hid (rpay_at hA hE.symm hP.symm HD.out HLEN.out.1)
    have HAL := Lib.hid (show A.ds.length ≤ 100000 ∧ A.cs.length ≤ 100000 from ⟨by rw [hA]; exact payA_len HLEN.out.1, by rw [hA]; exact payA_clen HLEN.out.2⟩)
    have HPL := Lib.hid (show ps.length ≤ 100000 by rw [hP]; exact payP_len)
    clear hA hE hP
    go_wp2_with (refine wpList_load_row rfl 27 _ rfl _ rfl _ _ _ _ (k0) Try.underlying27 rfl (by kernel_rfl) ?_)
    refine (HP.out _ _ _ _ _ hl).mono ?_
    rintro e w2 ⟨pa1, pc1, da1, dk1, ca1, ck1, rfl, hp1, hl1, hb⟩
    replace k0 := k0.later hb
    replace hl := hl.later hb
    have cw2 := bl2 hb cw1
    clear hb cw1
    go_upto_region 4 with (refine wpList_store_row rfl 27 _ _ rfl _ _ rfl rfl _ _ Bk.Blk.nw10 (by kernel_rfl) rfl (one25 ..) ?_)
    have hbs : Below w2.heap.size w2 ((w2.alloc (.cells #[.int .i64 0, .int .i64 0, .int .i64 0, .int .i64 0, .int .i64 0, .int .i64 0, .int .i64 0, .int .i64 0, .int .i64 0, .int .i64 0, .int .i64 0, .int .i64 0, .int .i64 0, .int .i64 0, .int .i64 0, .int .i64 0, .int .i64 0, .int .i64 0, .int .i64 0, .int .i64 0, .int .i64 0, .string { data := #[] }, .string { data := #[] }, .slice none 0 0, .slice none 0 0] 27)).setRow w2.heap.size #[.int .i64 (A).id, .int .i64 (A).ac, .int .i64 (A).st, .int .i64 (A).pp, .int .i64 (A).pi, .int .i64 (A).fee, .int .i64 (A).pen, .int .i64 (A).chg, .int .i64 (A).prov, .int .i64 (A).loss, .int .i64 (A).rcv, .int .i64 ((A).tm).me, .int .i64 ((A).tm).pr, .int .i64 ((A).tm).ppm, .int .i64 ((A).tm).stt, .int .i64 ((A).tm).ev, .int .i64 ((A).tm).ct, .int .i64 ((A).tm).ba, .int .i64 ((A).tm).mo, .int .i64 ((A).tm).pen, .int .i64 ((A).tm).fe, .string ((A).tm).cal, .string ((A).tm).cur, .slice da1 (A).ds.length dk1, .slice ca1 (A).cs.length ck1]) := Below_setRow ((Below.refl _ _).alloc (Nat.le_refl _) _) (Nat.le_refl _) _
    have k1 : Bk.Blk ((w2.alloc (.cells #[.int .i64 0, .int .i64 0, .int .i64 0, .int .i64 0, .int .i64 0, .int .i64 0, .int .i64 0, .int .i64 0, .int .i64 0, .int .i64 0, .int .i64 0, .int .i64 0, .int .i64 0, .int .i64 0, .int .i64 0, .int .i64 0, .int .i64 0, .int .i64 0, .int .i64 0, .int .i64 0, .int .i64 0, .string { data := #[] }, .string { data := #[] }, .slice none 0 0, .slice none 0 0] 27)).setRow w2.heap.size #[.int .i64 (A).id, .int .i64 (A).ac, .int .i64 (A).st, .int .i64 (A).pp, .int .i64 (A).pi, .int .i64 (A).fee, .int .i64 (A).pen, .int .i64 (A).chg, .int .i64 (A).prov, .int .i64 (A).loss, .int .i64 (A).rcv, .int .i64 ((A).tm).me, .int .i64 ((A).tm).pr, .int .i64 ((A).tm).ppm, .int .i64 ((A).tm).stt, .int .i64 ((A).tm).ev, .int .i64 ((A).tm).ct, .int .i64 ((A).tm).ba, .int .i64 ((A).tm).mo, .int .i64 ((A).tm).pen, .int .i64 ((A).tm).fe, .string ((A).tm).cal, .string ((A).tm).cur, .slice da1 (A).ds.length dk1, .slice ca1 (A).cs.length ck1]) w2.heap.size #[.int .i64 (A).id, .int .i64 (A).ac, .int .i64 (A).st, .int .i64 (A).pp, .int .i64 (A).pi, .int .i64 (A).fee, .int .i64 (A).pen, .int .i64 (A).chg, .int .i64 (A).prov, .int .i64 (A).loss, .int .i64 (A).rcv, .int .i64 ((A).tm).me, .int .i64 ((A).tm).pr, .int .i64 ((A).tm).ppm, .int .i64 ((A).tm).stt, .int .i64 ((A).tm).ev, .int .i64 ((A).tm).ct, .int .i64 ((A).tm).ba, .int .i64 ((A).tm).mo, .int .i64 ((A).tm).pen, .int .i64 ((A).tm).fe, .string ((A).tm).cal, .string ((A).tm).cur, .slice da1 (A).ds.length dk1, .slice ca1 (A).cs.length ck1] 27 := Blk_setRow_same Bk.Blk.nw10
    replace k0 := k0.later hbs
    replace hl := hl.later hbs
    replace hp1 := hp1.later hbs
    replace hl1 := hl1.later hbs
    have cw3 := bl2 hbs cw2
    clear cw2 hbs
    generalize ((w2.alloc (.cells #[.int .i64 0, .int .i64 0, .int .i64 0, .int .i64 0, .int .i64 0, .int .i64 0, .int .i64 0, .int .i64 0, .int .i64 0, .int .i64 0, .int .i64 0, .int .i64 0, .int .i64 0, .int .i64 0, .int .i64 0, .int .i64 0, .int .i64 0, .int .i64 0, .int .i64 0, .int .i64 0, .int .i64 0, .string { data := #[] }, .string { data := #[] }, .slice none 0 0, .slice none 0 0] 27)).setRow w2.heap.size #[.int .i64 (A).id, .int .i64 (A).ac, .int .i64 (A).st, .int .i64 (A).pp, .int .i64 (A).pi, .int .i64 (A).fee, .int .i64 (A).pen, .int .i64 (A).chg, .int .i64 (A).prov, .int .i64 (A).loss, .int .i64 (A).rcv, .int .i64 ((A).tm).me, .int .i64 ((A).tm).pr, .int .i64 ((A).tm).ppm, .int .i64 ((A).tm).stt, .int .i64 ((A).tm).ev, .int .i64 ((A).tm).ct, .int .i64 ((A).tm).ba, .int .i64 ((A).tm).mo, .int .i64 ((A).tm).pen, .int .i64 ((A).tm).fe, .string ((A).tm).cal, .string ((A).tm).cur, .slice da1 (A).ds.length dk1, .slice ca1 (A).cs.length ck1]) = w3 at *
    generalize w2.heap.size = g1 at *
    go_wp2_with (refine wpList_load_row rfl 27 _ rfl _ rfl _ _ _ _ (k0) Try.underlying27 rfl (by kernel_rfl) ?_)
    refine (HRP.out _ _ _ _ _ hl).mono ?_
    rintro e w4 ⟨pa2, pc2, da2, dk2, ca2, ck2, rfl, hp2, hl2, hb⟩
    replace k0 := k0.later hb
    replace hl := hl.later hb
    replace hp1 := hp1.later hb
    replace hl1 := hl1.later hb
    replace k1 := k1.later hb
    have cw4 := bl2 hb cw3
    clear hb cw3
    go_upto_region 5 with (refine wpList_store_row rfl 27 _ _ rfl _ _ rfl rfl _ _ Bk.Blk.nw10 (by kernel_rfl) rfl (one25 ..) ?_)
    have hbs : Below w4.heap.size w4 ((w4.alloc (.cells #[.int .i64 0, .int .i64 0, .int .i64 0, .int .i64 0, .int .i64 0, .int .i64 0, .int .i64 0, .int .i64 0, .int .i64 0, .int .i64 0, .int .i64 0, .int .i64 0, .int .i64 0, .int .i64 0, .int .i64 0, .int .i64 0, .int .i64 0, .int .i64 0, .int .i64 0, .int .i64 0, .int .i64 0, .string { data := #[] }, .string { data := #[] }, .slice none 0 0, .slice none 0 0] 27)).setRow w4.heap.size #[.int .i64 (A).id, .int .i64 (A).ac, .int .i64 (A).st, .int .i64 (A).pp, .int .i64 (A).pi, .int .i64 (A).fee, .int .i64 (A).pen, .int .i64 (A).chg, .int .i64 (A).prov, .int .i64 (A).loss, .int .i64 (A).rcv, .int .i64 ((A).tm).me, .int .i64 ((A).tm).pr, .int .i64 ((A).tm).ppm, .int .i64 ((A).tm).stt, .int .i64 ((A).tm).ev, .int .i64 ((A).tm).ct, .int .i64 ((A).tm).ba, .int .i64 ((A).tm).mo, .int .i64 ((A).tm).pen, .int .i64 ((A).tm).fe, .string ((A).tm).cal, .string ((A).tm).cur, .slice da2 (A).ds.length dk2, .slice ca2 (A).cs.length ck2]) := Below_setRow ((Below.refl _ _).alloc (Nat.le_refl _) _) (Nat.le_refl _) _
    have k2 : Bk.Blk ((w4.alloc (.cells #[.int .i64 0, .int .i64 0, .int .i64 0, .int .i64 0, .int .i64 0, .int .i64 0, .int .i64 0, .int .i64 0, .int .i64 0, .int .i64 0, .int .i64 0, .int .i64 0, .int .i64 0, .int .i64 0, .int .i64 0, .int .i64 0, .int .i64 0, .int .i64 0, .int .i64 0, .int .i64 0, .int .i64 0, .string { data := #[] }, .string { data := #[] }, .slice none 0 0, .slice none 0 0] 27)).setRow w4.heap.size #[.int .i64 (A).id, .int .i64 (A).ac, .int .i64 (A).st, .int .i64 (A).pp, .int .i64 (A).pi, .int .i64 (A).fee, .int .i64 (A).pen, .int .i64 (A).chg, .int .i64 (A).prov, .int .i64 (A).loss, .int .i64 (A).rcv, .int .i64 ((A).tm).me, .int .i64 ((A).tm).pr, .int .i64 ((A).tm).ppm, .int .i64 ((A).tm).stt, .int .i64 ((A).tm).ev, .int .i64 ((A).tm).ct, .int .i64 ((A).tm).ba, .int .i64 ((A).tm).mo, .int .i64 ((A).tm).pen, .int .i64 ((A).tm).fe, .string ((A).tm).cal, .string ((A).tm).cur, .slice da2 (A).ds.length dk2, .slice ca2 (A).cs.length ck2]) w4.heap.size #[.int .i64 (A).id, .int .i64 (A).ac, .int .i64 (A).st, .int .i64 (A).pp, .int .i64 (A).pi, .int .i64 (A).fee, .int .i64 (A).pen, .int .i64 (A).chg, .int .i64 (A).prov, .int .i64 (A).loss, .int .i64 (A).rcv, .int .i64 ((A).tm).me, .int .i64 ((A).tm).pr, .int .i64 ((A).tm).ppm, .int .i64 ((A).tm).stt, .int .i64 ((A).tm).ev, .int .i64 ((A).tm).ct, .int .i64 ((A).tm).ba, .int .i64 ((A).tm).mo, .int .i64 ((A).tm).pen, .int .i64 ((A).tm).fe, .string ((A).tm).cal, .string ((A).tm).cur, .slice da2 (A).ds.length dk2, .slice ca2 (A).cs.length ck2] 27 := Blk_setRow_same Bk.Blk.nw10
    replace k0 := k0.later hbs
    replace hl := hl.later hbs
    replace hp1 := hp1.later hbs
    replace hl1 := hl1.later hbs
    replace k1 := k1.later hbs
    replace hp2 := hp2.later hbs
    replace hl2 := hl2.later hbs
    have cw5 := bl2 hbs cw4
    clear cw4 hbs
    generalize ((w4.alloc (.cells #[.int .i64 0, .int .i64 0, .int .i64 0, .int .i64 0, .int .i64 0, .int .i64 0, .int .i64 0, .int .i64 0, .int .i64 0, .int .i64 0, .int .i64 0, .int .i64 0, .int .i64 0, .int .i64 0, .int .i64 0, .int .i64 0, .int .i64 0, .int .i64 0, .int .i64 0, .int .i64 0, .int .i64 0, .string { data := #[] }, .string { data := #[] }, .slice none 0 0, .slice none 0 0] 27)).setRow w4.heap.size #[.int .i64 (A).id, .int .i64 (A).ac, .int .i64 (A).st, .int .i64 (A).pp, .int .i64 (A).pi, .int .i64 (A).fee, .int .i64 (A).pen, .int .i64 (A).chg, .int .i64 (A).prov, .int .i64 (A).loss, .int .i64 (A).rcv, .int .i64 ((A).tm).me, .int .i64 ((A).tm).pr, .int .i64 ((A).tm).ppm, .int .i64 ((A).tm).stt, .int .i64 ((A).tm).ev, .int .i64 ((A).tm).ct, .int .i64 ((A).tm).ba, .int .i64 ((A).tm).mo, .int .i64 ((A).tm).pen, .int .i64 ((A).tm).fe, .string ((A).tm).cal, .string ((A).tm).cur, .slice da2 (A).ds.length dk2, .slice ca2 (A).cs.length ck2]) = w5 at *
    generalize w4.heap.size = g2 at *
    have gE : (E == E) = true := beq_self_eq_true E
    go_wp2_with (first | (refine load_guarded 27 _ rfl rfl _ rfl _ _ _ _ (k1) Try.underlying27 rfl (by kernel_rfl) ?_) | (refine load_guarded 27 _ rfl rfl _ rfl _ _ _ _ (k2) Try.underlying27 rfl (by kernel_rfl) ?_))
    refine (same_any A da1 ca1 da2 ca2 dk1 ck1 dk2 ck2 _ hl1.d hl2.d hl1.c hl2.c HAL.out.1 HAL.out.2).mono ?_
    rintro e w6 ⟨rfl, hb⟩
    replace k0 := k0.later hb
    replace hl := hl.later hb
    replace hp1 := hp1.later hb
    replace hl1 := hl1.later hb
    replace k1 := k1.later hb
    replace hp2 := hp2.later hb
    replace hl2 := hl2.later hb
    replace k2 := k2.later hb
    have cw6 := bl2 hb cw5
    clear hb cw5
    go_wp2_with fail
    refine (sameparts_any pa1 pa2 pc1 pc2 ps _ hp1 hp2 HPL.out).mono ?_
    rintro e w7 ⟨rfl, hb⟩
    replace k0 := k0.later hb
    replace hl := hl.later hb
    replace hp1 := hp1.later hb
    replace hl1 := hl1.later hb
    replace k1 := k1.later hb
    replace hp2 := hp2.later hb
    replace hl2 := hl2.later hb
    replace k2 := k2.later hb
    have cw7 := bl2 hb cw6
    clear hb cw6
    go_wp2_with fail
    refine (live_any _).mono ?_
    rintro e w8 ⟨rfl, hb⟩
    replace k0 := k0.later hb
    replace hl := hl.later hb
    replace hp1 := hp1.later hb
    replace hl1 := hl1.later hb
    replace k1 := k1.later hb
    replace hp2 := hp2.later hb
    replace hl2 := hl2.later hb
    replace k2 := k2.later hb
    have cw8 := bl2 hb cw7
    clear hb cw7
    go_wp2_with fail
    go_ret
    exact ⟨rfl, cw8⟩
  · go_wp2_with fail
    go_ret
    exact ⟨rfl, cw1⟩
end Go.Proofs.Ytaibocobeibobaa.Ln
