/-
  LoanConserves: its walk.
-/
import Derived.Test.YtaibocobeibobaaLw1
import Derived.Test.YtaibocobeibobaaLw3
import Derived.Test.YtaibocobeibobaaLm3
namespace Go.Proofs.Ytaibocobeibobaa.Ln
open Go.RowKit
open Go.Proofs.Ytaibocobeibobaa
set_option linter.unusedSimpArgs false

/-- Where the first loop stands; where the second does. -/
def cvR (w0 : World) (ps : List Pa) (g : Nat) (s10 s11 : Value) (W : World) : Prop := ∃ k : Nat, k + g = ps.length ∧ s11 = .int .i64 k ∧ s10 = .int .i64 (sumT ps k) ∧ Below w0.heap.size w0 W
def cvK (W0 : World) (g : Nat) (s14 : Value) (W : World) : Prop := ∃ k : Int, 1 ≤ k ∧ k + g = 5 ∧ s14 = .int .i64 k ∧ W0 = W
set_option maxRecDepth 100000 in
set_option maxHeartbeats 16000000 in
theorem consv_walk (l : Lo) (da ca : Option Addr) (dk ck : Nat) (n on : Int) (_ : (Lit.int .i64 n).wf = true) (_ : (Lit.int .i64 on).wf = true) (w : World) (h : LoIn w l da ca) (_ : Dok l.ds) :
    Calls Try.prog 5 #[(.agg #[.int .i64 (l).id, .int .i64 (l).ac, .int .i64 (l).st, .int .i64 (l).pp, .int .i64 (l).pi, .int .i64 (l).fee, .int .i64 (l).pen, .int .i64 (l).chg, .int .i64 (l).prov, .int .i64 (l).loss, .int .i64 (l).rcv, .int .i64 ((l).tm).me, .int .i64 ((l).tm).pr, .int .i64 ((l).tm).ppm, .int .i64 ((l).tm).stt, .int .i64 ((l).tm).ev, .int .i64 ((l).tm).ct, .int .i64 ((l).tm).ba, .int .i64 ((l).tm).mo, .int .i64 ((l).tm).pen, .int .i64 ((l).tm).fe, .string ((l).tm).cal, .string ((l).tm).cur, .slice da (l).ds.length dk, .slice ca (l).cs.length ck]), .int .i64 n, .int .i64 on] w fun e w' => e = .returned (.bool true) ∧ Below w.heap.size w w' := by
  have HH := Lib.hid h
  have HG := Lib.hid (great_any l da ca dk ck)
  have HGL := Lib.hid (great_len (l := l))
  clear h
  generalize greatB l = gb at *
  go_enter Try.func5, Try.ntmps5
  go_wp2_with (refine wpList_load_row rfl 27 _ rfl _ rfl _ _ _ _ (Bk.Blk.nw10) Try.underlying27 rfl (by kernel_rfl) ?_)
  have cw : Below w.heap.size w (w.alloc (.cells #[.int .i64 (l).id, .int .i64 (l).ac, .int .i64 (l).st, .int .i64 (l).pp, .int .i64 (l).pi, .int .i64 (l).fee, .int .i64 (l).pen, .int .i64 (l).chg, .int .i64 (l).prov, .int .i64 (l).loss, .int .i64 (l).rcv, .int .i64 ((l).tm).me, .int .i64 ((l).tm).pr, .int .i64 ((l).tm).ppm, .int .i64 ((l).tm).stt, .int .i64 ((l).tm).ev, .int .i64 ((l).tm).ct, .int .i64 ((l).tm).ba, .int .i64 ((l).tm).mo, .int .i64 ((l).tm).pen, .int .i64 ((l).tm).fe, .string ((l).tm).cal, .string ((l).tm).cur, .slice da (l).ds.length dk, .slice ca (l).cs.length ck] 27)) := (Below.refl _ _).alloc (Nat.le_refl _) _
  refine (HG.out _).mono ?_
  rintro e w1 ⟨rfl, hb⟩
  have k0 := Bk.Blk.later (g := w.heap.size) hb (Bk.Blk.nw10 (W := w) (cs := #[.int .i64 (l).id, .int .i64 (l).ac, .int .i64 (l).st, .int .i64 (l).pp, .int .i64 (l).pi, .int .i64 (l).fee, .int .i64 (l).pen, .int .i64 (l).chg, .int .i64 (l).prov, .int .i64 (l).loss, .int .i64 (l).rcv, .int .i64 ((l).tm).me, .int .i64 ((l).tm).pr, .int .i64 ((l).tm).ppm, .int .i64 ((l).tm).stt, .int .i64 ((l).tm).ev, .int .i64 ((l).tm).ct, .int .i64 ((l).tm).ba, .int .i64 ((l).tm).mo, .int .i64 ((l).tm).pen, .int .i64 ((l).tm).fe, .string ((l).tm).cal, .string ((l).tm).cur, .slice da (l).ds.length dk, .slice ca (l).cs.length ck]) (t := 27))
  have cw1 := bl2 hb cw
  clear hb cw HG
  cases gb
  · have hlen := HGL.out rfl
    have HLEN := Lib.hid (show l.ds.length ≤ 100000 ∧ l.cs.length ≤ 100000 from ⟨by omega, by omega⟩)
    clear hlen HGL
    have hl := HH.out.later cw1
    obtain ⟨A, hA⟩ : ∃ A, A = payA l n on := ⟨_, rfl⟩
    obtain ⟨E, hE⟩ : ∃ E, E = payE l n on := ⟨_, rfl⟩
    obtain ⟨ps, hP⟩ : ∃ ps, ps = payP l n on := ⟨_, rfl⟩
    have HP := Lib.hid (pay_at hA hE.symm hP.symm HLEN.out.1)
    have HAL := Lib.hid (show A.ds.length ≤ 100000 ∧ A.cs.length ≤ 100000 from ⟨by rw [hA]; exact payA_len HLEN.out.1, by rw [hA]; exact payA_clen HLEN.out.2⟩)
    have HPL := Lib.hid (show ps.length ≤ 100000 by rw [hP]; exact payP_len)
    have HCV : Hid (E = 0 → Consv l n on A ps) := Lib.hid (fun e0 => by
      have he : payE l n on = 0 := by rw [← hE]; exact e0
      have q1 : A = payL l n on := by rw [hA]; exact if_pos he
      have q2 : ps = (payD l n on).pps := by rw [hP]; exact if_pos he
      rw [q1, q2]; exact consv he)
    have HPO := Lib.hid (show (powed l on).length ≤ 100000 ∧ (powed A on).length ≤ 100000 from ⟨Nat.le_trans (pparts_len _) (by simp), Nat.le_trans (pparts_len _) (by simp)⟩)
    have HNE : Hid (E ≠ 0 → ps = []) := Lib.hid (fun e0 => by rw [hP]; exact if_neg (by rw [← hE]; exact e0))
    clear hA hE hP
    go_wp2_with (refine wpList_load_row rfl 27 _ rfl _ rfl _ _ _ _ (k0) Try.underlying27 rfl (by kernel_rfl) ?_)
    refine (HP.out _ _ _ _ _ hl).mono ?_
    rintro e w2 ⟨pa1, pc1, da1, dk1, ca1, ck1, rfl, hp1, hl1, hb⟩
    replace k0 := k0.later hb
    replace hl := hl.later hb
    have cw2 := bl2 hb cw1
    clear hb cw1
    go_upto_region 4 with (refine wpList_store_row rfl 27 _ _ rfl _ _ rfl rfl _ _ Bk.Blk.nw10 (by kernel_rfl) rfl (one25 ..) ?_)
    have hbs : Below w2.heap.size w2 ((w2.alloc (.cells #[.int .i64 0, .int .i64 0, .int .i64 0, .int .i64 0, .int .i64 0, .int .i64 0, .int .i64 0, .int .i64 0, .int .i64 0, .int .i64 0, .int .i64 0, .int .i64 0, .int .i64 0, .int .i64 0, .int .i64 0, .int .i64 0, .int .i64 0, .int .i64 0, .int .i64 0, .int .i64 0, .int .i64 0, .string { data := #[] }, .string { data := #[] }, .slice none 0 0, .slice none 0 0] 27)).setRow w2.heap.size #[.int .i64 (A).id, .int .i64 (A).ac, .int .i64 (A).st, .int .i64 (A).pp, .int .i64 (A).pi, .int .i64 (A).fee, .int .i64 (A).pen, .int .i64 (A).chg, .int .i64 (A).prov, .int .i64 (A).loss, .int .i64 (A).rcv, .int .i64 ((A).tm).me, .int .i64 ((A).tm).pr, .int .i64 ((A).tm).ppm, .int .i64 ((A).tm).stt, .int .i64 ((A).tm).ev, .int .i64 ((A).tm).ct, .int .i64 ((A).tm).ba, .int .i64 ((A).tm).mo, .int .i64 ((A).tm).pen, .int .i64 ((A).tm).fe, .string ((A).tm).cal, .string ((A).tm).cur, .slice da1 (A).ds.length dk1, .slice ca1 (A).cs.length ck1]) := Below_setRow ((Below.refl _ _).alloc (Nat.le_refl _) _) (Nat.le_refl _) _
    have k1 : Bk.Blk ((w2.alloc (.cells #[.int .i64 0, .int .i64 0, .int .i64 0, .int .i64 0, .int .i64 0, .int .i64 0, .int .i64 0, .int .i64 0, .int .i64 0, .int .i64 0, .int .i64 0, .int .i64 0, .int .i64 0, .int .i64 0, .int .i64 0, .int .i64 0, .int .i64 0, .int .i64 0, .int .i64 0, .int .i64 0, .int .i64 0, .string { data := #[] }, .string { data := #[] }, .slice none 0 0, .slice none 0 0] 27)).setRow w2.heap.size #[.int .i64 (A).id, .int .i64 (A).ac, .int .i64 (A).st, .int .i64 (A).pp, .int .i64 (A).pi, .int .i64 (A).fee, .int .i64 (A).pen, .int .i64 (A).chg, .int .i64 (A).prov, .int .i64 (A).loss, .int .i64 (A).rcv, .int .i64 ((A).tm).me, .int .i64 ((A).tm).pr, .int .i64 ((A).tm).ppm, .int .i64 ((A).tm).stt, .int .i64 ((A).tm).ev, .int .i64 ((A).tm).ct, .int .i64 ((A).tm).ba, .int .i64 ((A).tm).mo, .int .i64 ((A).tm).pen, .int .i64 ((A).tm).fe, .string ((A).tm).cal, .string ((A).tm).cur, .slice da1 (A).ds.length dk1, .slice ca1 (A).cs.length ck1]) w2.heap.size #[.int .i64 (A).id, .int .i64 (A).ac, .int .i64 (A).st, .int .i64 (A).pp, .int .i64 (A).pi, .int .i64 (A).fee, .int .i64 (A).pen, .int .i64 (A).chg, .int .i64 (A).prov, .int .i64 (A).loss, .int .i64 (A).rcv, .int .i64 ((A).tm).me, .int .i64 ((A).tm).pr, .int .i64 ((A).tm).ppm, .int .i64 ((A).tm).stt, .int .i64 ((A).tm).ev, .int .i64 ((A).tm).ct, .int .i64 ((A).tm).ba, .int .i64 ((A).tm).mo, .int .i64 ((A).tm).pen, .int .i64 ((A).tm).fe, .string ((A).tm).cal, .string ((A).tm).cur, .slice da1 (A).ds.length dk1, .slice ca1 (A).cs.length ck1] 27 := Blk_setRow_same Bk.Blk.nw10
    replace k0 := k0.later hbs
    replace hl := hl.later hbs
    replace hp1 := hp1.later hbs
    replace hl1 := hl1.later hbs
    have cw3 := bl2 hbs cw2
    clear cw2 hbs
    generalize ((w2.alloc (.cells #[.int .i64 0, .int .i64 0, .int .i64 0, .int .i64 0, .int .i64 0, .int .i64 0, .int .i64 0, .int .i64 0, .int .i64 0, .int .i64 0, .int .i64 0, .int .i64 0, .int .i64 0, .int .i64 0, .int .i64 0, .int .i64 0, .int .i64 0, .int .i64 0, .int .i64 0, .int .i64 0, .int .i64 0, .string { data := #[] }, .string { data := #[] }, .slice none 0 0, .slice none 0 0] 27)).setRow w2.heap.size #[.int .i64 (A).id, .int .i64 (A).ac, .int .i64 (A).st, .int .i64 (A).pp, .int .i64 (A).pi, .int .i64 (A).fee, .int .i64 (A).pen, .int .i64 (A).chg, .int .i64 (A).prov, .int .i64 (A).loss, .int .i64 (A).rcv, .int .i64 ((A).tm).me, .int .i64 ((A).tm).pr, .int .i64 ((A).tm).ppm, .int .i64 ((A).tm).stt, .int .i64 ((A).tm).ev, .int .i64 ((A).tm).ct, .int .i64 ((A).tm).ba, .int .i64 ((A).tm).mo, .int .i64 ((A).tm).pen, .int .i64 ((A).tm).fe, .string ((A).tm).cal, .string ((A).tm).cur, .slice da1 (A).ds.length dk1, .slice ca1 (A).cs.length ck1]) = w3 at *
    generalize w2.heap.size = g1 at *
    by_cases hE0 : E = 0
    · have gE : (E != 0) = false := by rw [hE0]; rfl
      have HC := Lib.hid (HCV.out hE0)
      clear hE0 HNE HCV HP
      go_wp2_with fail
      clear gE
      go_loopg [10, 11] ps.length (cvR w3 ps)
      case atStart => exact ⟨0, by omega, rfl, by rw [sumT_zero], Below.refl _ _⟩
      case round =>
        obtain ⟨k, hk, rfl, rfl, hbr⟩ := hrel
        have hs := HC.out.bd k
        have hpl := HPL.out
        by_cases hlt : k < ps.length
        · have he := HC.out.each k hlt
          have hs2 := HC.out.bd (k + 1)
          have hkd := HC.out.kind k
          have HS := Lib.hid (sumT_succ hlt)
          obtain ⟨b, off, rfl, hc⟩ := hp1.parts (by omega)
          obtain ⟨c0, c1⟩ := hc k hlt
          have i1 : (0 : Int) ≤ (k : Int) := by omega
          have i2 : (k : Int) < (ps.length : Int) := by omega
          have HCC := Lib.hid hc
          clear hc
          replace c0 := cell_later hbr c0
          replace c1 := cell_later hbr c1
          generalize hx : ps[k]! = x at *
          clear hx
          have HKD := Lib.hid hkd
          have HS2 := Lib.hid hs2
          clear hkd hs2
          generalize sumT ps k = s at *
          have bq1 : decide (x.am < 1) = false := decide_eq_false (by omega)
          have bq2 : decide (x.kd < 1) = false := decide_eq_false (by omega)
          have bq3 : decide (5 < x.kd) = false := decide_eq_false (by omega)
          by_cases h0 : 0 < k
          · obtain ⟨j, rfl⟩ : ∃ j, k = j + 1 := ⟨k - 1, by omega⟩
            have bq0 : decide ((0 : Int) < ((j + 1 : Nat) : Int)) = true := decide_eq_true (by omega)
            have hyx := HKD.out h0 hlt
            have d0 := cell_later hbr (HCC.out j (by omega)).1
            rw [show j + 1 - 1 = j by omega] at hyx
            generalize ps[j]! = y at *
            have bq4 : decide (x.kd ≤ y.kd) = false := decide_eq_false (by omega)
            have HQ2 := Lib.hid (fun (W' : World) (hW : Reg.Cls wr W') => Reg.Cls.cell hW d0)
            have j1 : (0 : Int) ≤ (j : Int) := by omega
            have j2 : (j : Int) < (ps.length : Int) := by omega
            have HQ0 := Lib.hid (fun (W' : World) (hW : Reg.Cls wr W') => Reg.Cls.cell hW c0)
            have HQ1 := Lib.hid (fun (W' : World) (hW : Reg.Cls wr W') => Reg.Cls.cell hW c1)
            have wj : IntKind.i64.wrap (j : Int) = (j : Int) := by rw [IntKind.wrap_i64]; have := HPL.out; omega
            clear c0 c1 d0 hyx
            go_wp2_with fail
            refine Reg.region_quiet (by kernel_rfl) (by kernel_rfl) ?_
            iterate 40 (first | go_big_quiet_skip | (go_big_quiet_want; (first | (go_big_quiet_op; go_big_quiet_on) | (apply Reg.quiet_run; (intro W hW; have a0 := HQ0.out W hW; have a1 := HQ1.out W hW; have a2 := HQ2.out W hW; go_simp; (first | done | rfl | exact ⟨rfl, rfl⟩ )); (simp only [Act.put, List.setIfInBounds_toArray, List.set_cons_zero, List.set_cons_succ]; go_big_quiet_on)) | (apply Reg.quiet_call; (intro W hW; go_simp; (first | done | rfl | exact ⟨rfl, rfl⟩)); (intro W hW; (first | fail)); (simp only [Act.put, List.setIfInBounds_toArray, List.set_cons_zero, List.set_cons_succ]; go_big_quiet_on)))))
            refine wpQuiet_nil ?_
            intro w5 hW
            have b5 := bl2 hW hbr
            have e1 := HQ1.out w5 hW
            clear hbr hW HQ0 HQ1
            go_wp2_with fail
            go_roundg (gk - 1)
            case measure => omega
            case rel => exact ⟨j + 1 + 1, by omega, by go_num, by rw [HS.out], b5⟩
          · obtain rfl : k = 0 := by omega
            have bq0 : decide ((0 : Int) < ((0 : Nat) : Int)) = false := by decide
            simp only [Nat.zero_mul, Nat.add_zero] at c0 c1
            have HQ0 := Lib.hid (fun (W' : World) (hW : Reg.Cls wr W') => Reg.Cls.cell hW c0)
            have HQ1 := Lib.hid (fun (W' : World) (hW : Reg.Cls wr W') => Reg.Cls.cell hW c1)
            clear c0 c1
            go_wp2_with fail
            refine Reg.region_quiet (by kernel_rfl) (by kernel_rfl) ?_
            iterate 40 (first | go_big_quiet_skip | (go_big_quiet_want; (first | (go_big_quiet_op; go_big_quiet_on) | (apply Reg.quiet_run; (intro W hW; have a0 := HQ0.out W hW; have a1 := HQ1.out W hW; go_simp; (first | done | rfl | exact ⟨rfl, rfl⟩ )); (simp only [Act.put, List.setIfInBounds_toArray, List.set_cons_zero, List.set_cons_succ]; go_big_quiet_on)) | (apply Reg.quiet_call; (intro W hW; go_simp; (first | done | rfl | exact ⟨rfl, rfl⟩)); (intro W hW; (first | fail)); (simp only [Act.put, List.setIfInBounds_toArray, List.set_cons_zero, List.set_cons_succ]; go_big_quiet_on)))))
            refine wpQuiet_nil ?_
            intro w5 hW
            have b5 := bl2 hW hbr
            have e1 := HQ1.out w5 hW
            clear hbr hW HQ0 HQ1
            go_wp2_with fail
            go_roundg (gk - 1)
            case measure => omega
            case rel => exact ⟨0 + 1, by omega, by go_num, by rw [HS.out], b5⟩
        · obtain rfl : k = ps.length := by omega
          have HALL := Lib.hid (HC.out.all)
          rw [HALL.out]
          clear hs hlt hk
          have hl3 := hl.later hbr
          have hl4 := hl1.later hbr
          have hp4 := hp1.later hbr
          have k3 := k0.later hbr
          have k4 := k1.later hbr
          have cwr := bl2 hbr cw3
          clear hl hl1 hp1 k0 k1 hbr cw3
          go_upto_region 13 with fail
          have hS0 : SQ2 wr w.heap.size #[.int .i64 (l).id, .int .i64 (l).ac, .int .i64 (l).st, .int .i64 (l).pp, .int .i64 (l).pi, .int .i64 (l).fee, .int .i64 (l).pen, .int .i64 (l).chg, .int .i64 (l).prov, .int .i64 (l).loss, .int .i64 (l).rcv, .int .i64 ((l).tm).me, .int .i64 ((l).tm).pr, .int .i64 ((l).tm).ppm, .int .i64 ((l).tm).stt, .int .i64 ((l).tm).ev, .int .i64 ((l).tm).ct, .int .i64 ((l).tm).ba, .int .i64 ((l).tm).mo, .int .i64 ((l).tm).pen, .int .i64 ((l).tm).fe, .string ((l).tm).cal, .string ((l).tm).cur, .slice da (l).ds.length dk, .slice ca (l).cs.length ck] g1 #[.int .i64 (A).id, .int .i64 (A).ac, .int .i64 (A).st, .int .i64 (A).pp, .int .i64 (A).pi, .int .i64 (A).fee, .int .i64 (A).pen, .int .i64 (A).chg, .int .i64 (A).prov, .int .i64 (A).loss, .int .i64 (A).rcv, .int .i64 ((A).tm).me, .int .i64 ((A).tm).pr, .int .i64 ((A).tm).ppm, .int .i64 ((A).tm).stt, .int .i64 ((A).tm).ev, .int .i64 ((A).tm).ct, .int .i64 ((A).tm).ba, .int .i64 ((A).tm).mo, .int .i64 ((A).tm).pen, .int .i64 ((A).tm).fe, .string ((A).tm).cal, .string ((A).tm).cur, .slice da1 (A).ds.length dk1, .slice ca1 (A).cs.length ck1] 27 wr.drew := ⟨⟨k3.drew, k4.drew⟩, (Below.refl _ _).drew⟩
          refine wp_region_held_drew (S := SQ2 wr w.heap.size #[.int .i64 (l).id, .int .i64 (l).ac, .int .i64 (l).st, .int .i64 (l).pp, .int .i64 (l).pi, .int .i64 (l).fee, .int .i64 (l).pen, .int .i64 (l).chg, .int .i64 (l).prov, .int .i64 (l).loss, .int .i64 (l).rcv, .int .i64 ((l).tm).me, .int .i64 ((l).tm).pr, .int .i64 ((l).tm).ppm, .int .i64 ((l).tm).stt, .int .i64 ((l).tm).ev, .int .i64 ((l).tm).ct, .int .i64 ((l).tm).ba, .int .i64 ((l).tm).mo, .int .i64 ((l).tm).pen, .int .i64 ((l).tm).fe, .string ((l).tm).cal, .string ((l).tm).cur, .slice da (l).ds.length dk, .slice ca (l).cs.length ck] g1 #[.int .i64 (A).id, .int .i64 (A).ac, .int .i64 (A).st, .int .i64 (A).pp, .int .i64 (A).pi, .int .i64 (A).fee, .int .i64 (A).pen, .int .i64 (A).chg, .int .i64 (A).prov, .int .i64 (A).loss, .int .i64 (A).rcv, .int .i64 ((A).tm).me, .int .i64 ((A).tm).pr, .int .i64 ((A).tm).ppm, .int .i64 ((A).tm).stt, .int .i64 ((A).tm).ev, .int .i64 ((A).tm).ct, .int .i64 ((A).tm).ba, .int .i64 ((A).tm).mo, .int .i64 ((A).tm).pen, .int .i64 ((A).tm).fe, .string ((A).tm).cal, .string ((A).tm).cur, .slice da1 (A).ds.length dk1, .slice ca1 (A).cs.length ck1] 27) (by kernel_rfl) hS0 (fun hS => ?_)
          clear hS0
          refine take_at 0 (by decide) (by kernel_rfl) (by kernel_rfl) (by kernel_rfl) (fun _ _ _ h => h) hS (yields_load_row (by rfl) 27 (.tmp 3) rfl w.heap.size rfl _ _ _ _ (fun W hW => hW.1.1) Try.underlying27 rfl (by kernel_rfl)) ?_
          simp only [List.getElem_cons_zero, List.getElem_cons_succ, Act.put, List.setIfInBounds_toArray, List.set_cons_zero, List.set_cons_succ]
          refine take_at 1 (by decide) (v := ?_) (by kernel_rfl) (by kernel_rfl) (by kernel_rfl) (fun _ _ _ h => h) hS (Or.inl ⟨by rfl, ?_⟩) ?_
          rotate_left
          · intro W hW
            skip
            clear hW
            simp only [List.getElem_cons_zero, List.getElem_cons_succ]
            go_simp
            first | done | with_reducible rfl
          simp only [List.getElem_cons_zero, List.getElem_cons_succ, Act.put, List.setIfInBounds_toArray, List.set_cons_zero, List.set_cons_succ]
          refine take_at 3 (by decide) (by kernel_rfl) (by kernel_rfl) (by kernel_rfl) (fun _ _ _ h => h) hS (yields_load_row (by rfl) 27 (.tmp 7) rfl g1 rfl _ _ _ _ (fun W hW => hW.1.2) Try.underlying27 rfl (by kernel_rfl)) ?_
          simp only [List.getElem_cons_zero, List.getElem_cons_succ, Act.put, List.setIfInBounds_toArray, List.set_cons_zero, List.set_cons_succ]
          refine take_at 4 (by decide) (v := ?_) (by kernel_rfl) (by kernel_rfl) (by kernel_rfl) (fun _ _ _ h => h) hS (Or.inl ⟨by rfl, ?_⟩) ?_
          rotate_left
          · intro W hW
            skip
            clear hW
            simp only [List.getElem_cons_zero, List.getElem_cons_succ]
            go_simp
            first | done | with_reducible rfl
          simp only [List.getElem_cons_zero, List.getElem_cons_succ, Act.put, List.setIfInBounds_toArray, List.set_cons_zero, List.set_cons_succ]
          refine call_at 2 (by decide) (Pi := PartsV (powed l on)) (by kernel_rfl) (by rfl) (by simp only [List.getElem_cons_zero, List.getElem_cons_succ]; go_simp; first | done | rfl | exact ⟨rfl, rfl⟩) (call_pv SQ2.mono hS (owed_pv HLEN.out.1 da ca dk ck _ (hl3.later hS.2))) ?_
          clear hS
          rintro w5 u hS hu
          simp only [List.getElem_cons_zero, List.getElem_cons_succ, Act.put, List.setIfInBounds_toArray, List.set_cons_zero, List.set_cons_succ]
          refine call_at 5 (by decide) (Pi := fun v w' => PartsV (powed A on) v w' ∧ PartsV (powed l on) u w') (by kernel_rfl) (by rfl) (by simp only [List.getElem_cons_zero, List.getElem_cons_succ]; go_simp; first | done | rfl | exact ⟨rfl, rfl⟩) (call_pk SQ2.mono PartsV.mono hS hu (owed_pv HAL.out.1 da1 ca1 dk1 ck1 _ (hl4.later hS.2))) ?_
          clear hS hu
          rintro w6 u2 hS ⟨⟨x2, y2, rfl, r2⟩, ⟨x1, y1, rfl, r1⟩⟩
          simp only [List.getElem_cons_zero, List.getElem_cons_succ, Act.put, List.setIfInBounds_toArray, List.set_cons_zero, List.set_cons_succ]
          refine take_at 6 (by decide) (v := ?_) (by kernel_rfl) (by kernel_rfl) (by kernel_rfl) (fun _ _ _ h => h) hS (Or.inl ⟨by rfl, ?_⟩) ?_
          rotate_left
          · intro W hW
            skip
            clear hW
            simp only [List.getElem_cons_zero, List.getElem_cons_succ]
            go_simp
            first | done | with_reducible rfl
          simp only [List.getElem_cons_zero, List.getElem_cons_succ, Act.put, List.setIfInBounds_toArray, List.set_cons_zero, List.set_cons_succ]
          refine take_at 7 (by decide) (v := ?_) (by kernel_rfl) (by kernel_rfl) (by kernel_rfl) (fun _ _ _ h => h) hS (Or.inl ⟨by rfl, ?_⟩) ?_
          rotate_left
          · intro W hW
            skip
            clear hW
            simp only [List.getElem_cons_zero, List.getElem_cons_succ]
            go_simp
            first | done | with_reducible rfl
          simp only [List.getElem_cons_zero, List.getElem_cons_succ, Act.put, List.setIfInBounds_toArray, List.set_cons_zero, List.set_cons_succ]
          refine wpAnyH_done (by kernel_rfl) ?_ _
          have b6 := hS.2
          have k5 := hS.1.1
          have k6 := hS.1.2
          have hp5 := hp4.later b6
          have hl5 := hl3.later b6
          have hl6 := hl4.later b6
          have cw6 := bl2 b6 cwr
          clear hS b6 hp4 hl3 hl4 cwr k3 k4
          go_wp2_with fail
          go_loopg [14] 4 (cvK w6)
          case atStart => exact ⟨1, by omega, by omega, rfl, rfl⟩
          case round =>
            obtain ⟨k, k1, hk, rfl, rfl⟩ := hrel
            by_cases hlt : k ≤ 4
            · obtain ⟨t1, u0, u1, v0, v1⟩ := HC.out.falls k k1 hlt
              have c1 := of_any x1 y1 (powed l on) k w6 r1 HPO.out.1
              have c2 := of_any pa1 pc1 ps k w6 hp5 HPL.out
              have c3 := of_any x2 y2 (powed A on) k w6 r2 HPO.out.2
              rw [← t1] at c3
              clear t1
              generalize ofK (powed l on) k = u at *
              generalize ofK ps k = v at *
              have C1 := Lib.hid c1
              have C2 := Lib.hid c2
              have C3 := Lib.hid c3
              clear c1 c2 c3
              have gN : (u - v != u - v) = false := by simp
              go_wp2_with fail
              refine C1.out.mono ?_
              rintro e w' ⟨rfl, rfl⟩
              go_wp2_with fail
              refine C2.out.mono ?_
              rintro e w' ⟨rfl, rfl⟩
              go_wp2_with fail
              refine C3.out.mono ?_
              rintro e w' ⟨rfl, rfl⟩
              go_wp2_with fail
              go_roundg (gk - 1)
              case measure => omega
              case rel => exact ⟨k + 1, by omega, by omega, rfl, rfl⟩
            · have C5 := Lib.hid (of_any pa1 pc1 ps 5 w6 hp5 HPL.out)
              have hr5 := HC.out.r5
              have HRS := Lib.hid HC.out.rest
              have CS := HC.out.out
              have C4 := Lib.hid (fun (W : World) (hW : Below w6.heap.size w6 W) => CS.1 ▸ of_any pa1 pc1 ps 4 W (hp5.later hW) HPL.out)
              have HOB := Lib.hid CS.2
              have CO := Lib.hid (fun (W : World) (hW : Below w6.heap.size w6 W) => out_any l da ca dk ck W (dues_of_row (by have := HLEN.out.1; omega) (hl5.later hW).d))
              have CA := Lib.hid (fun (W : World) (hW : Below w6.heap.size w6 W) => out_any A da1 ca1 dk1 ck1 W (dues_of_row (by have := HAL.out.1; omega) (hl6.later hW).d))
              have CK := Lib.hid (fun (W : World) (hW : Below w6.heap.size w6 W) => check_at HC.out.ok HAL.out.1 da1 ca1 dk1 ck1 W (hl6.later hW))
              have CD : Hid (∀ (W : World), Below w6.heap.size w6 W → Calls Try.prog 20 #[.slice da1 A.ds.length dk1, .slice da l.ds.length dk] W fun e w' => e = .returned (.bool true) ∧ Below W.heap.size W w') := Lib.hid (fun W hW => by
                have h2 := (hl6.later hW).d
                rw [HC.out.ds] at h2 ⊢
                exact samedues_any da1 da dk1 dk l.ds W h2 (hl5.later hW).d HLEN.out.1)
              have qid : (A.id == l.id) = true := by rw [HC.out.id]; exact beq_self_eq_true _
              have qch : (A.chg == l.chg) = true := by rw [HC.out.chg]; exact beq_self_eq_true _
              have HNIL := Lib.hid HC.out.rest
              clear CS HC
              generalize wrap64 (P l.ds - l.pp) = ou at *
              generalize wrap64 (P A.ds - A.pp) = oa at *
              generalize ofK ps 5 = v5 at *
              have qn : (n == n) = true := beq_self_eq_true n
              have qo : (ou - oa == ou - oa) = true := beq_self_eq_true _
              have qw : IntKind.i64.wrap (ou - oa) = ou - oa := by rw [IntKind.wrap_i64]; have := HOB.out; omega
              by_cases h5 : 0 < v5
              · have hl0 : (powed A on).length = 0 := by rw [HNIL.out h5]; rfl
                go_wp2_with fail
                refine C5.out.mono ?_
                rintro e w' ⟨rfl, rfl⟩
                go_upto_region 21 with fail
                clear h5
                have hS0 : SQ2 w6 w.heap.size #[.int .i64 (l).id, .int .i64 (l).ac, .int .i64 (l).st, .int .i64 (l).pp, .int .i64 (l).pi, .int .i64 (l).fee, .int .i64 (l).pen, .int .i64 (l).chg, .int .i64 (l).prov, .int .i64 (l).loss, .int .i64 (l).rcv, .int .i64 ((l).tm).me, .int .i64 ((l).tm).pr, .int .i64 ((l).tm).ppm, .int .i64 ((l).tm).stt, .int .i64 ((l).tm).ev, .int .i64 ((l).tm).ct, .int .i64 ((l).tm).ba, .int .i64 ((l).tm).mo, .int .i64 ((l).tm).pen, .int .i64 ((l).tm).fe, .string ((l).tm).cal, .string ((l).tm).cur, .slice da (l).ds.length dk, .slice ca (l).cs.length ck] g1 #[.int .i64 (A).id, .int .i64 (A).ac, .int .i64 (A).st, .int .i64 (A).pp, .int .i64 (A).pi, .int .i64 (A).fee, .int .i64 (A).pen, .int .i64 (A).chg, .int .i64 (A).prov, .int .i64 (A).loss, .int .i64 (A).rcv, .int .i64 ((A).tm).me, .int .i64 ((A).tm).pr, .int .i64 ((A).tm).ppm, .int .i64 ((A).tm).stt, .int .i64 ((A).tm).ev, .int .i64 ((A).tm).ct, .int .i64 ((A).tm).ba, .int .i64 ((A).tm).mo, .int .i64 ((A).tm).pen, .int .i64 ((A).tm).fe, .string ((A).tm).cal, .string ((A).tm).cur, .slice da1 (A).ds.length dk1, .slice ca1 (A).cs.length ck1] 27 w6.drew := ⟨⟨k5.drew, k6.drew⟩, (Below.refl _ _).drew⟩
                refine wp_region_held_drew (S := SQ2 w6 w.heap.size #[.int .i64 (l).id, .int .i64 (l).ac, .int .i64 (l).st, .int .i64 (l).pp, .int .i64 (l).pi, .int .i64 (l).fee, .int .i64 (l).pen, .int .i64 (l).chg, .int .i64 (l).prov, .int .i64 (l).loss, .int .i64 (l).rcv, .int .i64 ((l).tm).me, .int .i64 ((l).tm).pr, .int .i64 ((l).tm).ppm, .int .i64 ((l).tm).stt, .int .i64 ((l).tm).ev, .int .i64 ((l).tm).ct, .int .i64 ((l).tm).ba, .int .i64 ((l).tm).mo, .int .i64 ((l).tm).pen, .int .i64 ((l).tm).fe, .string ((l).tm).cal, .string ((l).tm).cur, .slice da (l).ds.length dk, .slice ca (l).cs.length ck] g1 #[.int .i64 (A).id, .int .i64 (A).ac, .int .i64 (A).st, .int .i64 (A).pp, .int .i64 (A).pi, .int .i64 (A).fee, .int .i64 (A).pen, .int .i64 (A).chg, .int .i64 (A).prov, .int .i64 (A).loss, .int .i64 (A).rcv, .int .i64 ((A).tm).me, .int .i64 ((A).tm).pr, .int .i64 ((A).tm).ppm, .int .i64 ((A).tm).stt, .int .i64 ((A).tm).ev, .int .i64 ((A).tm).ct, .int .i64 ((A).tm).ba, .int .i64 ((A).tm).mo, .int .i64 ((A).tm).pen, .int .i64 ((A).tm).fe, .string ((A).tm).cal, .string ((A).tm).cur, .slice da1 (A).ds.length dk1, .slice ca1 (A).cs.length ck1] 27) (by kernel_rfl) hS0 (fun hS => ?_)
                clear hS0
                refine take_at 0 (by decide) (v := ?_) (by kernel_rfl) (by kernel_rfl) (by kernel_rfl) (fun _ _ _ h => h) hS (Or.inl ⟨by rfl, ?_⟩) ?_
                rotate_left
                · intro W hW
                  skip
                  clear hW
                  simp only [List.getElem_cons_zero, List.getElem_cons_succ]
                  go_simp
                  first | done | with_reducible rfl
                simp only [List.getElem_cons_zero, List.getElem_cons_succ, Act.put, List.setIfInBounds_toArray, List.set_cons_zero, List.set_cons_succ]
                refine take_at 1 (by decide) (v := ?_) (by kernel_rfl) (by kernel_rfl) (by kernel_rfl) (fun _ _ _ h => h) hS (Or.inl ⟨by rfl, ?_⟩) ?_
                rotate_left
                · intro W hW
                  skip
                  clear hW
                  simp only [List.getElem_cons_zero, List.getElem_cons_succ]
                  go_simp
                  first | done | with_reducible rfl
                simp only [List.getElem_cons_zero, List.getElem_cons_succ, Act.put, List.setIfInBounds_toArray, List.set_cons_zero, List.set_cons_succ]
                refine take_at 2 (by decide) (v := ?_) (by kernel_rfl) (by kernel_rfl) (by kernel_rfl) (fun _ _ _ h => h) hS (Or.inl ⟨by rfl, ?_⟩) ?_
                rotate_left
                · intro W hW
                  skip
                  clear hW
                  simp only [List.getElem_cons_zero, List.getElem_cons_succ]
                  go_simp
                  first | done | with_reducible rfl
                simp only [List.getElem_cons_zero, List.getElem_cons_succ, Act.put, List.setIfInBounds_toArray, List.set_cons_zero, List.set_cons_succ]
                refine take_at 3 (by decide) (v := ?_) (by kernel_rfl) (by kernel_rfl) (by kernel_rfl) (fun _ _ _ h => h) hS (Or.inl ⟨by rfl, ?_⟩) ?_
                rotate_left
                · intro W hW
                  skip
                  clear hW
                  simp only [List.getElem_cons_zero, List.getElem_cons_succ]
                  go_simp
                  first | done | with_reducible rfl
                simp only [List.getElem_cons_zero, List.getElem_cons_succ, Act.put, List.setIfInBounds_toArray, List.set_cons_zero, List.set_cons_succ]
                refine take_at 4 (by decide) (by kernel_rfl) (by kernel_rfl) (by kernel_rfl) (fun _ _ _ h => h) hS (yields_load_row (by rfl) 27 (.tmp 3) rfl w.heap.size rfl _ _ _ _ (fun W hW => hW.1.1) Try.underlying27 rfl (by kernel_rfl)) ?_
                simp only [List.getElem_cons_zero, List.getElem_cons_succ, Act.put, List.setIfInBounds_toArray, List.set_cons_zero, List.set_cons_succ]
                refine take_at 6 (by decide) (by kernel_rfl) (by kernel_rfl) (by kernel_rfl) (fun _ _ _ h => h) hS (yields_load_row (by rfl) 27 (.tmp 7) rfl g1 rfl _ _ _ _ (fun W hW => hW.1.2) Try.underlying27 rfl (by kernel_rfl)) ?_
                simp only [List.getElem_cons_zero, List.getElem_cons_succ, Act.put, List.setIfInBounds_toArray, List.set_cons_zero, List.set_cons_succ]
                refine take_at 9 (by decide) (v := ?_) (by kernel_rfl) (by kernel_rfl) (by kernel_rfl) (fun _ _ _ h => h) hS (Or.inl ⟨by rfl, ?_⟩) ?_
                rotate_left
                · intro W hW
                  skip
                  clear hW
                  simp only [List.getElem_cons_zero, List.getElem_cons_succ]
                  go_simp
                  first | done | with_reducible rfl
                simp only [List.getElem_cons_zero, List.getElem_cons_succ, Act.put, List.setIfInBounds_toArray, List.set_cons_zero, List.set_cons_succ]
                refine call_at 5 (by decide) (Pi := (fun v _ => v = .int .i64 ou)) (by kernel_rfl) (by rfl) (by simp only [List.getElem_cons_zero, List.getElem_cons_succ]; go_simp; first | done | rfl | exact ⟨rfl, rfl⟩) (call_one SQ2.mono hS (CO.out _ hS.2)) ?_
                clear hS
                rintro v1 u hS rfl
                simp only [List.getElem_cons_zero, List.getElem_cons_succ, Act.put, List.setIfInBounds_toArray, List.set_cons_zero, List.set_cons_succ]
                refine call_at 7 (by decide) (Pi := (fun v _ => v = .int .i64 oa)) (by kernel_rfl) (by rfl) (by simp only [List.getElem_cons_zero, List.getElem_cons_succ]; go_simp; first | done | rfl | exact ⟨rfl, rfl⟩) (call_one SQ2.mono hS (CA.out _ hS.2)) ?_
                clear hS
                rintro v2 u hS rfl
                simp only [List.getElem_cons_zero, List.getElem_cons_succ, Act.put, List.setIfInBounds_toArray, List.set_cons_zero, List.set_cons_succ]
                refine take_at 8 (by decide) (v := ?_) (by kernel_rfl) (by kernel_rfl) (by kernel_rfl) (fun _ _ _ h => h) hS (Or.inl ⟨by rfl, ?_⟩) ?_
                rotate_left
                · intro W hW
                  skip
                  clear hW
                  simp only [List.getElem_cons_zero, List.getElem_cons_succ]
                  go_simp
                  first | done | with_reducible rfl
                simp only [List.getElem_cons_zero, List.getElem_cons_succ, Act.put, List.setIfInBounds_toArray, List.set_cons_zero, List.set_cons_succ]
                refine call_at 10 (by decide) (Pi := (fun v _ => v = .int .i64 (ou - oa))) (by kernel_rfl) (by rfl) (by simp only [List.getElem_cons_zero, List.getElem_cons_succ]; go_simp; first | done | rfl | exact ⟨rfl, rfl⟩) (call_keep hS (C4.out _ hS.2)) ?_
                clear hS
                rintro v3 u hS rfl
                simp only [List.getElem_cons_zero, List.getElem_cons_succ, Act.put, List.setIfInBounds_toArray, List.set_cons_zero, List.set_cons_succ]
                refine take_at 11 (by decide) (v := ?_) (by kernel_rfl) (by kernel_rfl) (by kernel_rfl) (fun _ _ _ h => h) hS (Or.inl ⟨by rfl, ?_⟩) ?_
                rotate_left
                · intro W hW
                  skip
                  clear hW
                  simp only [List.getElem_cons_zero, List.getElem_cons_succ]
                  go_simp
                  first | done | with_reducible rfl
                simp only [List.getElem_cons_zero, List.getElem_cons_succ, Act.put, List.setIfInBounds_toArray, List.set_cons_zero, List.set_cons_succ]
                refine take_at 12 (by decide) (v := ?_) (by kernel_rfl) (by kernel_rfl) (by kernel_rfl) (fun _ _ _ h => h) hS (Or.inl ⟨by rfl, ?_⟩) ?_
                rotate_left
                · intro W hW
                  skip
                  clear hW
                  simp only [List.getElem_cons_zero, List.getElem_cons_succ]
                  go_simp
                  first | done | with_reducible rfl
                simp only [List.getElem_cons_zero, List.getElem_cons_succ, Act.put, List.setIfInBounds_toArray, List.set_cons_zero, List.set_cons_succ]
                refine take_at 13 (by decide) (v := ?_) (by kernel_rfl) (by kernel_rfl) (by kernel_rfl) (fun _ _ _ h => h) hS (Or.inl ⟨by rfl, ?_⟩) ?_
                rotate_left
                · intro W hW
                  skip
                  clear hW
                  simp only [List.getElem_cons_zero, List.getElem_cons_succ]
                  go_simp
                  first | done | with_reducible rfl
                simp only [List.getElem_cons_zero, List.getElem_cons_succ, Act.put, List.setIfInBounds_toArray, List.set_cons_zero, List.set_cons_succ]
                refine take_at 14 (by decide) (by kernel_rfl) (by kernel_rfl) (by kernel_rfl) (fun _ _ _ h => h) hS (yields_load_row (by rfl) 27 (.tmp 7) rfl g1 rfl _ _ _ _ (fun W hW => hW.1.2) Try.underlying27 rfl (by kernel_rfl)) ?_
                simp only [List.getElem_cons_zero, List.getElem_cons_succ, Act.put, List.setIfInBounds_toArray, List.set_cons_zero, List.set_cons_succ]
                refine call_at 15 (by decide) (Pi := (fun v _ => v = .int .i64 0)) (by kernel_rfl) (by rfl) (by simp only [List.getElem_cons_zero, List.getElem_cons_succ]; go_simp; first | done | rfl | exact ⟨rfl, rfl⟩) (call_one SQ2.mono hS (CK.out _ hS.2)) ?_
                clear hS
                rintro v4 u hS rfl
                simp only [List.getElem_cons_zero, List.getElem_cons_succ, Act.put, List.setIfInBounds_toArray, List.set_cons_zero, List.set_cons_succ]
                refine take_at 16 (by decide) (v := ?_) (by kernel_rfl) (by kernel_rfl) (by kernel_rfl) (fun _ _ _ h => h) hS (Or.inl ⟨by rfl, ?_⟩) ?_
                rotate_left
                · intro W hW
                  skip
                  clear hW
                  simp only [List.getElem_cons_zero, List.getElem_cons_succ]
                  go_simp
                  first | done | with_reducible rfl
                simp only [List.getElem_cons_zero, List.getElem_cons_succ, Act.put, List.setIfInBounds_toArray, List.set_cons_zero, List.set_cons_succ]
                refine take_at 17 (by decide) (v := ?_) (by kernel_rfl) (by kernel_rfl) (by kernel_rfl) (fun _ _ _ h => h) hS (Or.inl ⟨by rfl, ?_⟩) ?_
                rotate_left
                · intro W hW
                  skip
                  clear hW
                  simp only [List.getElem_cons_zero, List.getElem_cons_succ]
                  go_simp
                  first | done | with_reducible rfl
                simp only [List.getElem_cons_zero, List.getElem_cons_succ, Act.put, List.setIfInBounds_toArray, List.set_cons_zero, List.set_cons_succ]
                refine take_at 18 (by decide) (v := ?_) (by kernel_rfl) (by kernel_rfl) (by kernel_rfl) (fun _ _ _ h => h) hS (Or.inl ⟨by rfl, ?_⟩) ?_
                rotate_left
                · intro W hW
                  skip
                  clear hW
                  simp only [List.getElem_cons_zero, List.getElem_cons_succ]
                  go_simp
                  first | done | with_reducible rfl
                simp only [List.getElem_cons_zero, List.getElem_cons_succ, Act.put, List.setIfInBounds_toArray, List.set_cons_zero, List.set_cons_succ]
                refine take_at 19 (by decide) (v := ?_) (by kernel_rfl) (by kernel_rfl) (by kernel_rfl) (fun _ _ _ h => h) hS (Or.inl ⟨by rfl, ?_⟩) ?_
                rotate_left
                · intro W hW
                  skip
                  clear hW
                  simp only [List.getElem_cons_zero, List.getElem_cons_succ]
                  go_simp
                  first | done | with_reducible rfl
                simp only [List.getElem_cons_zero, List.getElem_cons_succ, Act.put, List.setIfInBounds_toArray, List.set_cons_zero, List.set_cons_succ]
                refine take_at 20 (by decide) (v := ?_) (by kernel_rfl) (by kernel_rfl) (by kernel_rfl) (fun _ _ _ h => h) hS (Or.inl ⟨by rfl, ?_⟩) ?_
                rotate_left
                · intro W hW
                  have q := hW.1.2.c0
                  clear hW
                  simp only [List.getElem_cons_zero, List.getElem_cons_succ]
                  go_simp
                  first | done | with_reducible rfl
                simp only [List.getElem_cons_zero, List.getElem_cons_succ, Act.put, List.setIfInBounds_toArray, List.set_cons_zero, List.set_cons_succ]
                refine take_at 21 (by decide) (v := ?_) (by kernel_rfl) (by kernel_rfl) (by kernel_rfl) (fun _ _ _ h => h) hS (Or.inl ⟨by rfl, ?_⟩) ?_
                rotate_left
                · intro W hW
                  skip
                  clear hW
                  simp only [List.getElem_cons_zero, List.getElem_cons_succ]
                  go_simp
                  first | done | with_reducible rfl
                simp only [List.getElem_cons_zero, List.getElem_cons_succ, Act.put, List.setIfInBounds_toArray, List.set_cons_zero, List.set_cons_succ]
                refine take_at 22 (by decide) (v := ?_) (by kernel_rfl) (by kernel_rfl) (by kernel_rfl) (fun _ _ _ h => h) hS (Or.inl ⟨by rfl, ?_⟩) ?_
                rotate_left
                · intro W hW
                  have q := hW.1.1.c0
                  clear hW
                  simp only [List.getElem_cons_zero, List.getElem_cons_succ]
                  go_simp
                  first | done | with_reducible rfl
                simp only [List.getElem_cons_zero, List.getElem_cons_succ, Act.put, List.setIfInBounds_toArray, List.set_cons_zero, List.set_cons_succ]
                refine take_at 23 (by decide) (v := ?_) (by kernel_rfl) (by kernel_rfl) (by kernel_rfl) (fun _ _ _ h => h) hS (Or.inl ⟨by rfl, ?_⟩) ?_
                rotate_left
                · intro W hW
                  skip
                  clear hW
                  simp only [List.getElem_cons_zero, List.getElem_cons_succ]
                  go_simp
                  first | done | with_reducible rfl
                simp only [List.getElem_cons_zero, List.getElem_cons_succ, Act.put, List.setIfInBounds_toArray, List.set_cons_zero, List.set_cons_succ]
                refine take_at 24 (by decide) (v := ?_) (by kernel_rfl) (by kernel_rfl) (by kernel_rfl) (fun _ _ _ h => h) hS (Or.inl ⟨by rfl, ?_⟩) ?_
                rotate_left
                · intro W hW
                  skip
                  clear hW
                  simp only [List.getElem_cons_zero, List.getElem_cons_succ]
                  go_simp
                  first | done | with_reducible rfl
                simp only [List.getElem_cons_zero, List.getElem_cons_succ, Act.put, List.setIfInBounds_toArray, List.set_cons_zero, List.set_cons_succ]
                refine take_at 25 (by decide) (v := ?_) (by kernel_rfl) (by kernel_rfl) (by kernel_rfl) (fun _ _ _ h => h) hS (Or.inl ⟨by rfl, ?_⟩) ?_
                rotate_left
                · intro W hW
                  skip
                  clear hW
                  simp only [List.getElem_cons_zero, List.getElem_cons_succ]
                  go_simp
                  first | done | with_reducible rfl
                simp only [List.getElem_cons_zero, List.getElem_cons_succ, Act.put, List.setIfInBounds_toArray, List.set_cons_zero, List.set_cons_succ]
                refine take_at 26 (by decide) (v := ?_) (by kernel_rfl) (by kernel_rfl) (by kernel_rfl) (fun _ _ _ h => h) hS (Or.inl ⟨by rfl, ?_⟩) ?_
                rotate_left
                · intro W hW
                  skip
                  clear hW
                  simp only [List.getElem_cons_zero, List.getElem_cons_succ]
                  go_simp
                  first | done | with_reducible rfl
                simp only [List.getElem_cons_zero, List.getElem_cons_succ, Act.put, List.setIfInBounds_toArray, List.set_cons_zero, List.set_cons_succ]
                refine take_at 27 (by decide) (v := ?_) (by kernel_rfl) (by kernel_rfl) (by kernel_rfl) (fun _ _ _ h => h) hS (Or.inl ⟨by rfl, ?_⟩) ?_
                rotate_left
                · intro W hW
                  have q := hW.1.2.c7
                  clear hW
                  simp only [List.getElem_cons_zero, List.getElem_cons_succ]
                  go_simp
                  first | done | with_reducible rfl
                simp only [List.getElem_cons_zero, List.getElem_cons_succ, Act.put, List.setIfInBounds_toArray, List.set_cons_zero, List.set_cons_succ]
                refine take_at 28 (by decide) (v := ?_) (by kernel_rfl) (by kernel_rfl) (by kernel_rfl) (fun _ _ _ h => h) hS (Or.inl ⟨by rfl, ?_⟩) ?_
                rotate_left
                · intro W hW
                  skip
                  clear hW
                  simp only [List.getElem_cons_zero, List.getElem_cons_succ]
                  go_simp
                  first | done | with_reducible rfl
                simp only [List.getElem_cons_zero, List.getElem_cons_succ, Act.put, List.setIfInBounds_toArray, List.set_cons_zero, List.set_cons_succ]
                refine take_at 29 (by decide) (v := ?_) (by kernel_rfl) (by kernel_rfl) (by kernel_rfl) (fun _ _ _ h => h) hS (Or.inl ⟨by rfl, ?_⟩) ?_
                rotate_left
                · intro W hW
                  have q := hW.1.1.c7
                  clear hW
                  simp only [List.getElem_cons_zero, List.getElem_cons_succ]
                  go_simp
                  first | done | with_reducible rfl
                simp only [List.getElem_cons_zero, List.getElem_cons_succ, Act.put, List.setIfInBounds_toArray, List.set_cons_zero, List.set_cons_succ]
                refine take_at 30 (by decide) (v := ?_) (by kernel_rfl) (by kernel_rfl) (by kernel_rfl) (fun _ _ _ h => h) hS (Or.inl ⟨by rfl, ?_⟩) ?_
                rotate_left
                · intro W hW
                  skip
                  clear hW
                  simp only [List.getElem_cons_zero, List.getElem_cons_succ]
                  go_simp
                  first | done | with_reducible rfl
                simp only [List.getElem_cons_zero, List.getElem_cons_succ, Act.put, List.setIfInBounds_toArray, List.set_cons_zero, List.set_cons_succ]
                refine take_at 31 (by decide) (v := ?_) (by kernel_rfl) (by kernel_rfl) (by kernel_rfl) (fun _ _ _ h => h) hS (Or.inl ⟨by rfl, ?_⟩) ?_
                rotate_left
                · intro W hW
                  skip
                  clear hW
                  simp only [List.getElem_cons_zero, List.getElem_cons_succ]
                  go_simp
                  first | done | with_reducible rfl
                simp only [List.getElem_cons_zero, List.getElem_cons_succ, Act.put, List.setIfInBounds_toArray, List.set_cons_zero, List.set_cons_succ]
                refine take_at 32 (by decide) (v := ?_) (by kernel_rfl) (by kernel_rfl) (by kernel_rfl) (fun _ _ _ h => h) hS (Or.inl ⟨by rfl, ?_⟩) ?_
                rotate_left
                · intro W hW
                  skip
                  clear hW
                  simp only [List.getElem_cons_zero, List.getElem_cons_succ]
                  go_simp
                  first | done | with_reducible rfl
                simp only [List.getElem_cons_zero, List.getElem_cons_succ, Act.put, List.setIfInBounds_toArray, List.set_cons_zero, List.set_cons_succ]
                refine take_at 33 (by decide) (v := ?_) (by kernel_rfl) (by kernel_rfl) (by kernel_rfl) (fun _ _ _ h => h) hS (Or.inl ⟨by rfl, ?_⟩) ?_
                rotate_left
                · intro W hW
                  skip
                  clear hW
                  simp only [List.getElem_cons_zero, List.getElem_cons_succ]
                  go_simp
                  first | done | with_reducible rfl
                simp only [List.getElem_cons_zero, List.getElem_cons_succ, Act.put, List.setIfInBounds_toArray, List.set_cons_zero, List.set_cons_succ]
                refine take_at 34 (by decide) (v := ?_) (by kernel_rfl) (by kernel_rfl) (by kernel_rfl) (fun _ _ _ h => h) hS (Or.inl ⟨by rfl, ?_⟩) ?_
                rotate_left
                · intro W hW
                  have q := hW.1.2.c23
                  clear hW
                  simp only [List.getElem_cons_zero, List.getElem_cons_succ]
                  go_simp
                  first | done | with_reducible rfl
                simp only [List.getElem_cons_zero, List.getElem_cons_succ, Act.put, List.setIfInBounds_toArray, List.set_cons_zero, List.set_cons_succ]
                refine take_at 35 (by decide) (v := ?_) (by kernel_rfl) (by kernel_rfl) (by kernel_rfl) (fun _ _ _ h => h) hS (Or.inl ⟨by rfl, ?_⟩) ?_
                rotate_left
                · intro W hW
                  skip
                  clear hW
                  simp only [List.getElem_cons_zero, List.getElem_cons_succ]
                  go_simp
                  first | done | with_reducible rfl
                simp only [List.getElem_cons_zero, List.getElem_cons_succ, Act.put, List.setIfInBounds_toArray, List.set_cons_zero, List.set_cons_succ]
                refine take_at 36 (by decide) (v := ?_) (by kernel_rfl) (by kernel_rfl) (by kernel_rfl) (fun _ _ _ h => h) hS (Or.inl ⟨by rfl, ?_⟩) ?_
                rotate_left
                · intro W hW
                  have q := hW.1.1.c23
                  clear hW
                  simp only [List.getElem_cons_zero, List.getElem_cons_succ]
                  go_simp
                  first | done | with_reducible rfl
                simp only [List.getElem_cons_zero, List.getElem_cons_succ, Act.put, List.setIfInBounds_toArray, List.set_cons_zero, List.set_cons_succ]
                refine call_at 37 (by decide) (Pi := (fun v _ => v = .bool true)) (by kernel_rfl) (by rfl) (by simp only [List.getElem_cons_zero, List.getElem_cons_succ]; go_simp; first | done | rfl | exact ⟨rfl, rfl⟩) (call_one SQ2.mono hS (CD.out _ hS.2)) ?_
                clear hS
                rintro v5 u hS rfl
                simp only [List.getElem_cons_zero, List.getElem_cons_succ, Act.put, List.setIfInBounds_toArray, List.set_cons_zero, List.set_cons_succ]
                refine take_at 38 (by decide) (v := ?_) (by kernel_rfl) (by kernel_rfl) (by kernel_rfl) (fun _ _ _ h => h) hS (Or.inl ⟨by rfl, ?_⟩) ?_
                rotate_left
                · intro W hW
                  skip
                  clear hW
                  simp only [List.getElem_cons_zero, List.getElem_cons_succ]
                  go_simp
                  first | done | with_reducible rfl
                simp only [List.getElem_cons_zero, List.getElem_cons_succ, Act.put, List.setIfInBounds_toArray, List.set_cons_zero, List.set_cons_succ]
                refine take_at 39 (by decide) (v := ?_) (by kernel_rfl) (by kernel_rfl) (by kernel_rfl) (fun _ _ _ h => h) hS (Or.inl ⟨by rfl, ?_⟩) ?_
                rotate_left
                · intro W hW
                  skip
                  clear hW
                  simp only [List.getElem_cons_zero, List.getElem_cons_succ]
                  go_simp
                  first | done | with_reducible rfl
                simp only [List.getElem_cons_zero, List.getElem_cons_succ, Act.put, List.setIfInBounds_toArray, List.set_cons_zero, List.set_cons_succ]
                refine call_at 40 (by decide) (Pi := (fun v _ => v = .bool true)) (by kernel_rfl) (by rfl) (by simp only [List.getElem_cons_zero, List.getElem_cons_succ]; go_simp; first | done | rfl | exact ⟨rfl, rfl⟩) (call_one SQ2.mono hS (live_any _)) ?_
                clear hS
                rintro v6 u hS rfl
                simp only [List.getElem_cons_zero, List.getElem_cons_succ, Act.put, List.setIfInBounds_toArray, List.set_cons_zero, List.set_cons_succ]
                refine take_at 41 (by decide) (v := ?_) (by kernel_rfl) (by kernel_rfl) (by kernel_rfl) (fun _ _ _ h => h) hS (Or.inl ⟨by rfl, ?_⟩) ?_
                rotate_left
                · intro W hW
                  skip
                  clear hW
                  simp only [List.getElem_cons_zero, List.getElem_cons_succ]
                  go_simp
                  first | done | with_reducible rfl
                simp only [List.getElem_cons_zero, List.getElem_cons_succ, Act.put, List.setIfInBounds_toArray, List.set_cons_zero, List.set_cons_succ]
                refine take_at 42 (by decide) (v := ?_) (by kernel_rfl) (by kernel_rfl) (by kernel_rfl) (fun _ _ _ h => h) hS (Or.inl ⟨by rfl, ?_⟩) ?_
                rotate_left
                · intro W hW
                  skip
                  clear hW
                  simp only [List.getElem_cons_zero, List.getElem_cons_succ]
                  go_simp
                  first | done | with_reducible rfl
                simp only [List.getElem_cons_zero, List.getElem_cons_succ, Act.put, List.setIfInBounds_toArray, List.set_cons_zero, List.set_cons_succ]
                refine wpAnyH_done (by kernel_rfl) ?_ _
                go_wp2_with fail
                go_ret
                exact ⟨rfl, bl2 hS.2 cw6⟩
              · go_wp2_with fail
                refine C5.out.mono ?_
                rintro e w' ⟨rfl, rfl⟩
                go_upto_region 21 with fail
                clear h5
                have hS0 : SQ2 w6 w.heap.size #[.int .i64 (l).id, .int .i64 (l).ac, .int .i64 (l).st, .int .i64 (l).pp, .int .i64 (l).pi, .int .i64 (l).fee, .int .i64 (l).pen, .int .i64 (l).chg, .int .i64 (l).prov, .int .i64 (l).loss, .int .i64 (l).rcv, .int .i64 ((l).tm).me, .int .i64 ((l).tm).pr, .int .i64 ((l).tm).ppm, .int .i64 ((l).tm).stt, .int .i64 ((l).tm).ev, .int .i64 ((l).tm).ct, .int .i64 ((l).tm).ba, .int .i64 ((l).tm).mo, .int .i64 ((l).tm).pen, .int .i64 ((l).tm).fe, .string ((l).tm).cal, .string ((l).tm).cur, .slice da (l).ds.length dk, .slice ca (l).cs.length ck] g1 #[.int .i64 (A).id, .int .i64 (A).ac, .int .i64 (A).st, .int .i64 (A).pp, .int .i64 (A).pi, .int .i64 (A).fee, .int .i64 (A).pen, .int .i64 (A).chg, .int .i64 (A).prov, .int .i64 (A).loss, .int .i64 (A).rcv, .int .i64 ((A).tm).me, .int .i64 ((A).tm).pr, .int .i64 ((A).tm).ppm, .int .i64 ((A).tm).stt, .int .i64 ((A).tm).ev, .int .i64 ((A).tm).ct, .int .i64 ((A).tm).ba, .int .i64 ((A).tm).mo, .int .i64 ((A).tm).pen, .int .i64 ((A).tm).fe, .string ((A).tm).cal, .string ((A).tm).cur, .slice da1 (A).ds.length dk1, .slice ca1 (A).cs.length ck1] 27 w6.drew := ⟨⟨k5.drew, k6.drew⟩, (Below.refl _ _).drew⟩
                refine wp_region_held_drew (S := SQ2 w6 w.heap.size #[.int .i64 (l).id, .int .i64 (l).ac, .int .i64 (l).st, .int .i64 (l).pp, .int .i64 (l).pi, .int .i64 (l).fee, .int .i64 (l).pen, .int .i64 (l).chg, .int .i64 (l).prov, .int .i64 (l).loss, .int .i64 (l).rcv, .int .i64 ((l).tm).me, .int .i64 ((l).tm).pr, .int .i64 ((l).tm).ppm, .int .i64 ((l).tm).stt, .int .i64 ((l).tm).ev, .int .i64 ((l).tm).ct, .int .i64 ((l).tm).ba, .int .i64 ((l).tm).mo, .int .i64 ((l).tm).pen, .int .i64 ((l).tm).fe, .string ((l).tm).cal, .string ((l).tm).cur, .slice da (l).ds.length dk, .slice ca (l).cs.length ck] g1 #[.int .i64 (A).id, .int .i64 (A).ac, .int .i64 (A).st, .int .i64 (A).pp, .int .i64 (A).pi, .int .i64 (A).fee, .int .i64 (A).pen, .int .i64 (A).chg, .int .i64 (A).prov, .int .i64 (A).loss, .int .i64 (A).rcv, .int .i64 ((A).tm).me, .int .i64 ((A).tm).pr, .int .i64 ((A).tm).ppm, .int .i64 ((A).tm).stt, .int .i64 ((A).tm).ev, .int .i64 ((A).tm).ct, .int .i64 ((A).tm).ba, .int .i64 ((A).tm).mo, .int .i64 ((A).tm).pen, .int .i64 ((A).tm).fe, .string ((A).tm).cal, .string ((A).tm).cur, .slice da1 (A).ds.length dk1, .slice ca1 (A).cs.length ck1] 27) (by kernel_rfl) hS0 (fun hS => ?_)
                clear hS0
                refine take_at 0 (by decide) (v := ?_) (by kernel_rfl) (by kernel_rfl) (by kernel_rfl) (fun _ _ _ h => h) hS (Or.inl ⟨by rfl, ?_⟩) ?_
                rotate_left
                · intro W hW
                  skip
                  clear hW
                  simp only [List.getElem_cons_zero, List.getElem_cons_succ]
                  go_simp
                  first | done | with_reducible rfl
                simp only [List.getElem_cons_zero, List.getElem_cons_succ, Act.put, List.setIfInBounds_toArray, List.set_cons_zero, List.set_cons_succ]
                refine take_at 1 (by decide) (v := ?_) (by kernel_rfl) (by kernel_rfl) (by kernel_rfl) (fun _ _ _ h => h) hS (Or.inl ⟨by rfl, ?_⟩) ?_
                rotate_left
                · intro W hW
                  skip
                  clear hW
                  simp only [List.getElem_cons_zero, List.getElem_cons_succ]
                  go_simp
                  first | done | with_reducible rfl
                simp only [List.getElem_cons_zero, List.getElem_cons_succ, Act.put, List.setIfInBounds_toArray, List.set_cons_zero, List.set_cons_succ]
                refine take_at 2 (by decide) (v := ?_) (by kernel_rfl) (by kernel_rfl) (by kernel_rfl) (fun _ _ _ h => h) hS (Or.inl ⟨by rfl, ?_⟩) ?_
                rotate_left
                · intro W hW
                  skip
                  clear hW
                  simp only [List.getElem_cons_zero, List.getElem_cons_succ]
                  go_simp
                  first | done | with_reducible rfl
                simp only [List.getElem_cons_zero, List.getElem_cons_succ, Act.put, List.setIfInBounds_toArray, List.set_cons_zero, List.set_cons_succ]
                refine take_at 3 (by decide) (v := ?_) (by kernel_rfl) (by kernel_rfl) (by kernel_rfl) (fun _ _ _ h => h) hS (Or.inl ⟨by rfl, ?_⟩) ?_
                rotate_left
                · intro W hW
                  skip
                  clear hW
                  simp only [List.getElem_cons_zero, List.getElem_cons_succ]
                  go_simp
                  first | done | with_reducible rfl
                simp only [List.getElem_cons_zero, List.getElem_cons_succ, Act.put, List.setIfInBounds_toArray, List.set_cons_zero, List.set_cons_succ]
                refine take_at 4 (by decide) (by kernel_rfl) (by kernel_rfl) (by kernel_rfl) (fun _ _ _ h => h) hS (yields_load_row (by rfl) 27 (.tmp 3) rfl w.heap.size rfl _ _ _ _ (fun W hW => hW.1.1) Try.underlying27 rfl (by kernel_rfl)) ?_
                simp only [List.getElem_cons_zero, List.getElem_cons_succ, Act.put, List.setIfInBounds_toArray, List.set_cons_zero, List.set_cons_succ]
                refine take_at 6 (by decide) (by kernel_rfl) (by kernel_rfl) (by kernel_rfl) (fun _ _ _ h => h) hS (yields_load_row (by rfl) 27 (.tmp 7) rfl g1 rfl _ _ _ _ (fun W hW => hW.1.2) Try.underlying27 rfl (by kernel_rfl)) ?_
                simp only [List.getElem_cons_zero, List.getElem_cons_succ, Act.put, List.setIfInBounds_toArray, List.set_cons_zero, List.set_cons_succ]
                refine take_at 9 (by decide) (v := ?_) (by kernel_rfl) (by kernel_rfl) (by kernel_rfl) (fun _ _ _ h => h) hS (Or.inl ⟨by rfl, ?_⟩) ?_
                rotate_left
                · intro W hW
                  skip
                  clear hW
                  simp only [List.getElem_cons_zero, List.getElem_cons_succ]
                  go_simp
                  first | done | with_reducible rfl
                simp only [List.getElem_cons_zero, List.getElem_cons_succ, Act.put, List.setIfInBounds_toArray, List.set_cons_zero, List.set_cons_succ]
                refine call_at 5 (by decide) (Pi := (fun v _ => v = .int .i64 ou)) (by kernel_rfl) (by rfl) (by simp only [List.getElem_cons_zero, List.getElem_cons_succ]; go_simp; first | done | rfl | exact ⟨rfl, rfl⟩) (call_one SQ2.mono hS (CO.out _ hS.2)) ?_
                clear hS
                rintro v1 u hS rfl
                simp only [List.getElem_cons_zero, List.getElem_cons_succ, Act.put, List.setIfInBounds_toArray, List.set_cons_zero, List.set_cons_succ]
                refine call_at 7 (by decide) (Pi := (fun v _ => v = .int .i64 oa)) (by kernel_rfl) (by rfl) (by simp only [List.getElem_cons_zero, List.getElem_cons_succ]; go_simp; first | done | rfl | exact ⟨rfl, rfl⟩) (call_one SQ2.mono hS (CA.out _ hS.2)) ?_
                clear hS
                rintro v2 u hS rfl
                simp only [List.getElem_cons_zero, List.getElem_cons_succ, Act.put, List.setIfInBounds_toArray, List.set_cons_zero, List.set_cons_succ]
                refine take_at 8 (by decide) (v := ?_) (by kernel_rfl) (by kernel_rfl) (by kernel_rfl) (fun _ _ _ h => h) hS (Or.inl ⟨by rfl, ?_⟩) ?_
                rotate_left
                · intro W hW
                  skip
                  clear hW
                  simp only [List.getElem_cons_zero, List.getElem_cons_succ]
                  go_simp
                  first | done | with_reducible rfl
                simp only [List.getElem_cons_zero, List.getElem_cons_succ, Act.put, List.setIfInBounds_toArray, List.set_cons_zero, List.set_cons_succ]
                refine call_at 10 (by decide) (Pi := (fun v _ => v = .int .i64 (ou - oa))) (by kernel_rfl) (by rfl) (by simp only [List.getElem_cons_zero, List.getElem_cons_succ]; go_simp; first | done | rfl | exact ⟨rfl, rfl⟩) (call_keep hS (C4.out _ hS.2)) ?_
                clear hS
                rintro v3 u hS rfl
                simp only [List.getElem_cons_zero, List.getElem_cons_succ, Act.put, List.setIfInBounds_toArray, List.set_cons_zero, List.set_cons_succ]
                refine take_at 11 (by decide) (v := ?_) (by kernel_rfl) (by kernel_rfl) (by kernel_rfl) (fun _ _ _ h => h) hS (Or.inl ⟨by rfl, ?_⟩) ?_
                rotate_left
                · intro W hW
                  skip
                  clear hW
                  simp only [List.getElem_cons_zero, List.getElem_cons_succ]
                  go_simp
                  first | done | with_reducible rfl
                simp only [List.getElem_cons_zero, List.getElem_cons_succ, Act.put, List.setIfInBounds_toArray, List.set_cons_zero, List.set_cons_succ]
                refine take_at 12 (by decide) (v := ?_) (by kernel_rfl) (by kernel_rfl) (by kernel_rfl) (fun _ _ _ h => h) hS (Or.inl ⟨by rfl, ?_⟩) ?_
                rotate_left
                · intro W hW
                  skip
                  clear hW
                  simp only [List.getElem_cons_zero, List.getElem_cons_succ]
                  go_simp
                  first | done | with_reducible rfl
                simp only [List.getElem_cons_zero, List.getElem_cons_succ, Act.put, List.setIfInBounds_toArray, List.set_cons_zero, List.set_cons_succ]
                refine take_at 13 (by decide) (v := ?_) (by kernel_rfl) (by kernel_rfl) (by kernel_rfl) (fun _ _ _ h => h) hS (Or.inl ⟨by rfl, ?_⟩) ?_
                rotate_left
                · intro W hW
                  skip
                  clear hW
                  simp only [List.getElem_cons_zero, List.getElem_cons_succ]
                  go_simp
                  first | done | with_reducible rfl
                simp only [List.getElem_cons_zero, List.getElem_cons_succ, Act.put, List.setIfInBounds_toArray, List.set_cons_zero, List.set_cons_succ]
                refine take_at 14 (by decide) (by kernel_rfl) (by kernel_rfl) (by kernel_rfl) (fun _ _ _ h => h) hS (yields_load_row (by rfl) 27 (.tmp 7) rfl g1 rfl _ _ _ _ (fun W hW => hW.1.2) Try.underlying27 rfl (by kernel_rfl)) ?_
                simp only [List.getElem_cons_zero, List.getElem_cons_succ, Act.put, List.setIfInBounds_toArray, List.set_cons_zero, List.set_cons_succ]
                refine call_at 15 (by decide) (Pi := (fun v _ => v = .int .i64 0)) (by kernel_rfl) (by rfl) (by simp only [List.getElem_cons_zero, List.getElem_cons_succ]; go_simp; first | done | rfl | exact ⟨rfl, rfl⟩) (call_one SQ2.mono hS (CK.out _ hS.2)) ?_
                clear hS
                rintro v4 u hS rfl
                simp only [List.getElem_cons_zero, List.getElem_cons_succ, Act.put, List.setIfInBounds_toArray, List.set_cons_zero, List.set_cons_succ]
                refine take_at 16 (by decide) (v := ?_) (by kernel_rfl) (by kernel_rfl) (by kernel_rfl) (fun _ _ _ h => h) hS (Or.inl ⟨by rfl, ?_⟩) ?_
                rotate_left
                · intro W hW
                  skip
                  clear hW
                  simp only [List.getElem_cons_zero, List.getElem_cons_succ]
                  go_simp
                  first | done | with_reducible rfl
                simp only [List.getElem_cons_zero, List.getElem_cons_succ, Act.put, List.setIfInBounds_toArray, List.set_cons_zero, List.set_cons_succ]
                refine take_at 17 (by decide) (v := ?_) (by kernel_rfl) (by kernel_rfl) (by kernel_rfl) (fun _ _ _ h => h) hS (Or.inl ⟨by rfl, ?_⟩) ?_
                rotate_left
                · intro W hW
                  skip
                  clear hW
                  simp only [List.getElem_cons_zero, List.getElem_cons_succ]
                  go_simp
                  first | done | with_reducible rfl
                simp only [List.getElem_cons_zero, List.getElem_cons_succ, Act.put, List.setIfInBounds_toArray, List.set_cons_zero, List.set_cons_succ]
                refine take_at 18 (by decide) (v := ?_) (by kernel_rfl) (by kernel_rfl) (by kernel_rfl) (fun _ _ _ h => h) hS (Or.inl ⟨by rfl, ?_⟩) ?_
                rotate_left
                · intro W hW
                  skip
                  clear hW
                  simp only [List.getElem_cons_zero, List.getElem_cons_succ]
                  go_simp
                  first | done | with_reducible rfl
                simp only [List.getElem_cons_zero, List.getElem_cons_succ, Act.put, List.setIfInBounds_toArray, List.set_cons_zero, List.set_cons_succ]
                refine take_at 19 (by decide) (v := ?_) (by kernel_rfl) (by kernel_rfl) (by kernel_rfl) (fun _ _ _ h => h) hS (Or.inl ⟨by rfl, ?_⟩) ?_
                rotate_left
                · intro W hW
                  skip
                  clear hW
                  simp only [List.getElem_cons_zero, List.getElem_cons_succ]
                  go_simp
                  first | done | with_reducible rfl
                simp only [List.getElem_cons_zero, List.getElem_cons_succ, Act.put, List.setIfInBounds_toArray, List.set_cons_zero, List.set_cons_succ]
                refine take_at 20 (by decide) (v := ?_) (by kernel_rfl) (by kernel_rfl) (by kernel_rfl) (fun _ _ _ h => h) hS (Or.inl ⟨by rfl, ?_⟩) ?_
                rotate_left
                · intro W hW
                  have q := hW.1.2.c0
                  clear hW
                  simp only [List.getElem_cons_zero, List.getElem_cons_succ]
                  go_simp
                  first | done | with_reducible rfl
                simp only [List.getElem_cons_zero, List.getElem_cons_succ, Act.put, List.setIfInBounds_toArray, List.set_cons_zero, List.set_cons_succ]
                refine take_at 21 (by decide) (v := ?_) (by kernel_rfl) (by kernel_rfl) (by kernel_rfl) (fun _ _ _ h => h) hS (Or.inl ⟨by rfl, ?_⟩) ?_
                rotate_left
                · intro W hW
                  skip
                  clear hW
                  simp only [List.getElem_cons_zero, List.getElem_cons_succ]
                  go_simp
                  first | done | with_reducible rfl
                simp only [List.getElem_cons_zero, List.getElem_cons_succ, Act.put, List.setIfInBounds_toArray, List.set_cons_zero, List.set_cons_succ]
                refine take_at 22 (by decide) (v := ?_) (by kernel_rfl) (by kernel_rfl) (by kernel_rfl) (fun _ _ _ h => h) hS (Or.inl ⟨by rfl, ?_⟩) ?_
                rotate_left
                · intro W hW
                  have q := hW.1.1.c0
                  clear hW
                  simp only [List.getElem_cons_zero, List.getElem_cons_succ]
                  go_simp
                  first | done | with_reducible rfl
                simp only [List.getElem_cons_zero, List.getElem_cons_succ, Act.put, List.setIfInBounds_toArray, List.set_cons_zero, List.set_cons_succ]
                refine take_at 23 (by decide) (v := ?_) (by kernel_rfl) (by kernel_rfl) (by kernel_rfl) (fun _ _ _ h => h) hS (Or.inl ⟨by rfl, ?_⟩) ?_
                rotate_left
                · intro W hW
                  skip
                  clear hW
                  simp only [List.getElem_cons_zero, List.getElem_cons_succ]
                  go_simp
                  first | done | with_reducible rfl
                simp only [List.getElem_cons_zero, List.getElem_cons_succ, Act.put, List.setIfInBounds_toArray, List.set_cons_zero, List.set_cons_succ]
                refine take_at 24 (by decide) (v := ?_) (by kernel_rfl) (by kernel_rfl) (by kernel_rfl) (fun _ _ _ h => h) hS (Or.inl ⟨by rfl, ?_⟩) ?_
                rotate_left
                · intro W hW
                  skip
                  clear hW
                  simp only [List.getElem_cons_zero, List.getElem_cons_succ]
                  go_simp
                  first | done | with_reducible rfl
                simp only [List.getElem_cons_zero, List.getElem_cons_succ, Act.put, List.setIfInBounds_toArray, List.set_cons_zero, List.set_cons_succ]
                refine take_at 25 (by decide) (v := ?_) (by kernel_rfl) (by kernel_rfl) (by kernel_rfl) (fun _ _ _ h => h) hS (Or.inl ⟨by rfl, ?_⟩) ?_
                rotate_left
                · intro W hW
                  skip
                  clear hW
                  simp only [List.getElem_cons_zero, List.getElem_cons_succ]
                  go_simp
                  first | done | with_reducible rfl
                simp only [List.getElem_cons_zero, List.getElem_cons_succ, Act.put, List.setIfInBounds_toArray, List.set_cons_zero, List.set_cons_succ]
                refine take_at 26 (by decide) (v := ?_) (by kernel_rfl) (by kernel_rfl) (by kernel_rfl) (fun _ _ _ h => h) hS (Or.inl ⟨by rfl, ?_⟩) ?_
                rotate_left
                · intro W hW
                  skip
                  clear hW
                  simp only [List.getElem_cons_zero, List.getElem_cons_succ]
                  go_simp
                  first | done | with_reducible rfl
                simp only [List.getElem_cons_zero, List.getElem_cons_succ, Act.put, List.setIfInBounds_toArray, List.set_cons_zero, List.set_cons_succ]
                refine take_at 27 (by decide) (v := ?_) (by kernel_rfl) (by kernel_rfl) (by kernel_rfl) (fun _ _ _ h => h) hS (Or.inl ⟨by rfl, ?_⟩) ?_
                rotate_left
                · intro W hW
                  have q := hW.1.2.c7
                  clear hW
                  simp only [List.getElem_cons_zero, List.getElem_cons_succ]
                  go_simp
                  first | done | with_reducible rfl
                simp only [List.getElem_cons_zero, List.getElem_cons_succ, Act.put, List.setIfInBounds_toArray, List.set_cons_zero, List.set_cons_succ]
                refine take_at 28 (by decide) (v := ?_) (by kernel_rfl) (by kernel_rfl) (by kernel_rfl) (fun _ _ _ h => h) hS (Or.inl ⟨by rfl, ?_⟩) ?_
                rotate_left
                · intro W hW
                  skip
                  clear hW
                  simp only [List.getElem_cons_zero, List.getElem_cons_succ]
                  go_simp
                  first | done | with_reducible rfl
                simp only [List.getElem_cons_zero, List.getElem_cons_succ, Act.put, List.setIfInBounds_toArray, List.set_cons_zero, List.set_cons_succ]
                refine take_at 29 (by decide) (v := ?_) (by kernel_rfl) (by kernel_rfl) (by kernel_rfl) (fun _ _ _ h => h) hS (Or.inl ⟨by rfl, ?_⟩) ?_
                rotate_left
                · intro W hW
                  have q := hW.1.1.c7
                  clear hW
                  simp only [List.getElem_cons_zero, List.getElem_cons_succ]
                  go_simp
                  first | done | with_reducible rfl
                simp only [List.getElem_cons_zero, List.getElem_cons_succ, Act.put, List.setIfInBounds_toArray, List.set_cons_zero, List.set_cons_succ]
                refine take_at 30 (by decide) (v := ?_) (by kernel_rfl) (by kernel_rfl) (by kernel_rfl) (fun _ _ _ h => h) hS (Or.inl ⟨by rfl, ?_⟩) ?_
                rotate_left
                · intro W hW
                  skip
                  clear hW
                  simp only [List.getElem_cons_zero, List.getElem_cons_succ]
                  go_simp
                  first | done | with_reducible rfl
                simp only [List.getElem_cons_zero, List.getElem_cons_succ, Act.put, List.setIfInBounds_toArray, List.set_cons_zero, List.set_cons_succ]
                refine take_at 31 (by decide) (v := ?_) (by kernel_rfl) (by kernel_rfl) (by kernel_rfl) (fun _ _ _ h => h) hS (Or.inl ⟨by rfl, ?_⟩) ?_
                rotate_left
                · intro W hW
                  skip
                  clear hW
                  simp only [List.getElem_cons_zero, List.getElem_cons_succ]
                  go_simp
                  first | done | with_reducible rfl
                simp only [List.getElem_cons_zero, List.getElem_cons_succ, Act.put, List.setIfInBounds_toArray, List.set_cons_zero, List.set_cons_succ]
                refine take_at 32 (by decide) (v := ?_) (by kernel_rfl) (by kernel_rfl) (by kernel_rfl) (fun _ _ _ h => h) hS (Or.inl ⟨by rfl, ?_⟩) ?_
                rotate_left
                · intro W hW
                  skip
                  clear hW
                  simp only [List.getElem_cons_zero, List.getElem_cons_succ]
                  go_simp
                  first | done | with_reducible rfl
                simp only [List.getElem_cons_zero, List.getElem_cons_succ, Act.put, List.setIfInBounds_toArray, List.set_cons_zero, List.set_cons_succ]
                refine take_at 33 (by decide) (v := ?_) (by kernel_rfl) (by kernel_rfl) (by kernel_rfl) (fun _ _ _ h => h) hS (Or.inl ⟨by rfl, ?_⟩) ?_
                rotate_left
                · intro W hW
                  skip
                  clear hW
                  simp only [List.getElem_cons_zero, List.getElem_cons_succ]
                  go_simp
                  first | done | with_reducible rfl
                simp only [List.getElem_cons_zero, List.getElem_cons_succ, Act.put, List.setIfInBounds_toArray, List.set_cons_zero, List.set_cons_succ]
                refine take_at 34 (by decide) (v := ?_) (by kernel_rfl) (by kernel_rfl) (by kernel_rfl) (fun _ _ _ h => h) hS (Or.inl ⟨by rfl, ?_⟩) ?_
                rotate_left
                · intro W hW
                  have q := hW.1.2.c23
                  clear hW
                  simp only [List.getElem_cons_zero, List.getElem_cons_succ]
                  go_simp
                  first | done | with_reducible rfl
                simp only [List.getElem_cons_zero, List.getElem_cons_succ, Act.put, List.setIfInBounds_toArray, List.set_cons_zero, List.set_cons_succ]
                refine take_at 35 (by decide) (v := ?_) (by kernel_rfl) (by kernel_rfl) (by kernel_rfl) (fun _ _ _ h => h) hS (Or.inl ⟨by rfl, ?_⟩) ?_
                rotate_left
                · intro W hW
                  skip
                  clear hW
                  simp only [List.getElem_cons_zero, List.getElem_cons_succ]
                  go_simp
                  first | done | with_reducible rfl
                simp only [List.getElem_cons_zero, List.getElem_cons_succ, Act.put, List.setIfInBounds_toArray, List.set_cons_zero, List.set_cons_succ]
                refine take_at 36 (by decide) (v := ?_) (by kernel_rfl) (by kernel_rfl) (by kernel_rfl) (fun _ _ _ h => h) hS (Or.inl ⟨by rfl, ?_⟩) ?_
                rotate_left
                · intro W hW
                  have q := hW.1.1.c23
                  clear hW
                  simp only [List.getElem_cons_zero, List.getElem_cons_succ]
                  go_simp
                  first | done | with_reducible rfl
                simp only [List.getElem_cons_zero, List.getElem_cons_succ, Act.put, List.setIfInBounds_toArray, List.set_cons_zero, List.set_cons_succ]
                refine call_at 37 (by decide) (Pi := (fun v _ => v = .bool true)) (by kernel_rfl) (by rfl) (by simp only [List.getElem_cons_zero, List.getElem_cons_succ]; go_simp; first | done | rfl | exact ⟨rfl, rfl⟩) (call_one SQ2.mono hS (CD.out _ hS.2)) ?_
                clear hS
                rintro v5 u hS rfl
                simp only [List.getElem_cons_zero, List.getElem_cons_succ, Act.put, List.setIfInBounds_toArray, List.set_cons_zero, List.set_cons_succ]
                refine take_at 38 (by decide) (v := ?_) (by kernel_rfl) (by kernel_rfl) (by kernel_rfl) (fun _ _ _ h => h) hS (Or.inl ⟨by rfl, ?_⟩) ?_
                rotate_left
                · intro W hW
                  skip
                  clear hW
                  simp only [List.getElem_cons_zero, List.getElem_cons_succ]
                  go_simp
                  first | done | with_reducible rfl
                simp only [List.getElem_cons_zero, List.getElem_cons_succ, Act.put, List.setIfInBounds_toArray, List.set_cons_zero, List.set_cons_succ]
                refine take_at 39 (by decide) (v := ?_) (by kernel_rfl) (by kernel_rfl) (by kernel_rfl) (fun _ _ _ h => h) hS (Or.inl ⟨by rfl, ?_⟩) ?_
                rotate_left
                · intro W hW
                  skip
                  clear hW
                  simp only [List.getElem_cons_zero, List.getElem_cons_succ]
                  go_simp
                  first | done | with_reducible rfl
                simp only [List.getElem_cons_zero, List.getElem_cons_succ, Act.put, List.setIfInBounds_toArray, List.set_cons_zero, List.set_cons_succ]
                refine call_at 40 (by decide) (Pi := (fun v _ => v = .bool true)) (by kernel_rfl) (by rfl) (by simp only [List.getElem_cons_zero, List.getElem_cons_succ]; go_simp; first | done | rfl | exact ⟨rfl, rfl⟩) (call_one SQ2.mono hS (live_any _)) ?_
                clear hS
                rintro v6 u hS rfl
                simp only [List.getElem_cons_zero, List.getElem_cons_succ, Act.put, List.setIfInBounds_toArray, List.set_cons_zero, List.set_cons_succ]
                refine take_at 41 (by decide) (v := ?_) (by kernel_rfl) (by kernel_rfl) (by kernel_rfl) (fun _ _ _ h => h) hS (Or.inl ⟨by rfl, ?_⟩) ?_
                rotate_left
                · intro W hW
                  skip
                  clear hW
                  simp only [List.getElem_cons_zero, List.getElem_cons_succ]
                  go_simp
                  first | done | with_reducible rfl
                simp only [List.getElem_cons_zero, List.getElem_cons_succ, Act.put, List.setIfInBounds_toArray, List.set_cons_zero, List.set_cons_succ]
                refine take_at 42 (by decide) (v := ?_) (by kernel_rfl) (by kernel_rfl) (by kernel_rfl) (fun _ _ _ h => h) hS (Or.inl ⟨by rfl, ?_⟩) ?_
                rotate_left
                · intro W hW
                  skip
                  clear hW
                  simp only [List.getElem_cons_zero, List.getElem_cons_succ]
                  go_simp
                  first | done | with_reducible rfl
                simp only [List.getElem_cons_zero, List.getElem_cons_succ, Act.put, List.setIfInBounds_toArray, List.set_cons_zero, List.set_cons_succ]
                refine wpAnyH_done (by kernel_rfl) ?_ _
                go_wp2_with fail
                go_ret
                exact ⟨rfl, bl2 hS.2 cw6⟩
    · have hps := HNE.out hE0
      subst hps
      have gE : (E != 0) = true := bne_iff_ne.2 hE0
      clear hE0 HNE HCV
      go_wp2_with fail
      refine (live_any _).mono ?_
      rintro e w4 ⟨rfl, hb⟩
      have cw4 := bl2 hb cw3
      go_wp2_with fail
      go_ret
      exact ⟨rfl, cw4⟩
  · go_wp2_with fail
    go_ret
    exact ⟨rfl, cw1⟩
end Go.Proofs.Ytaibocobeibobaa.Ln
