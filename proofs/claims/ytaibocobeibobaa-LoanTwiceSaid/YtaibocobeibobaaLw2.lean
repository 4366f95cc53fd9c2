/-
  LoanTwice: its walk.
-/
import Derived.Test.YtaibocobeibobaaLw1
import Derived.Test.YtaibocobeibobaaLm2
namespace Go.Proofs.Ytaibocobeibobaa.Ln
open Go.RowKit
open Go.Proofs.Ytaibocobeibobaa

/-- Where the loop over the kinds stands. -/
def twR (W0 : World) (g : Nat) (s16 : Value) (W : World) : Prop := ∃ k : Int, 1 ≤ k ∧ k + g = 6 ∧ s16 = .int .i64 k ∧ W0 = W
theorem payE_01 {l : Lo} {n on : Int} (h : Ok l) (hs : l.st = 1) (ho : 0 ≤ on ∧ on ≤ 73048) : payE l n on = 0 ∨ payE l n on = 1 := by
  rw [payE_mk h hs ho]; split
  · exact .inl rfl
  · exact .inr rfl
set_option maxRecDepth 100000 in
set_option maxHeartbeats 16000000 in
theorem twice_walk (l : Lo) (da ca : Option Addr) (dk ck : Nat) (n m on : Int) (hn : (Lit.int .i64 n).wf = true) (hm : (Lit.int .i64 m).wf = true) (_ : (Lit.int .i64 on).wf = true) (w : World) (h : LoIn w l da ca) (_ : Dok l.ds) :
    Calls Try.prog 6 #[(.agg #[.int .i64 (l).id, .int .i64 (l).ac, .int .i64 (l).st, .int .i64 (l).pp, .int .i64 (l).pi, .int .i64 (l).fee, .int .i64 (l).pen, .int .i64 (l).chg, .int .i64 (l).prov, .int .i64 (l).loss, .int .i64 (l).rcv, .int .i64 ((l).tm).me, .int .i64 ((l).tm).pr, .int .i64 ((l).tm).ppm, .int .i64 ((l).tm).stt, .int .i64 ((l).tm).ev, .int .i64 ((l).tm).ct, .int .i64 ((l).tm).ba, .int .i64 ((l).tm).mo, .int .i64 ((l).tm).pen, .int .i64 ((l).tm).fe, .string ((l).tm).cal, .string ((l).tm).cur, .slice da (l).ds.length dk, .slice ca (l).cs.length ck]), .agg #[.int .i64 n, .int .i64 m], .int .i64 on] w fun e w' => e = .returned (.bool true) ∧ Below w.heap.size w w' := by
  have HH := Lib.hid h
  have HG := Lib.hid (great_any l da ca dk ck)
  have HGL := Lib.hid (great_len (l := l))
  have HN := Lib.hid (wf_n hn)
  have HM := Lib.hid (wf_n hm)
  clear h hn hm
  generalize greatB l = gb at *
  have cw : Below w.heap.size w ((w.alloc (.cells #[.int .i64 (l).id, .int .i64 (l).ac, .int .i64 (l).st, .int .i64 (l).pp, .int .i64 (l).pi, .int .i64 (l).fee, .int .i64 (l).pen, .int .i64 (l).chg, .int .i64 (l).prov, .int .i64 (l).loss, .int .i64 (l).rcv, .int .i64 ((l).tm).me, .int .i64 ((l).tm).pr, .int .i64 ((l).tm).ppm, .int .i64 ((l).tm).stt, .int .i64 ((l).tm).ev, .int .i64 ((l).tm).ct, .int .i64 ((l).tm).ba, .int .i64 ((l).tm).mo, .int .i64 ((l).tm).pen, .int .i64 ((l).tm).fe, .string ((l).tm).cal, .string ((l).tm).cur, .slice da (l).ds.length dk, .slice ca (l).cs.length ck] 27)).alloc (.cells #[.int .i64 n, .int .i64 m] 45)) := ((Below.refl _ _).alloc (Nat.le_refl _) _).alloc (by simp) _
  go_enter Try.func6, Try.ntmps6
  go_wp2_with (refine wpList_load_row rfl 27 _ rfl _ rfl _ _ _ _ (Bk.Blk.nw20) Try.underlying27 rfl (by kernel_rfl) ?_)
  refine (HG.out _).mono ?_
  rintro e w1 ⟨rfl, hb⟩
  have k0 := Bk.Blk.later (g := w.heap.size) hb (Bk.Blk.nw20 (W := w) (cs := #[.int .i64 (l).id, .int .i64 (l).ac, .int .i64 (l).st, .int .i64 (l).pp, .int .i64 (l).pi, .int .i64 (l).fee, .int .i64 (l).pen, .int .i64 (l).chg, .int .i64 (l).prov, .int .i64 (l).loss, .int .i64 (l).rcv, .int .i64 ((l).tm).me, .int .i64 ((l).tm).pr, .int .i64 ((l).tm).ppm, .int .i64 ((l).tm).stt, .int .i64 ((l).tm).ev, .int .i64 ((l).tm).ct, .int .i64 ((l).tm).ba, .int .i64 ((l).tm).mo, .int .i64 ((l).tm).pen, .int .i64 ((l).tm).fe, .string ((l).tm).cal, .string ((l).tm).cur, .slice da (l).ds.length dk, .slice ca (l).cs.length ck]) (t := 27) (o1 := .cells #[.int .i64 n, .int .i64 m] 45))
  have kb := Bk.Blk.later (g := w.heap.size + 1) hb (Bk.Blk.nw21 (W := w) (o0 := .cells #[.int .i64 (l).id, .int .i64 (l).ac, .int .i64 (l).st, .int .i64 (l).pp, .int .i64 (l).pi, .int .i64 (l).fee, .int .i64 (l).pen, .int .i64 (l).chg, .int .i64 (l).prov, .int .i64 (l).loss, .int .i64 (l).rcv, .int .i64 ((l).tm).me, .int .i64 ((l).tm).pr, .int .i64 ((l).tm).ppm, .int .i64 ((l).tm).stt, .int .i64 ((l).tm).ev, .int .i64 ((l).tm).ct, .int .i64 ((l).tm).ba, .int .i64 ((l).tm).mo, .int .i64 ((l).tm).pen, .int .i64 ((l).tm).fe, .string ((l).tm).cal, .string ((l).tm).cur, .slice da (l).ds.length dk, .slice ca (l).cs.length ck] 27) (cs := #[.int .i64 n, .int .i64 m]) (t := 45))
  have cw1 := bl2 hb cw
  clear hb cw HG
  have lb0 := kb.c0
  have lb1 := kb.c1
  cases gb
  · have hlen := HGL.out rfl
    have HLEN := Lib.hid (show l.ds.length ≤ 100000 ∧ l.cs.length ≤ 100000 from ⟨by omega, by omega⟩)
    clear hlen HGL
    by_cases hn1 : 1000000000000 < n
    · have bq1 : decide (1000000000000 < n) = true := decide_eq_true hn1
      clear hn1
      go_wp2_with fail
      go_ret
      exact ⟨rfl, cw1⟩
    · by_cases hm1 : 1000000000000 < m
      · have bq1 : decide (1000000000000 < n) = false := decide_eq_false hn1
        have bq2 : decide (1000000000000 < m) = true := decide_eq_true hm1
        clear hn1 hm1
        go_wp2_with fail
        go_ret
        exact ⟨rfl, cw1⟩
      · have bq1 : decide (1000000000000 < n) = false := decide_eq_false hn1
        have bq2 : decide (1000000000000 < m) = false := decide_eq_false hm1
        have HNM := Lib.hid (And.intro hn1 hm1)
        clear hn1 hm1
        have hl := HH.out.later cw1
        obtain ⟨A, hA⟩ : ∃ A, A = payA l n on := ⟨_, rfl⟩
        obtain ⟨E, hE⟩ : ∃ E, E = payE l n on := ⟨_, rfl⟩
        obtain ⟨p1, hP⟩ : ∃ ps, ps = payP l n on := ⟨_, rfl⟩
        have HP := Lib.hid (pay_at hA hE.symm hP.symm HLEN.out.1)
        have HAL := Lib.hid (show A.ds.length ≤ 100000 ∧ A.cs.length ≤ 100000 from ⟨by rw [hA]; exact payA_len HLEN.out.1, by rw [hA]; exact payA_clen HLEN.out.2⟩)
        have HPL := Lib.hid (show p1.length ≤ 100000 by rw [hP]; exact payP_len)
        have HA := Lib.hid hA
        have HE := Lib.hid hE
        have HP1 := Lib.hid hP
        clear hA hE hP
        go_upto_region 3 with fail
        go_wp2_with (refine wpList_load_row rfl 27 _ rfl _ rfl _ _ _ _ (k0) Try.underlying27 rfl (by kernel_rfl) ?_)
        refine (HP.out _ _ _ _ _ hl).mono ?_
        rintro e w2 ⟨pa1, pc1, da1, dk1, ca1, ck1, rfl, hp1, hl1, hb⟩
        replace k0 := k0.later hb
        replace kb := kb.later hb
        replace hl := hl.later hb
        have cw2 := bl2 hb cw1
        clear hb cw1
        go_upto_region 4 with (refine wpList_store_row rfl 27 _ _ rfl _ _ rfl rfl _ _ Bk.Blk.nw10 (by kernel_rfl) rfl (one25 ..) ?_)
        have hbs : Below w2.heap.size w2 ((w2.alloc (.cells #[.int .i64 0, .int .i64 0, .int .i64 0, .int .i64 0, .int .i64 0, .int .i64 0, .int .i64 0, .int .i64 0, .int .i64 0, .int .i64 0, .int .i64 0, .int .i64 0, .int .i64 0, .int .i64 0, .int .i64 0, .int .i64 0, .int .i64 0, .int .i64 0, .int .i64 0, .int .i64 0, .int .i64 0, .string { data := #[] }, .string { data := #[] }, .slice none 0 0, .slice none 0 0] 27)).setRow w2.heap.size #[.int .i64 (A).id, .int .i64 (A).ac, .int .i64 (A).st, .int .i64 (A).pp, .int .i64 (A).pi, .int .i64 (A).fee, .int .i64 (A).pen, .int .i64 (A).chg, .int .i64 (A).prov, .int .i64 (A).loss, .int .i64 (A).rcv, .int .i64 ((A).tm).me, .int .i64 ((A).tm).pr, .int .i64 ((A).tm).ppm, .int .i64 ((A).tm).stt, .int .i64 ((A).tm).ev, .int .i64 ((A).tm).ct, .int .i64 ((A).tm).ba, .int .i64 ((A).tm).mo, .int .i64 ((A).tm).pen, .int .i64 ((A).tm).fe, .string ((A).tm).cal, .string ((A).tm).cur, .slice da1 (A).ds.length dk1, .slice ca1 (A).cs.length ck1]) := Below_setRow ((Below.refl _ _).alloc (Nat.le_refl _) _) (Nat.le_refl _) _
        have k1 : Bk.Blk ((w2.alloc (.cells #[.int .i64 0, .int .i64 0, .int .i64 0, .int .i64 0, .int .i64 0, .int .i64 0, .int .i64 0, .int .i64 0, .int .i64 0, .int .i64 0, .int .i64 0, .int .i64 0, .int .i64 0, .int .i64 0, .int .i64 0, .int .i64 0, .int .i64 0, .int .i64 0, .int .i64 0, .int .i64 0, .int .i64 0, .string { data := #[] }, .string { data := #[] }, .slice none 0 0, .slice none 0 0] 27)).setRow w2.heap.size #[.int .i64 (A).id, .int .i64 (A).ac, .int .i64 (A).st, .int .i64 (A).pp, .int .i64 (A).pi, .int .i64 (A).fee, .int .i64 (A).pen, .int .i64 (A).chg, .int .i64 (A).prov, .int .i64 (A).loss, .int .i64 (A).rcv, .int .i64 ((A).tm).me, .int .i64 ((A).tm).pr, .int .i64 ((A).tm).ppm, .int .i64 ((A).tm).stt, .int .i64 ((A).tm).ev, .int .i64 ((A).tm).ct, .int .i64 ((A).tm).ba, .int .i64 ((A).tm).mo, .int .i64 ((A).tm).pen, .int .i64 ((A).tm).fe, .string ((A).tm).cal, .string ((A).tm).cur, .slice da1 (A).ds.length dk1, .slice ca1 (A).cs.length ck1]) w2.heap.size #[.int .i64 (A).id, .int .i64 (A).ac, .int .i64 (A).st, .int .i64 (A).pp, .int .i64 (A).pi, .int .i64 (A).fee, .int .i64 (A).pen, .int .i64 (A).chg, .int .i64 (A).prov, .int .i64 (A).loss, .int .i64 (A).rcv, .int .i64 ((A).tm).me, .int .i64 ((A).tm).pr, .int .i64 ((A).tm).ppm, .int .i64 ((A).tm).stt, .int .i64 ((A).tm).ev, .int .i64 ((A).tm).ct, .int .i64 ((A).tm).ba, .int .i64 ((A).tm).mo, .int .i64 ((A).tm).pen, .int .i64 ((A).tm).fe, .string ((A).tm).cal, .string ((A).tm).cur, .slice da1 (A).ds.length dk1, .slice ca1 (A).cs.length ck1] 27 := Blk_setRow_same Bk.Blk.nw10
        replace k0 := k0.later hbs
        replace kb := kb.later hbs
        replace hl := hl.later hbs
        replace hp1 := hp1.later hbs
        replace hl1 := hl1.later hbs
        have cw3 := bl2 hbs cw2
        clear cw2 hbs
        generalize ((w2.alloc (.cells #[.int .i64 0, .int .i64 0, .int .i64 0, .int .i64 0, .int .i64 0, .int .i64 0, .int .i64 0, .int .i64 0, .int .i64 0, .int .i64 0, .int .i64 0, .int .i64 0, .int .i64 0, .int .i64 0, .int .i64 0, .int .i64 0, .int .i64 0, .int .i64 0, .int .i64 0, .int .i64 0, .int .i64 0, .string { data := #[] }, .string { data := #[] }, .slice none 0 0, .slice none 0 0] 27)).setRow w2.heap.size #[.int .i64 (A).id, .int .i64 (A).ac, .int .i64 (A).st, .int .i64 (A).pp, .int .i64 (A).pi, .int .i64 (A).fee, .int .i64 (A).pen, .int .i64 (A).chg, .int .i64 (A).prov, .int .i64 (A).loss, .int .i64 (A).rcv, .int .i64 ((A).tm).me, .int .i64 ((A).tm).pr, .int .i64 ((A).tm).ppm, .int .i64 ((A).tm).stt, .int .i64 ((A).tm).ev, .int .i64 ((A).tm).ct, .int .i64 ((A).tm).ba, .int .i64 ((A).tm).mo, .int .i64 ((A).tm).pen, .int .i64 ((A).tm).fe, .string ((A).tm).cal, .string ((A).tm).cur, .slice da1 (A).ds.length dk1, .slice ca1 (A).cs.length ck1]) = w3 at *
        generalize w2.heap.size = g1 at *
        clear lb0 lb1 bq1 bq2 HP
        have l2 := k1.c2
        by_cases hE0 : E = 0
        · by_cases hst : A.st = 1
          · have bq1 : (E != 0) = false := by rw [hE0]; rfl
            have bq2 : (A.st != 1) = false := by rw [hst]; rfl
            have he : payE l n on = 0 := by rw [← HE.out]; exact hE0
            have hpl : payA l n on = payL l n on := if_pos he
            have hok := (payE_zero he)
            have hAk : Ok A := by rw [HA.out, hpl]; exact hok.1.pay hok.2.2.2.2.2 (by omega)
            have F01 := payE_01 (n := m) hAk hst (on := on) ⟨hok.2.2.2.1, hok.2.2.2.2.1⟩
            have G01 := payE_01 (n := n + m) hok.1 hok.2.2.2.2.2 (on := on) ⟨hok.2.2.2.1, hok.2.2.2.2.1⟩
            have HNN := Lib.hid (And.intro hok.2.1 hok.2.2.1)
            have hnm : IntKind.i64.wrap (n + m) = n + m := by rw [IntKind.wrap_i64]; have := HM.out; have := HNM.out; have := hok.2.1; omega
            have HST := Lib.hid hst
            have HEZ := Lib.hid he
            have HPLA := Lib.hid hpl
            clear hE0 hst he hpl hok hAk
            obtain ⟨B, hB⟩ : ∃ A', A' = payA A m on := ⟨_, rfl⟩
            obtain ⟨p2, hP2⟩ : ∃ ps, ps = payP A m on := ⟨_, rfl⟩
            obtain ⟨p3, hP3⟩ : ∃ ps, ps = payP l (n + m) on := ⟨_, rfl⟩
            obtain ⟨C, hC⟩ : ∃ A', A' = payA l (n + m) on := ⟨_, rfl⟩
            obtain ⟨F, hF⟩ : ∃ F, F = payE A m on := ⟨_, rfl⟩
            obtain ⟨G, hG⟩ : ∃ F, F = payE l (n + m) on := ⟨_, rfl⟩
            rw [← hF] at F01
            rw [← hG] at G01
            have HQ := Lib.hid (pay_at hB hF.symm hP2.symm HAL.out.1)
            have HR := Lib.hid (pay_at hC hG.symm hP3.symm HLEN.out.1)
            have HFG := Lib.hid (And.intro F01 G01)
            have HEQ : Hid (F = 0 → G = 0 → B = C ∧ ∀ k, 1 ≤ k → k ≤ 5 → ofK p1 k + ofK p2 k = ofK p3 k ∧ 0 ≤ ofK p1 k ∧ ofK p1 k ≤ 1000000000000 ∧ 0 ≤ ofK p2 k ∧ ofK p2 k ≤ 1000000000000) := Lib.hid (fun f0 g0 => by
              have hf : payE (payL l n on) m on = 0 := by rw [← HPLA.out, ← HA.out, ← hF]; exact f0
              have hg : payE l (n + m) on = 0 := by rw [← hG]; exact g0
              obtain ⟨t1, t2⟩ := twice_plain HEZ.out (by rw [← HPLA.out, ← HA.out]; exact HST.out) hf
              have nb := HNN.out
              have mb := payE_zero hf
              have sb := payE_zero hg
              have q1 : p1 = (payD l n on).pps := by rw [HP1.out]; exact if_pos HEZ.out
              have q2 : p2 = (payD (payL l n on) m on).pps := by rw [hP2, HA.out, HPLA.out]; exact if_pos hf
              have q3 : p3 = (payD l (n + m) on).pps := by rw [hP3]; exact if_pos hg
              refine ⟨?_, fun k k1 k5 => ?_⟩
              · rw [hB, hC, HA.out, HPLA.out]
                unfold payA
                rw [if_pos hf, if_pos hg, t2]
              · rw [q1, q2, q3, ofK_pay (by omega) (by omega) k1 k5, ofK_pay (by omega) (by omega) k1 k5, ofK_pay (by omega) (by omega) k1 k5]
                have b1 := payD_bd (l := l) (n := n) (on := on) (k := k) (by omega)
                have b2 := payD_bd (l := payL l n on) (n := m) (on := on) (k := k) (by omega)
                exact ⟨t1 k, b1.1, by omega, b2.1, by omega⟩)
            have HPL2 := Lib.hid (show p2.length ≤ 100000 ∧ p3.length ≤ 100000 from ⟨by rw [hP2]; exact payP_len, by rw [hP3]; exact payP_len⟩)
            have HBL := Lib.hid (show B.ds.length ≤ 100000 ∧ B.cs.length ≤ 100000 from ⟨by rw [hB]; exact payA_len HAL.out.1, by rw [hB]; exact payA_clen HAL.out.2⟩)
            clear hB hP2 hP3 hC hF hG F01 G01
            have lb0 := kb.c0
            have lb1 := kb.c1
            go_upto_region 6 with fail
            clear l2
            go_wp2_with (refine wpList_load_row rfl 27 _ rfl _ rfl _ _ _ _ (k1) Try.underlying27 rfl (by kernel_rfl) ?_)
            refine (HQ.out _ _ _ _ _ hl1).mono ?_
            rintro e w4 ⟨pa2, pc2, da2, dk2, ca2, ck2, rfl, hp2, hl2, hb⟩
            replace k0 := k0.later hb
            replace kb := kb.later hb
            replace hl := hl.later hb
            replace hp1 := hp1.later hb
            replace hl1 := hl1.later hb
            replace k1 := k1.later hb
            have cw4 := bl2 hb cw3
            clear hb cw3
            go_upto_region 7 with (refine wpList_store_row rfl 27 _ _ rfl _ _ rfl rfl _ _ Bk.Blk.nw10 (by kernel_rfl) rfl (one25 ..) ?_)
            have hbs : Below w4.heap.size w4 ((w4.alloc (.cells #[.int .i64 0, .int .i64 0, .int .i64 0, .int .i64 0, .int .i64 0, .int .i64 0, .int .i64 0, .int .i64 0, .int .i64 0, .int .i64 0, .int .i64 0, .int .i64 0, .int .i64 0, .int .i64 0, .int .i64 0, .int .i64 0, .int .i64 0, .int .i64 0, .int .i64 0, .int .i64 0, .int .i64 0, .string { data := #[] }, .string { data := #[] }, .slice none 0 0, .slice none 0 0] 27)).setRow w4.heap.size #[.int .i64 (B).id, .int .i64 (B).ac, .int .i64 (B).st, .int .i64 (B).pp, .int .i64 (B).pi, .int .i64 (B).fee, .int .i64 (B).pen, .int .i64 (B).chg, .int .i64 (B).prov, .int .i64 (B).loss, .int .i64 (B).rcv, .int .i64 ((B).tm).me, .int .i64 ((B).tm).pr, .int .i64 ((B).tm).ppm, .int .i64 ((B).tm).stt, .int .i64 ((B).tm).ev, .int .i64 ((B).tm).ct, .int .i64 ((B).tm).ba, .int .i64 ((B).tm).mo, .int .i64 ((B).tm).pen, .int .i64 ((B).tm).fe, .string ((B).tm).cal, .string ((B).tm).cur, .slice da2 (B).ds.length dk2, .slice ca2 (B).cs.length ck2]) := Below_setRow ((Below.refl _ _).alloc (Nat.le_refl _) _) (Nat.le_refl _) _
            have k2 : Bk.Blk ((w4.alloc (.cells #[.int .i64 0, .int .i64 0, .int .i64 0, .int .i64 0, .int .i64 0, .int .i64 0, .int .i64 0, .int .i64 0, .int .i64 0, .int .i64 0, .int .i64 0, .int .i64 0, .int .i64 0, .int .i64 0, .int .i64 0, .int .i64 0, .int .i64 0, .int .i64 0, .int .i64 0, .int .i64 0, .int .i64 0, .string { data := #[] }, .string { data := #[] }, .slice none 0 0, .slice none 0 0] 27)).setRow w4.heap.size #[.int .i64 (B).id, .int .i64 (B).ac, .int .i64 (B).st, .int .i64 (B).pp, .int .i64 (B).pi, .int .i64 (B).fee, .int .i64 (B).pen, .int .i64 (B).chg, .int .i64 (B).prov, .int .i64 (B).loss, .int .i64 (B).rcv, .int .i64 ((B).tm).me, .int .i64 ((B).tm).pr, .int .i64 ((B).tm).ppm, .int .i64 ((B).tm).stt, .int .i64 ((B).tm).ev, .int .i64 ((B).tm).ct, .int .i64 ((B).tm).ba, .int .i64 ((B).tm).mo, .int .i64 ((B).tm).pen, .int .i64 ((B).tm).fe, .string ((B).tm).cal, .string ((B).tm).cur, .slice da2 (B).ds.length dk2, .slice ca2 (B).cs.length ck2]) w4.heap.size #[.int .i64 (B).id, .int .i64 (B).ac, .int .i64 (B).st, .int .i64 (B).pp, .int .i64 (B).pi, .int .i64 (B).fee, .int .i64 (B).pen, .int .i64 (B).chg, .int .i64 (B).prov, .int .i64 (B).loss, .int .i64 (B).rcv, .int .i64 ((B).tm).me, .int .i64 ((B).tm).pr, .int .i64 ((B).tm).ppm, .int .i64 ((B).tm).stt, .int .i64 ((B).tm).ev, .int .i64 ((B).tm).ct, .int .i64 ((B).tm).ba, .int .i64 ((B).tm).mo, .int .i64 ((B).tm).pen, .int .i64 ((B).tm).fe, .string ((B).tm).cal, .string ((B).tm).cur, .slice da2 (B).ds.length dk2, .slice ca2 (B).cs.length ck2] 27 := Blk_setRow_same Bk.Blk.nw10
            replace k0 := k0.later hbs
            replace kb := kb.later hbs
            replace hl := hl.later hbs
            replace hp1 := hp1.later hbs
            replace hl1 := hl1.later hbs
            replace k1 := k1.later hbs
            replace hp2 := hp2.later hbs
            replace hl2 := hl2.later hbs
            have cw5 := bl2 hbs cw4
            clear cw4 hbs
            generalize ((w4.alloc (.cells #[.int .i64 0, .int .i64 0, .int .i64 0, .int .i64 0, .int .i64 0, .int .i64 0, .int .i64 0, .int .i64 0, .int .i64 0, .int .i64 0, .int .i64 0, .int .i64 0, .int .i64 0, .int .i64 0, .int .i64 0, .int .i64 0, .int .i64 0, .int .i64 0, .int .i64 0, .int .i64 0, .int .i64 0, .string { data := #[] }, .string { data := #[] }, .slice none 0 0, .slice none 0 0] 27)).setRow w4.heap.size #[.int .i64 (B).id, .int .i64 (B).ac, .int .i64 (B).st, .int .i64 (B).pp, .int .i64 (B).pi, .int .i64 (B).fee, .int .i64 (B).pen, .int .i64 (B).chg, .int .i64 (B).prov, .int .i64 (B).loss, .int .i64 (B).rcv, .int .i64 ((B).tm).me, .int .i64 ((B).tm).pr, .int .i64 ((B).tm).ppm, .int .i64 ((B).tm).stt, .int .i64 ((B).tm).ev, .int .i64 ((B).tm).ct, .int .i64 ((B).tm).ba, .int .i64 ((B).tm).mo, .int .i64 ((B).tm).pen, .int .i64 ((B).tm).fe, .string ((B).tm).cal, .string ((B).tm).cur, .slice da2 (B).ds.length dk2, .slice ca2 (B).cs.length ck2]) = w5 at *
            generalize w4.heap.size = g2 at *
            replace lb0 := kb.c0
            replace lb1 := kb.c1
            go_wp2_with (refine wpList_load_row rfl 27 _ rfl _ rfl _ _ _ _ (k0) Try.underlying27 rfl (by kernel_rfl) ?_)
            refine (HR.out _ _ _ _ _ hl).mono ?_
            rintro e w6 ⟨pa3, pc3, da3, dk3, ca3, ck3, rfl, hp3, hl3, hb⟩
            replace k0 := k0.later hb
            replace kb := kb.later hb
            replace hl := hl.later hb
            replace hp1 := hp1.later hb
            replace hl1 := hl1.later hb
            replace k1 := k1.later hb
            replace hp2 := hp2.later hb
            replace hl2 := hl2.later hb
            replace k2 := k2.later hb
            have cw6 := bl2 hb cw5
            clear hb cw5
            go_upto_region 8 with (refine wpList_store_row rfl 27 _ _ rfl _ _ rfl rfl _ _ Bk.Blk.nw10 (by kernel_rfl) rfl (one25 ..) ?_)
            have hbs : Below w6.heap.size w6 ((w6.alloc (.cells #[.int .i64 0, .int .i64 0, .int .i64 0, .int .i64 0, .int .i64 0, .int .i64 0, .int .i64 0, .int .i64 0, .int .i64 0, .int .i64 0, .int .i64 0, .int .i64 0, .int .i64 0, .int .i64 0, .int .i64 0, .int .i64 0, .int .i64 0, .int .i64 0, .int .i64 0, .int .i64 0, .int .i64 0, .string { data := #[] }, .string { data := #[] }, .slice none 0 0, .slice none 0 0] 27)).setRow w6.heap.size #[.int .i64 (C).id, .int .i64 (C).ac, .int .i64 (C).st, .int .i64 (C).pp, .int .i64 (C).pi, .int .i64 (C).fee, .int .i64 (C).pen, .int .i64 (C).chg, .int .i64 (C).prov, .int .i64 (C).loss, .int .i64 (C).rcv, .int .i64 ((C).tm).me, .int .i64 ((C).tm).pr, .int .i64 ((C).tm).ppm, .int .i64 ((C).tm).stt, .int .i64 ((C).tm).ev, .int .i64 ((C).tm).ct, .int .i64 ((C).tm).ba, .int .i64 ((C).tm).mo, .int .i64 ((C).tm).pen, .int .i64 ((C).tm).fe, .string ((C).tm).cal, .string ((C).tm).cur, .slice da3 (C).ds.length dk3, .slice ca3 (C).cs.length ck3]) := Below_setRow ((Below.refl _ _).alloc (Nat.le_refl _) _) (Nat.le_refl _) _
            have k3 : Bk.Blk ((w6.alloc (.cells #[.int .i64 0, .int .i64 0, .int .i64 0, .int .i64 0, .int .i64 0, .int .i64 0, .int .i64 0, .int .i64 0, .int .i64 0, .int .i64 0, .int .i64 0, .int .i64 0, .int .i64 0, .int .i64 0, .int .i64 0, .int .i64 0, .int .i64 0, .int .i64 0, .int .i64 0, .int .i64 0, .int .i64 0, .string { data := #[] }, .string { data := #[] }, .slice none 0 0, .slice none 0 0] 27)).setRow w6.heap.size #[.int .i64 (C).id, .int .i64 (C).ac, .int .i64 (C).st, .int .i64 (C).pp, .int .i64 (C).pi, .int .i64 (C).fee, .int .i64 (C).pen, .int .i64 (C).chg, .int .i64 (C).prov, .int .i64 (C).loss, .int .i64 (C).rcv, .int .i64 ((C).tm).me, .int .i64 ((C).tm).pr, .int .i64 ((C).tm).ppm, .int .i64 ((C).tm).stt, .int .i64 ((C).tm).ev, .int .i64 ((C).tm).ct, .int .i64 ((C).tm).ba, .int .i64 ((C).tm).mo, .int .i64 ((C).tm).pen, .int .i64 ((C).tm).fe, .string ((C).tm).cal, .string ((C).tm).cur, .slice da3 (C).ds.length dk3, .slice ca3 (C).cs.length ck3]) w6.heap.size #[.int .i64 (C).id, .int .i64 (C).ac, .int .i64 (C).st, .int .i64 (C).pp, .int .i64 (C).pi, .int .i64 (C).fee, .int .i64 (C).pen, .int .i64 (C).chg, .int .i64 (C).prov, .int .i64 (C).loss, .int .i64 (C).rcv, .int .i64 ((C).tm).me, .int .i64 ((C).tm).pr, .int .i64 ((C).tm).ppm, .int .i64 ((C).tm).stt, .int .i64 ((C).tm).ev, .int .i64 ((C).tm).ct, .int .i64 ((C).tm).ba, .int .i64 ((C).tm).mo, .int .i64 ((C).tm).pen, .int .i64 ((C).tm).fe, .string ((C).tm).cal, .string ((C).tm).cur, .slice da3 (C).ds.length dk3, .slice ca3 (C).cs.length ck3] 27 := Blk_setRow_same Bk.Blk.nw10
            replace k0 := k0.later hbs
            replace kb := kb.later hbs
            replace hl := hl.later hbs
            replace hp1 := hp1.later hbs
            replace hl1 := hl1.later hbs
            replace k1 := k1.later hbs
            replace hp2 := hp2.later hbs
            replace hl2 := hl2.later hbs
            replace k2 := k2.later hbs
            replace hp3 := hp3.later hbs
            replace hl3 := hl3.later hbs
            have cw7 := bl2 hbs cw6
            clear cw6 hbs
            generalize ((w6.alloc (.cells #[.int .i64 0, .int .i64 0, .int .i64 0, .int .i64 0, .int .i64 0, .int .i64 0, .int .i64 0, .int .i64 0, .int .i64 0, .int .i64 0, .int .i64 0, .int .i64 0, .int .i64 0, .int .i64 0, .int .i64 0, .int .i64 0, .int .i64 0, .int .i64 0, .int .i64 0, .int .i64 0, .int .i64 0, .string { data := #[] }, .string { data := #[] }, .slice none 0 0, .slice none 0 0] 27)).setRow w6.heap.size #[.int .i64 (C).id, .int .i64 (C).ac, .int .i64 (C).st, .int .i64 (C).pp, .int .i64 (C).pi, .int .i64 (C).fee, .int .i64 (C).pen, .int .i64 (C).chg, .int .i64 (C).prov, .int .i64 (C).loss, .int .i64 (C).rcv, .int .i64 ((C).tm).me, .int .i64 ((C).tm).pr, .int .i64 ((C).tm).ppm, .int .i64 ((C).tm).stt, .int .i64 ((C).tm).ev, .int .i64 ((C).tm).ct, .int .i64 ((C).tm).ba, .int .i64 ((C).tm).mo, .int .i64 ((C).tm).pen, .int .i64 ((C).tm).fe, .string ((C).tm).cal, .string ((C).tm).cur, .slice da3 (C).ds.length dk3, .slice ca3 (C).cs.length ck3]) = w7 at *
            generalize w6.heap.size = g3 at *
            clear lb0 lb1 hnm bq1 bq2 HQ HR k0 kb k1
            rcases HFG.out with ⟨rfl | rfl, rfl | rfl⟩
            · obtain ⟨hBC, hof⟩ := HEQ.out rfl rfl
              subst hBC
              have HOF := Lib.hid hof
              clear hof HEQ
              go_wp2_with fail
              go_loopg [16] 5 (twR w7)
              case atStart => exact ⟨1, by omega, by omega, rfl, rfl⟩
              case round =>
                obtain ⟨k, k1, hk, rfl, rfl⟩ := hrel
                by_cases hlt : k ≤ 5
                · obtain ⟨t1, u0, u1, v0, v1⟩ := HOF.out k k1 hlt
                  have c1 := of_any pa1 pc1 p1 k w7 hp1 HPL.out
                  have c2 := of_any pa2 pc2 p2 k w7 hp2 HPL2.out.1
                  have c3 := of_any pa3 pc3 p3 k w7 hp3 HPL2.out.2
                  rw [← t1] at c3
                  clear t1
                  generalize ofK p1 k = u at *
                  generalize ofK p2 k = v at *
                  have C1 := Lib.hid c1
                  have C2 := Lib.hid c2
                  have C3 := Lib.hid c3
                  clear c1 c2 c3
                  have gN : (u + v != u + v) = false := by simp
                  go_wp2_with fail
                  refine C1.out.mono ?_
                  rintro e w' ⟨rfl, rfl⟩
                  go_wp2_with fail
                  refine C2.out.mono ?_
                  rintro e w' ⟨rfl, rfl⟩
                  go_wp2_with fail
                  refine C3.out.mono ?_
                  rintro e w' ⟨rfl, rfl⟩
                  go_wp2_with fail
                  go_roundg (gk - 1)
                  case measure => omega
                  case rel => exact ⟨k + 1, by omega, by omega, rfl, rfl⟩
                · go_upto_region 15 with fail
                  go_wp2_with (first | (refine wpList_load_row rfl 27 _ rfl _ rfl _ _ _ _ (k2) Try.underlying27 rfl (by kernel_rfl) ?_) | (refine wpList_load_row rfl 27 _ rfl _ rfl _ _ _ _ (k3) Try.underlying27 rfl (by kernel_rfl) ?_))
                  refine (same_any B da2 ca2 da3 ca3 dk2 ck2 dk3 ck3 _ hl2.d hl3.d hl2.c hl3.c HBL.out.1 HBL.out.2).mono ?_
                  rintro e w8 ⟨rfl, hb⟩
                  have cw8 := bl2 hb cw7
                  clear hb
                  go_wp2_with fail
                  refine (live_any _).mono ?_
                  rintro e w9 ⟨rfl, hb⟩
                  have cw9 := bl2 hb cw8
                  clear hb
                  go_wp2_with fail
                  go_ret
                  exact ⟨rfl, cw9⟩
            · go_wp2_with fail
              refine (live_any _).mono ?_
              rintro e w8 ⟨rfl, hb⟩
              have cw8 := bl2 hb cw7
              go_wp2_with fail
              go_ret
              exact ⟨rfl, cw8⟩
            · go_wp2_with fail
              refine (live_any _).mono ?_
              rintro e w8 ⟨rfl, hb⟩
              have cw8 := bl2 hb cw7
              go_wp2_with fail
              go_ret
              exact ⟨rfl, cw8⟩
            · go_wp2_with fail
              refine (live_any _).mono ?_
              rintro e w8 ⟨rfl, hb⟩
              have cw8 := bl2 hb cw7
              go_wp2_with fail
              go_ret
              exact ⟨rfl, cw8⟩
          · have bq1 : (E != 0) = false := by rw [hE0]; rfl
            have bq2 : (A.st != 1) = true := bne_iff_ne.2 hst
            clear hE0 hst
            go_wp2_with fail
            refine (live_any _).mono ?_
            rintro e w4 ⟨rfl, hb⟩
            have cw4 := bl2 hb cw3
            go_wp2_with fail
            go_ret
            exact ⟨rfl, cw4⟩
        · have bq1 : (E != 0) = true := bne_iff_ne.2 hE0
          clear hE0
          go_wp2_with fail
          refine (live_any _).mono ?_
          rintro e w4 ⟨rfl, hb⟩
          have cw4 := bl2 hb cw3
          go_wp2_with fail
          go_ret
          exact ⟨rfl, cw4⟩
  · go_wp2_with fail
    go_ret
    exact ⟨rfl, cw1⟩
end Go.Proofs.Ytaibocobeibobaa.Ln
