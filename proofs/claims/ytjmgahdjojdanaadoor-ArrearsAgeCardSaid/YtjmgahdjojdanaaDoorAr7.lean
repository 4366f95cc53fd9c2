/-
  ArrearsAge: its walk.
-/
import Derived.Test.YtjmgahdjojdanaaDoorAr5
import Derived.Test.YtjmgahdjojdanaaDoorAmo
import Derived.Test.YtjmgahdjojdanaaDoorLp5
namespace Go.Proofs.YtjmgahdjojdanaaDoor.Ln
open Go.RowKit
open Go.Proofs.YtjmgahdjojdanaaDoor
open Go.Proofs.YtjmgahdjojdanaaDoor.Wm
set_option linter.unusedSimpArgs false
set_option maxRecDepth 100000

theorem pay_atA {l A : Lo} {n on : Int} {ps : List Pa} (hA : A = payA l n on) (hE : payE l n on = 0) (hP : payP l n on = ps) (hn : l.ds.length ≤ 100000) (da ca : Option Addr) (dk ck : Nat) (w : World) (h : LoInA w l da ca) :
    Calls Tryd.prog 25 #[(.agg #[.int .i64 (l).id, .int .i64 (l).ac, .int .i64 (l).st, .int .i64 (l).pp, .int .i64 (l).pi, .int .i64 (l).fee, .int .i64 (l).pen, .int .i64 (l).chg, .int .i64 (l).prov, .int .i64 (l).loss, .int .i64 (l).rcv, .int .i64 ((l).tm).me, .int .i64 ((l).tm).pr, .int .i64 ((l).tm).ppm, .int .i64 ((l).tm).stt, .int .i64 ((l).tm).ev, .int .i64 ((l).tm).ct, .int .i64 ((l).tm).ba, .int .i64 ((l).tm).mo, .int .i64 ((l).tm).pen, .int .i64 ((l).tm).fe, .string ((l).tm).cal, .string ((l).tm).cur, .slice da (l).ds.length dk, .slice ca (l).cs.length ck]), .int .i64 n, .int .i64 on] w fun e w' => ∃ a c da' dk' ca' ck', e = .returned (.tuple #[(.agg #[.int .i64 (A).id, .int .i64 (A).ac, .int .i64 (A).st, .int .i64 (A).pp, .int .i64 (A).pi, .int .i64 (A).fee, .int .i64 (A).pen, .int .i64 (A).chg, .int .i64 (A).prov, .int .i64 (A).loss, .int .i64 (A).rcv, .int .i64 ((A).tm).me, .int .i64 ((A).tm).pr, .int .i64 ((A).tm).ppm, .int .i64 ((A).tm).stt, .int .i64 ((A).tm).ev, .int .i64 ((A).tm).ct, .int .i64 ((A).tm).ba, .int .i64 ((A).tm).mo, .int .i64 ((A).tm).pen, .int .i64 ((A).tm).fe, .string ((A).tm).cal, .string ((A).tm).cur, .slice da' (A).ds.length dk', .slice ca' (A).cs.length ck']), .slice a ps.length c, .int .i64 0]) ∧ LoInA w' A da' ca' ∧ Below w.heap.size w w' := by
  subst hA hP
  refine (pay_any l da ca dk ck n on w ⟨h.d, h.c⟩ hn).mono fun e w' hh => ?_
  obtain ⟨a, c, da', dk', ca', ck', h1, h2, h3, h4⟩ := hh
  rw [hE] at h1
  exact ⟨a, c, da', dk', ca', ck', h1, ⟨h3.d, h3.c⟩, h4⟩
theorem owed_atA {l : Lo} {on : Int} {ps : List Pa} (hP : powed l on = ps) (hn : l.ds.length ≤ 100000) (da ca : Option Addr) (dk ck : Nat) (w : World) (h : LoInA w l da ca) :
    Calls Tryd.prog 24 #[(.agg #[.int .i64 (l).id, .int .i64 (l).ac, .int .i64 (l).st, .int .i64 (l).pp, .int .i64 (l).pi, .int .i64 (l).fee, .int .i64 (l).pen, .int .i64 (l).chg, .int .i64 (l).prov, .int .i64 (l).loss, .int .i64 (l).rcv, .int .i64 ((l).tm).me, .int .i64 ((l).tm).pr, .int .i64 ((l).tm).ppm, .int .i64 ((l).tm).stt, .int .i64 ((l).tm).ev, .int .i64 ((l).tm).ct, .int .i64 ((l).tm).ba, .int .i64 ((l).tm).mo, .int .i64 ((l).tm).pen, .int .i64 ((l).tm).fe, .string ((l).tm).cal, .string ((l).tm).cur, .slice da (l).ds.length dk, .slice ca (l).cs.length ck]), .int .i64 on] w fun e w' => ∃ a c, e = .returned (.slice a ps.length c) ∧ RowIn penc w' a ps ∧ Below w.heap.size w w' := by
  subst hP
  exact (owed_any l da ca dk ck on w (dues_of_row (by omega) h.d) hn).mono fun _ _ ⟨g, he, _, hr, hb⟩ => ⟨_, _, he, hr, hb⟩
/-- Where the loop over the parts stands. -/
def ageR (w : World) (ps : List Pa) (g : Nat) (s8 s9 s10 : Value) (W : World) : Prop := ∃ i : Nat, i + g = ps.length ∧ s10 = .int .i64 i ∧ s8 = .int .i64 (amW (ps.take i)) ∧ s9 = .bool (lateB (ps.take i)) ∧ w = W
/-- The facts of the stage. -/
theorem age_all {l : Lo} {on : Int} {a b o S : Int} {lt en : Bool} (h : Ok l) (hst : l.st = 1) (h0 : 0 ≤ on) (h1 : on < 73048) (ha : daysL l on = a) (hb : daysL l (on + 1) = b) (ho : ovL l on = o) (hS : amW (powed l on) = S) (hl : lateB (powed l on) = lt) (he : endP (powed l on) = en) :
    (lt = true → (0 ≤ a ∧ a ≤ 9223372036854775806) ∧ b = a + 1) ∧ (lt = false → a = 0 ∧ b = 0) ∧ en = decide (0 < o) ∧ (1 ≤ S → S ≤ 1000000000000 → payE l S on = 0 ∧ daysL (payL l S on) on = 0 ∧ ovL (payL l S on) on = 0) := by
  have g1 := age_ok h h0 h1
  have g2 := age_owed h on
  have g3 := pay_all h hst h0 h1
  rw [ha, hb] at g1
  rw [hS, hl, he, ho] at g2
  rw [← g2.1] at g3
  have hle := days_le l (on + 1)
  rw [hb] at hle
  refine ⟨fun hh => (fun x => ⟨⟨x.1, by omega⟩, x.2⟩) (g1.1 ?_), fun hh => g1.2 ?_, g2.2.2, fun k1 k2 => ⟨?_, g3⟩⟩
  · rw [hh] at g2
    simpa using g2.2.1.symm
  · rw [hh] at g2
    simpa using g2.2.1.symm
  · unfold payE
    rw [if_pos ⟨ok_iff.2 h, k1, k2, h0, by omega⟩, if_pos hst]

set_option maxHeartbeats 16000000 in
theorem age_walk (l : Lo) (da ca : Option Addr) (dk ck : Nat) (on : Int) (_ : (Lit.int .i64 on).wf = true) (w : World) (hl : LoInA w l da ca) (hd : Dok l.ds) (hS : Rd.Stp w ∧ Ctb w) :
    Calls Tryd.prog 7 #[(.agg #[.int .i64 (l).id, .int .i64 (l).ac, .int .i64 (l).st, .int .i64 (l).pp, .int .i64 (l).pi, .int .i64 (l).fee, .int .i64 (l).pen, .int .i64 (l).chg, .int .i64 (l).prov, .int .i64 (l).loss, .int .i64 (l).rcv, .int .i64 ((l).tm).me, .int .i64 ((l).tm).pr, .int .i64 ((l).tm).ppm, .int .i64 ((l).tm).stt, .int .i64 ((l).tm).ev, .int .i64 ((l).tm).ct, .int .i64 ((l).tm).ba, .int .i64 ((l).tm).mo, .int .i64 ((l).tm).pen, .int .i64 ((l).tm).fe, .string ((l).tm).cal, .string ((l).tm).cur, .slice da (l).ds.length dk, .slice ca (l).cs.length ck]), .int .i64 on] w fun e w' => e = .returned (.bool true) ∧ Below w.heap.size w w' := by
  have HH := Lib.hid (fun (W : World) (hW : Below w.heap.size w W) => hl.later hW)
  have HD := Lib.hid hd
  have HSS := Lib.hid (fun (W : World) (hW : Below w.heap.size w W) => And.intro (hS.1.of hW) (hS.2.of hW))
  have HG := Lib.hid (great_any l da ca dk ck)
  have HGL := Lib.hid (great_lenA (l := l))
  have HLV := Lib.hid (fun (W : World) (hW : Below w.heap.size w W) => live37_any W (hS.1.of hW) (hS.2.of hW))
  have cw : Below w.heap.size w (w.alloc (.cells #[.int .i64 (l).id, .int .i64 (l).ac, .int .i64 (l).st, .int .i64 (l).pp, .int .i64 (l).pi, .int .i64 (l).fee, .int .i64 (l).pen, .int .i64 (l).chg, .int .i64 (l).prov, .int .i64 (l).loss, .int .i64 (l).rcv, .int .i64 ((l).tm).me, .int .i64 ((l).tm).pr, .int .i64 ((l).tm).ppm, .int .i64 ((l).tm).stt, .int .i64 ((l).tm).ev, .int .i64 ((l).tm).ct, .int .i64 ((l).tm).ba, .int .i64 ((l).tm).mo, .int .i64 ((l).tm).pen, .int .i64 ((l).tm).fe, .string ((l).tm).cal, .string ((l).tm).cur, .slice da (l).ds.length dk, .slice ca (l).cs.length ck] 27)) := (Below.refl _ _).alloc (Nat.le_refl _) _
  have k0 := Bk.Blk.nw10 (W := w) (cs := #[.int .i64 (l).id, .int .i64 (l).ac, .int .i64 (l).st, .int .i64 (l).pp, .int .i64 (l).pi, .int .i64 (l).fee, .int .i64 (l).pen, .int .i64 (l).chg, .int .i64 (l).prov, .int .i64 (l).loss, .int .i64 (l).rcv, .int .i64 ((l).tm).me, .int .i64 ((l).tm).pr, .int .i64 ((l).tm).ppm, .int .i64 ((l).tm).stt, .int .i64 ((l).tm).ev, .int .i64 ((l).tm).ct, .int .i64 ((l).tm).ba, .int .i64 ((l).tm).mo, .int .i64 ((l).tm).pen, .int .i64 ((l).tm).fe, .string ((l).tm).cal, .string ((l).tm).cur, .slice da (l).ds.length dk, .slice ca (l).cs.length ck]) (t := 27)
  clear hl hd hS
  generalize greatB l = gb at *
  go_enter Tryd.func7, Tryd.ntmps7
  go_wp2_with (refine wpList_load_row rfl 27 _ rfl _ rfl _ _ _ _ (Bk.Blk.nw10) Tryd.underlying27 rfl (by kernel_rfl) ?_)
  refine (HG.out _).mono ?_
  rintro e w1 ⟨rfl, hb⟩
  replace k0 := k0.later hb
  have cw1 := bl2 hb cw
  clear hb cw HG
  cases gb
  · have hlen := HGL.out rfl
    have HN := Lib.hid (show l.ds.length ≤ 100000 ∧ l.cs.length ≤ 100000 from ⟨by omega, by omega⟩)
    clear hlen HGL
    have HCK := Lib.hid (fun (W : World) (hW : Below w.heap.size w W) => check_any l da ca dk ck W (dues_of_row (by have := HN.out.1; omega) (HH.out W hW).d))
    go_wp2_with (first | (refine wpList_load_row rfl 27 _ rfl _ rfl _ _ _ _ (k0) Tryd.underlying27 rfl (by kernel_rfl) ?_) | (refine load_guarded 27 _ rfl rfl _ rfl _ _ _ _ (k0) Tryd.underlying27 rfl (by kernel_rfl) ?_))
    refine (HCK.out _ cw1).mono ?_
    rintro e w2 ⟨rfl, hb⟩
    replace k0 := k0.later hb
    have cw2 := bl2 hb cw1
    clear hb cw1
    have l2 := k0.c2
    by_cases hz1 : chk l = 0
    · by_cases hz2 : on < 0
      · have g2 : decide (on < 0) = true := decide_eq_true hz2
        have g1 : (chk l != 0) = false := by rw [hz1]; rfl
        go_wp2_with fail
        go_ret
        exact ⟨rfl, cw2⟩
      · have g2 : decide (on < 0) = false := decide_eq_false hz2
        by_cases hz3 : 73048 ≤ on
        · have g3 : decide (73048 ≤ on) = true := decide_eq_true hz3
          have g1 : (chk l != 0) = false := by rw [hz1]; rfl
          go_wp2_with fail
          go_ret
          exact ⟨rfl, cw2⟩
        · have g3 : decide (73048 ≤ on) = false := decide_eq_false hz3
          by_cases hz4 : l.st = 1
          · have g4 : (l.st != 1) = false := by rw [hz4]; rfl
            have g1 : (chk l != 0) = false := by rw [hz1]; rfl
            have HOK := Lib.hid (And.intro (ok_iff.1 hz1) (And.intro hz4 (And.intro (show 0 ≤ on by omega) (show on < 73048 by omega))))
            clear hz1 hz4
            go_upto_region 3 with fail
            clear l2 g1 g4 HCK
            obtain ⟨a, ha⟩ : ∃ a, daysL l on = a := ⟨_, rfl⟩
            obtain ⟨b, hb⟩ : ∃ b, daysL l (on + 1) = b := ⟨_, rfl⟩
            obtain ⟨o, ho⟩ : ∃ o, ovL l on = o := ⟨_, rfl⟩
            obtain ⟨ps, hps⟩ : ∃ ps, powed l on = ps := ⟨_, rfl⟩
            obtain ⟨S, hS⟩ : ∃ S, amW ps = S := ⟨_, rfl⟩
            obtain ⟨lt, hlt⟩ : ∃ lt, lateB ps = lt := ⟨_, rfl⟩
            obtain ⟨en, hen⟩ : ∃ en, endP ps = en := ⟨_, rfl⟩
            have HF := Lib.hid (age_all (a := a) (b := b) (o := o) (S := S) (lt := lt) (en := en) HOK.out.1 HOK.out.2.1 HOK.out.2.2.1 HOK.out.2.2.2 ha hb ho (by rw [hps]; exact hS) (by rw [hps]; exact hlt) (by rw [hps]; exact hen))
            have HX1 := Lib.hid (fun (o : Int) (W : World) (hW : Below w.heap.size w W) => days_any l da ca dk ck o W (dues_of_row (by have := HN.out.1; omega) (HH.out W hW).d))
            have hab := And.intro ha hb
            have HX3 := Lib.hid (fun (W : World) (hW : Below w.heap.size w W) => od_at ho da ca dk ck W (HH.out W hW) HN.out.1)
            have HX4 := Lib.hid (fun (W : World) (hW : Below w.heap.size w W) => owed_atA hps HN.out.1 da ca dk ck W (HH.out W hW))
            have HPL := Lib.hid (show ps.length ≤ 4 by rw [← hps]; exact pparts_len _)
            have hw0 : IntKind.i64.wrap (on + 1) = on + 1 := by rw [IntKind.wrap_i64]; have := HOK.out.2.2; omega
            have HE := Lib.hid (And.intro hS (And.intro hlt hen))
            clear ha hb ho hps hS hlt hen
            have HAB := Lib.hid hab
            clear hab
            have HQ := Lib.hid (fun (W' : World) (hW : Reg.Cls w2 W') => k0.later hW)
            refine Reg.region_quiet (by kernel_rfl) (by kernel_rfl) ?_
            iterate 9 (first | go_big_quiet_skip | (go_big_quiet_want; (first | (refine quiet_load_row 27 _ rfl _ rfl _ _ _ _ (HQ.out) Tryd.underlying27 rfl (by kernel_rfl) ?_; (simp only [Act.put, List.setIfInBounds_toArray, List.set_cons_zero, List.set_cons_succ]; go_big_quiet_on)) | (go_big_quiet_op; go_big_quiet_on) | (apply Reg.quiet_run; (intro W hW; skip; go_simp; (first | done | rfl | exact ⟨rfl, rfl⟩ )); (simp only [Act.put, List.setIfInBounds_toArray, List.set_cons_zero, List.set_cons_succ]; go_big_quiet_on)) | (apply Reg.quiet_call; (intro W hW; go_simp; (first | done | rfl | exact ⟨rfl, rfl⟩)); (intro W hW; (first | (go_at_call 9; exact Reg.cls_call hW (HX1.out _ _ (bl2 hW cw2))))); (simp only [Act.put, List.setIfInBounds_toArray, List.set_cons_zero, List.set_cons_succ]; go_big_quiet_on)))))
            refine wpQuiet_nil ?_
            intro w3 hW
            replace k0 := k0.later hW
            have cw3 := bl2 hW cw2
            clear hW cw2 HQ HX1 hw0
            rw [HAB.out.1, HAB.out.2]
            clear HAB
            go_wp2_with (refine wpList_load_row rfl 27 _ rfl _ rfl _ _ _ _ (k0) Tryd.underlying27 rfl (by kernel_rfl) ?_)
            refine (HX4.out _ cw3).mono ?_
            rintro e w4 ⟨pa, pc, rfl, hr, hb⟩
            replace k0 := k0.later hb
            have cw4 := bl2 hb cw3
            clear hb cw3
            have HR := Lib.hid hr
            clear HX4
            go_wp2_with fail
            go_loopg [8, 9, 10] ps.length (ageR w4 ps)
            case atStart => exact ⟨0, by omega, rfl, by rw [List.take_zero, amW_nil], by rw [List.take_zero]; rfl, rfl⟩
            case round =>
              obtain ⟨i, hi, rfl, rfl, rfl, rfl⟩ := hrel
              by_cases hlt2 : i < ps.length
              · clear hr k0 cw4 HX3 HF HE HLV HSS HH HOK
                obtain ⟨bk, off, rfl, hc⟩ := HR.out.parts (by omega)
                obtain ⟨c0, c1⟩ := hc i hlt2
                have hpl := HPL.out
                have HS1 := Lib.hid (amW_succ hlt2)
                have HL1 := Lib.hid (lateB_succ hlt2)
                clear hc HR
                generalize amW (ps.take i) = s at *
                generalize lateB (ps.take i) = q at *
                generalize ps[i]! = x at *
                cases q
                · cases h3 : x.kd == 3
                  · cases h4 : x.kd == 4
                    · have V3 := Lib.hid h3
                      have V4 := Lib.hid h4
                      go_wp2_with fail
                      go_roundg (gk - 1)
                      case measure => omega
                      case rel => exact ⟨i + 1, by omega, by go_num, by rw [HS1.out]; try rfl, by rw [HL1.out, V3.out, V4.out]; try simp, rfl⟩
                    · have V3 := Lib.hid h3
                      have V4 := Lib.hid h4
                      go_wp2_with fail
                      go_roundg (gk - 1)
                      case measure => omega
                      case rel => exact ⟨i + 1, by omega, by go_num, by rw [HS1.out]; try rfl, by rw [HL1.out, V3.out, V4.out]; try simp, rfl⟩
                  · have V3 := Lib.hid h3
                    go_wp2_with fail
                    go_roundg (gk - 1)
                    case measure => omega
                    case rel => exact ⟨i + 1, by omega, by go_num, by rw [HS1.out]; try rfl, by rw [HL1.out, V3.out]; try simp, rfl⟩
                · go_wp2_with fail
                  go_roundg (gk - 1)
                  case measure => omega
                  case rel => exact ⟨i + 1, by omega, by go_num, by rw [HS1.out]; try rfl, by rw [HL1.out]; try simp, rfl⟩
              · have hin : i = ps.length := by omega
                have HSS2 := Lib.hid (show amW (ps.take i) = S ∧ lateB (ps.take i) = lt by rw [hin, List.take_length]; exact ⟨HE.out.1, HE.out.2.1⟩)
                clear hin
                rw [HSS2.out.1, HSS2.out.2]
                clear HSS2 HR
                cases lt
                · obtain ⟨h1a, h1b⟩ := HF.out.2.1 rfl
                  subst h1a h1b
                  have HOQ := Lib.hid HF.out.2.2.1
                  have HPY := Lib.hid HF.out.2.2.2
                  clear HF
                  go_upto_region 13 with fail
                  go_wp2_with (refine wpList_load_row rfl 27 _ rfl _ rfl _ _ _ _ (k0) Tryd.underlying27 rfl (by kernel_rfl) ?_)
                  refine (HX3.out _ cw4).mono ?_
                  rintro e w5 ⟨rfl, hb⟩
                  replace k0 := k0.later hb
                  replace hr := hr.later hb
                  have cw5 := bl2 hb cw4
                  clear hb cw4
                  by_cases hp0 : 0 < ps.length
                  · obtain ⟨m, hm⟩ : ∃ m, ps.length = m + 1 := ⟨ps.length - 1, by omega⟩
                    have hpl := HPL.out
                    have hwm : wrap64 ((ps.length : Int) - 1) = (m : Int) := by rw [hm]; unfold wrap64; omega
                    have hlm : m < ps.length := by omega
                    have hkd : (ps[m]!.kd == 4) = decide (0 < o) := by
                      have := HE.out.2.2
                      rw [HOQ.out] at this
                      unfold endP at this
                      rw [decide_eq_true hp0, Bool.true_and, show ps.length - 1 = m by omega] at this
                      exact this
                    obtain ⟨bk, off, rfl, hc⟩ := hr.parts (by omega)
                    obtain ⟨c0, _⟩ := hc m (by omega)
                    clear hc
                    generalize ps[m]! = x at *
                    clear hm hpl
                    generalize hq : decide (0 < o) = q at *
                    have gqq : (q != q) = false := bne_self_eq_false' _
                    go_upto_region 15 with fail
                    clear hq hkd c0 gqq hwm hlm
                    by_cases s1 : S < 1
                    · go_wp2_with fail
                      refine (HLV.out _ cw5).mono ?_
                      rintro e w6 ⟨rfl, hb⟩
                      have cw6 := bl2 hb cw5
                      clear hb cw5
                      go_wp2_with fail
                      go_ret
                      exact ⟨rfl, cw6⟩
                    · by_cases s2 : 1000000000000 < S
                      · have g1 : decide (S < 1) = false := decide_eq_false s1
                        have g2 : decide (1000000000000 < S) = true := decide_eq_true s2
                        go_wp2_with fail
                        refine (HLV.out _ cw5).mono ?_
                        rintro e w6 ⟨rfl, hb⟩
                        have cw6 := bl2 hb cw5
                        clear hb cw5
                        go_wp2_with fail
                        go_ret
                        exact ⟨rfl, cw6⟩
                      · have g1 : decide (S < 1) = false := decide_eq_false s1
                        have g2 : decide (1000000000000 < S) = false := decide_eq_false s2
                        have hpy := HPY.out (by omega) (by omega)
                        obtain ⟨A, hA⟩ : ∃ A, A = payA l S on := ⟨_, rfl⟩
                        have hAL : A = payL l S on := by rw [hA]; exact if_pos hpy.1
                        have HAL := Lib.hid (show A.ds.length ≤ 100000 by rw [hAL, (payL_same l S on).1]; exact HN.out.1)
                        have HAD := Lib.hid (show daysL A on = 0 by rw [hAL]; exact hpy.2.1)
                        have HAO := Lib.hid (show ovL A on = 0 by rw [hAL]; exact hpy.2.2)
                        have HP := Lib.hid (pay_atA hA hpy.1 rfl HN.out.1)
                        clear hA hAL hpy HPY
                        go_wp2_with (refine wpList_load_row rfl 27 _ rfl _ rfl _ _ _ _ (k0) Tryd.underlying27 rfl (by kernel_rfl) ?_)
                        refine (HP.out _ _ _ _ _ (HH.out _ cw5)).mono ?_
                        rintro e w6 ⟨pa1, pc1, da1, dk1, ca1, ck1, rfl, hl1, hb⟩
                        replace k0 := k0.later hb
                        have cw6 := bl2 hb cw5
                        clear hb cw5
                        go_upto_region 18 with (refine wpList_store_row rfl 27 _ _ rfl _ _ rfl rfl _ _ Bk.Blk.nw10 (by kernel_rfl) rfl (one25 ..) ?_)
                        have hbs : Below w6.heap.size w6 ((w6.alloc (.cells #[.int .i64 0, .int .i64 0, .int .i64 0, .int .i64 0, .int .i64 0, .int .i64 0, .int .i64 0, .int .i64 0, .int .i64 0, .int .i64 0, .int .i64 0, .int .i64 0, .int .i64 0, .int .i64 0, .int .i64 0, .int .i64 0, .int .i64 0, .int .i64 0, .int .i64 0, .int .i64 0, .int .i64 0, .string { data := #[] }, .string { data := #[] }, .slice none 0 0, .slice none 0 0] 27)).setRow w6.heap.size #[.int .i64 (A).id, .int .i64 (A).ac, .int .i64 (A).st, .int .i64 (A).pp, .int .i64 (A).pi, .int .i64 (A).fee, .int .i64 (A).pen, .int .i64 (A).chg, .int .i64 (A).prov, .int .i64 (A).loss, .int .i64 (A).rcv, .int .i64 ((A).tm).me, .int .i64 ((A).tm).pr, .int .i64 ((A).tm).ppm, .int .i64 ((A).tm).stt, .int .i64 ((A).tm).ev, .int .i64 ((A).tm).ct, .int .i64 ((A).tm).ba, .int .i64 ((A).tm).mo, .int .i64 ((A).tm).pen, .int .i64 ((A).tm).fe, .string ((A).tm).cal, .string ((A).tm).cur, .slice da1 (A).ds.length dk1, .slice ca1 (A).cs.length ck1]) := Below_setRow ((Below.refl _ _).alloc (Nat.le_refl _) _) (Nat.le_refl _) _
                        have k1 : Bk.Blk ((w6.alloc (.cells #[.int .i64 0, .int .i64 0, .int .i64 0, .int .i64 0, .int .i64 0, .int .i64 0, .int .i64 0, .int .i64 0, .int .i64 0, .int .i64 0, .int .i64 0, .int .i64 0, .int .i64 0, .int .i64 0, .int .i64 0, .int .i64 0, .int .i64 0, .int .i64 0, .int .i64 0, .int .i64 0, .int .i64 0, .string { data := #[] }, .string { data := #[] }, .slice none 0 0, .slice none 0 0] 27)).setRow w6.heap.size #[.int .i64 (A).id, .int .i64 (A).ac, .int .i64 (A).st, .int .i64 (A).pp, .int .i64 (A).pi, .int .i64 (A).fee, .int .i64 (A).pen, .int .i64 (A).chg, .int .i64 (A).prov, .int .i64 (A).loss, .int .i64 (A).rcv, .int .i64 ((A).tm).me, .int .i64 ((A).tm).pr, .int .i64 ((A).tm).ppm, .int .i64 ((A).tm).stt, .int .i64 ((A).tm).ev, .int .i64 ((A).tm).ct, .int .i64 ((A).tm).ba, .int .i64 ((A).tm).mo, .int .i64 ((A).tm).pen, .int .i64 ((A).tm).fe, .string ((A).tm).cal, .string ((A).tm).cur, .slice da1 (A).ds.length dk1, .slice ca1 (A).cs.length ck1]) w6.heap.size #[.int .i64 (A).id, .int .i64 (A).ac, .int .i64 (A).st, .int .i64 (A).pp, .int .i64 (A).pi, .int .i64 (A).fee, .int .i64 (A).pen, .int .i64 (A).chg, .int .i64 (A).prov, .int .i64 (A).loss, .int .i64 (A).rcv, .int .i64 ((A).tm).me, .int .i64 ((A).tm).pr, .int .i64 ((A).tm).ppm, .int .i64 ((A).tm).stt, .int .i64 ((A).tm).ev, .int .i64 ((A).tm).ct, .int .i64 ((A).tm).ba, .int .i64 ((A).tm).mo, .int .i64 ((A).tm).pen, .int .i64 ((A).tm).fe, .string ((A).tm).cal, .string ((A).tm).cur, .slice da1 (A).ds.length dk1, .slice ca1 (A).cs.length ck1] 27 := Blk_setRow_same Bk.Blk.nw10
                        replace k0 := k0.later hbs
                        replace hl1 := hl1.later hbs
                        have cw7 := bl2 hbs cw6
                        clear cw6 hbs
                        generalize ((w6.alloc (.cells #[.int .i64 0, .int .i64 0, .int .i64 0, .int .i64 0, .int .i64 0, .int .i64 0, .int .i64 0, .int .i64 0, .int .i64 0, .int .i64 0, .int .i64 0, .int .i64 0, .int .i64 0, .int .i64 0, .int .i64 0, .int .i64 0, .int .i64 0, .int .i64 0, .int .i64 0, .int .i64 0, .int .i64 0, .string { data := #[] }, .string { data := #[] }, .slice none 0 0, .slice none 0 0] 27)).setRow w6.heap.size #[.int .i64 (A).id, .int .i64 (A).ac, .int .i64 (A).st, .int .i64 (A).pp, .int .i64 (A).pi, .int .i64 (A).fee, .int .i64 (A).pen, .int .i64 (A).chg, .int .i64 (A).prov, .int .i64 (A).loss, .int .i64 (A).rcv, .int .i64 ((A).tm).me, .int .i64 ((A).tm).pr, .int .i64 ((A).tm).ppm, .int .i64 ((A).tm).stt, .int .i64 ((A).tm).ev, .int .i64 ((A).tm).ct, .int .i64 ((A).tm).ba, .int .i64 ((A).tm).mo, .int .i64 ((A).tm).pen, .int .i64 ((A).tm).fe, .string ((A).tm).cal, .string ((A).tm).cur, .slice da1 (A).ds.length dk1, .slice ca1 (A).cs.length ck1]) = w7 at *
                        generalize w6.heap.size = g1 at *
                        go_wp2_with (refine load_guarded 27 _ rfl rfl _ rfl _ _ _ _ (k1) Tryd.underlying27 rfl (by kernel_rfl) ?_)
                        refine (days_at HAD.out da1 ca1 dk1 ck1 _ hl1 HAL.out).mono ?_
                        rintro e w8 ⟨rfl, hb⟩
                        replace k0 := k0.later hb
                        replace hl1 := hl1.later hb
                        replace k1 := k1.later hb
                        have cw8 := bl2 hb cw7
                        clear hb cw7
                        go_wp2_with (refine load_guarded 27 _ rfl rfl _ rfl _ _ _ _ (k1) Tryd.underlying27 rfl (by kernel_rfl) ?_)
                        refine (od_at HAO.out da1 ca1 dk1 ck1 _ hl1 HAL.out).mono ?_
                        rintro e w9 ⟨rfl, hb⟩
                        replace k0 := k0.later hb
                        replace hl1 := hl1.later hb
                        replace k1 := k1.later hb
                        have cw9 := bl2 hb cw8
                        clear hb cw8
                        go_wp2_with fail
                        refine (HLV.out _ cw9).mono ?_
                        rintro e w10 ⟨rfl, hb⟩
                        replace k0 := k0.later hb
                        replace hl1 := hl1.later hb
                        replace k1 := k1.later hb
                        have cw10 := bl2 hb cw9
                        clear hb cw9
                        go_wp2_with fail
                        go_ret
                        exact ⟨rfl, cw10⟩
                  · have hz : ps.length = 0 := by omega
                    have hnil : ps = [] := List.length_eq_zero_iff.1 hz
                    have h0o : decide (0 < o) = false := by rw [← HOQ.out, ← HE.out.2.2, hnil]; rfl
                    have hS0 : S = 0 := by rw [← HE.out.1, hnil, amW_nil]
                    clear hnil
                    subst hS0
                    go_wp2_with fail
                    refine (HLV.out _ cw5).mono ?_
                    rintro e w6 ⟨rfl, hb⟩
                    replace k0 := k0.later hb
                    have cw6 := bl2 hb cw5
                    clear hb cw5
                    go_wp2_with fail
                    go_ret
                    exact ⟨rfl, cw6⟩
                · obtain ⟨h1a, h1b⟩ := HF.out.1 rfl
                  subst h1b
                  have gab : (a + 1 != a + 1) = false := bne_self_eq_false' _
                  have gwa : wrap64 (a + 1) = a + 1 := by unfold wrap64; omega
                  have HOQ := Lib.hid HF.out.2.2.1
                  have HPY := Lib.hid HF.out.2.2.2
                  clear HF
                  go_upto_region 13 with fail
                  go_wp2_with (refine wpList_load_row rfl 27 _ rfl _ rfl _ _ _ _ (k0) Tryd.underlying27 rfl (by kernel_rfl) ?_)
                  refine (HX3.out _ cw4).mono ?_
                  rintro e w5 ⟨rfl, hb⟩
                  replace k0 := k0.later hb
                  replace hr := hr.later hb
                  have cw5 := bl2 hb cw4
                  clear hb cw4
                  by_cases hp0 : 0 < ps.length
                  · obtain ⟨m, hm⟩ : ∃ m, ps.length = m + 1 := ⟨ps.length - 1, by omega⟩
                    have hpl := HPL.out
                    have hwm : wrap64 ((ps.length : Int) - 1) = (m : Int) := by rw [hm]; unfold wrap64; omega
                    have hlm : m < ps.length := by omega
                    have hkd : (ps[m]!.kd == 4) = decide (0 < o) := by
                      have := HE.out.2.2
                      rw [HOQ.out] at this
                      unfold endP at this
                      rw [decide_eq_true hp0, Bool.true_and, show ps.length - 1 = m by omega] at this
                      exact this
                    obtain ⟨bk, off, rfl, hc⟩ := hr.parts (by omega)
                    obtain ⟨c0, _⟩ := hc m (by omega)
                    clear hc
                    generalize ps[m]! = x at *
                    clear hm hpl
                    generalize hq : decide (0 < o) = q at *
                    have gqq : (q != q) = false := bne_self_eq_false' _
                    go_upto_region 15 with fail
                    clear hq hkd c0 gqq hwm hlm
                    by_cases s1 : S < 1
                    · go_wp2_with fail
                      refine (HLV.out _ cw5).mono ?_
                      rintro e w6 ⟨rfl, hb⟩
                      have cw6 := bl2 hb cw5
                      clear hb cw5
                      go_wp2_with fail
                      go_ret
                      exact ⟨rfl, cw6⟩
                    · by_cases s2 : 1000000000000 < S
                      · have g1 : decide (S < 1) = false := decide_eq_false s1
                        have g2 : decide (1000000000000 < S) = true := decide_eq_true s2
                        go_wp2_with fail
                        refine (HLV.out _ cw5).mono ?_
                        rintro e w6 ⟨rfl, hb⟩
                        have cw6 := bl2 hb cw5
                        clear hb cw5
                        go_wp2_with fail
                        go_ret
                        exact ⟨rfl, cw6⟩
                      · have g1 : decide (S < 1) = false := decide_eq_false s1
                        have g2 : decide (1000000000000 < S) = false := decide_eq_false s2
                        have hpy := HPY.out (by omega) (by omega)
                        obtain ⟨A, hA⟩ : ∃ A, A = payA l S on := ⟨_, rfl⟩
                        have hAL : A = payL l S on := by rw [hA]; exact if_pos hpy.1
                        have HAL := Lib.hid (show A.ds.length ≤ 100000 by rw [hAL, (payL_same l S on).1]; exact HN.out.1)
                        have HAD := Lib.hid (show daysL A on = 0 by rw [hAL]; exact hpy.2.1)
                        have HAO := Lib.hid (show ovL A on = 0 by rw [hAL]; exact hpy.2.2)
                        have HP := Lib.hid (pay_atA hA hpy.1 rfl HN.out.1)
                        clear hA hAL hpy HPY
                        go_wp2_with (refine wpList_load_row rfl 27 _ rfl _ rfl _ _ _ _ (k0) Tryd.underlying27 rfl (by kernel_rfl) ?_)
                        refine (HP.out _ _ _ _ _ (HH.out _ cw5)).mono ?_
                        rintro e w6 ⟨pa1, pc1, da1, dk1, ca1, ck1, rfl, hl1, hb⟩
                        replace k0 := k0.later hb
                        have cw6 := bl2 hb cw5
                        clear hb cw5
                        go_upto_region 18 with (refine wpList_store_row rfl 27 _ _ rfl _ _ rfl rfl _ _ Bk.Blk.nw10 (by kernel_rfl) rfl (one25 ..) ?_)
                        have hbs : Below w6.heap.size w6 ((w6.alloc (.cells #[.int .i64 0, .int .i64 0, .int .i64 0, .int .i64 0, .int .i64 0, .int .i64 0, .int .i64 0, .int .i64 0, .int .i64 0, .int .i64 0, .int .i64 0, .int .i64 0, .int .i64 0, .int .i64 0, .int .i64 0, .int .i64 0, .int .i64 0, .int .i64 0, .int .i64 0, .int .i64 0, .int .i64 0, .string { data := #[] }, .string { data := #[] }, .slice none 0 0, .slice none 0 0] 27)).setRow w6.heap.size #[.int .i64 (A).id, .int .i64 (A).ac, .int .i64 (A).st, .int .i64 (A).pp, .int .i64 (A).pi, .int .i64 (A).fee, .int .i64 (A).pen, .int .i64 (A).chg, .int .i64 (A).prov, .int .i64 (A).loss, .int .i64 (A).rcv, .int .i64 ((A).tm).me, .int .i64 ((A).tm).pr, .int .i64 ((A).tm).ppm, .int .i64 ((A).tm).stt, .int .i64 ((A).tm).ev, .int .i64 ((A).tm).ct, .int .i64 ((A).tm).ba, .int .i64 ((A).tm).mo, .int .i64 ((A).tm).pen, .int .i64 ((A).tm).fe, .string ((A).tm).cal, .string ((A).tm).cur, .slice da1 (A).ds.length dk1, .slice ca1 (A).cs.length ck1]) := Below_setRow ((Below.refl _ _).alloc (Nat.le_refl _) _) (Nat.le_refl _) _
                        have k1 : Bk.Blk ((w6.alloc (.cells #[.int .i64 0, .int .i64 0, .int .i64 0, .int .i64 0, .int .i64 0, .int .i64 0, .int .i64 0, .int .i64 0, .int .i64 0, .int .i64 0, .int .i64 0, .int .i64 0, .int .i64 0, .int .i64 0, .int .i64 0, .int .i64 0, .int .i64 0, .int .i64 0, .int .i64 0, .int .i64 0, .int .i64 0, .string { data := #[] }, .string { data := #[] }, .slice none 0 0, .slice none 0 0] 27)).setRow w6.heap.size #[.int .i64 (A).id, .int .i64 (A).ac, .int .i64 (A).st, .int .i64 (A).pp, .int .i64 (A).pi, .int .i64 (A).fee, .int .i64 (A).pen, .int .i64 (A).chg, .int .i64 (A).prov, .int .i64 (A).loss, .int .i64 (A).rcv, .int .i64 ((A).tm).me, .int .i64 ((A).tm).pr, .int .i64 ((A).tm).ppm, .int .i64 ((A).tm).stt, .int .i64 ((A).tm).ev, .int .i64 ((A).tm).ct, .int .i64 ((A).tm).ba, .int .i64 ((A).tm).mo, .int .i64 ((A).tm).pen, .int .i64 ((A).tm).fe, .string ((A).tm).cal, .string ((A).tm).cur, .slice da1 (A).ds.length dk1, .slice ca1 (A).cs.length ck1]) w6.heap.size #[.int .i64 (A).id, .int .i64 (A).ac, .int .i64 (A).st, .int .i64 (A).pp, .int .i64 (A).pi, .int .i64 (A).fee, .int .i64 (A).pen, .int .i64 (A).chg, .int .i64 (A).prov, .int .i64 (A).loss, .int .i64 (A).rcv, .int .i64 ((A).tm).me, .int .i64 ((A).tm).pr, .int .i64 ((A).tm).ppm, .int .i64 ((A).tm).stt, .int .i64 ((A).tm).ev, .int .i64 ((A).tm).ct, .int .i64 ((A).tm).ba, .int .i64 ((A).tm).mo, .int .i64 ((A).tm).pen, .int .i64 ((A).tm).fe, .string ((A).tm).cal, .string ((A).tm).cur, .slice da1 (A).ds.length dk1, .slice ca1 (A).cs.length ck1] 27 := Blk_setRow_same Bk.Blk.nw10
                        replace k0 := k0.later hbs
                        replace hl1 := hl1.later hbs
                        have cw7 := bl2 hbs cw6
                        clear cw6 hbs
                        generalize ((w6.alloc (.cells #[.int .i64 0, .int .i64 0, .int .i64 0, .int .i64 0, .int .i64 0, .int .i64 0, .int .i64 0, .int .i64 0, .int .i64 0, .int .i64 0, .int .i64 0, .int .i64 0, .int .i64 0, .int .i64 0, .int .i64 0, .int .i64 0, .int .i64 0, .int .i64 0, .int .i64 0, .int .i64 0, .int .i64 0, .string { data := #[] }, .string { data := #[] }, .slice none 0 0, .slice none 0 0] 27)).setRow w6.heap.size #[.int .i64 (A).id, .int .i64 (A).ac, .int .i64 (A).st, .int .i64 (A).pp, .int .i64 (A).pi, .int .i64 (A).fee, .int .i64 (A).pen, .int .i64 (A).chg, .int .i64 (A).prov, .int .i64 (A).loss, .int .i64 (A).rcv, .int .i64 ((A).tm).me, .int .i64 ((A).tm).pr, .int .i64 ((A).tm).ppm, .int .i64 ((A).tm).stt, .int .i64 ((A).tm).ev, .int .i64 ((A).tm).ct, .int .i64 ((A).tm).ba, .int .i64 ((A).tm).mo, .int .i64 ((A).tm).pen, .int .i64 ((A).tm).fe, .string ((A).tm).cal, .string ((A).tm).cur, .slice da1 (A).ds.length dk1, .slice ca1 (A).cs.length ck1]) = w7 at *
                        generalize w6.heap.size = g1 at *
                        go_wp2_with (refine load_guarded 27 _ rfl rfl _ rfl _ _ _ _ (k1) Tryd.underlying27 rfl (by kernel_rfl) ?_)
                        refine (days_at HAD.out da1 ca1 dk1 ck1 _ hl1 HAL.out).mono ?_
                        rintro e w8 ⟨rfl, hb⟩
                        replace k0 := k0.later hb
                        replace hl1 := hl1.later hb
                        replace k1 := k1.later hb
                        have cw8 := bl2 hb cw7
                        clear hb cw7
                        go_wp2_with (refine load_guarded 27 _ rfl rfl _ rfl _ _ _ _ (k1) Tryd.underlying27 rfl (by kernel_rfl) ?_)
                        refine (od_at HAO.out da1 ca1 dk1 ck1 _ hl1 HAL.out).mono ?_
                        rintro e w9 ⟨rfl, hb⟩
                        replace k0 := k0.later hb
                        replace hl1 := hl1.later hb
                        replace k1 := k1.later hb
                        have cw9 := bl2 hb cw8
                        clear hb cw8
                        go_wp2_with fail
                        refine (HLV.out _ cw9).mono ?_
                        rintro e w10 ⟨rfl, hb⟩
                        replace k0 := k0.later hb
                        replace hl1 := hl1.later hb
                        replace k1 := k1.later hb
                        have cw10 := bl2 hb cw9
                        clear hb cw9
                        go_wp2_with fail
                        go_ret
                        exact ⟨rfl, cw10⟩
                  · have hz : ps.length = 0 := by omega
                    have hnil : ps = [] := List.length_eq_zero_iff.1 hz
                    have h0o : decide (0 < o) = false := by rw [← HOQ.out, ← HE.out.2.2, hnil]; rfl
                    have hS0 : S = 0 := by rw [← HE.out.1, hnil, amW_nil]
                    clear hnil
                    subst hS0
                    go_wp2_with fail
                    refine (HLV.out _ cw5).mono ?_
                    rintro e w6 ⟨rfl, hb⟩
                    replace k0 := k0.later hb
                    have cw6 := bl2 hb cw5
                    clear hb cw5
                    go_wp2_with fail
                    go_ret
                    exact ⟨rfl, cw6⟩
          · have g4 : (l.st != 1) = true := bne_iff_ne.2 hz4
            have g1 : (chk l != 0) = false := by rw [hz1]; rfl
            go_wp2_with fail
            go_ret
            exact ⟨rfl, cw2⟩
    · have g1 : (chk l != 0) = true := bne_iff_ne.2 hz1
      go_wp2_with fail
      go_ret
      exact ⟨rfl, cw2⟩
  · go_wp2_with fail
    go_ret
    exact ⟨rfl, cw1⟩
end Go.Proofs.YtjmgahdjojdanaaDoor.Ln
