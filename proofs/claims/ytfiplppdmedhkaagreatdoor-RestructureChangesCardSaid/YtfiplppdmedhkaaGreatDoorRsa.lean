/-
  Capital: the program's and the reference's.
  The terms of a day: the program's and the reference's.
  make with room for one more, and copy, at elements of several cells.
-/
import Derived.Test.YtfiplppdmedhkaaGreatDoorRsm
import Derived.Test.YtfiplppdmedhkaaGreatDoorLs1
import Derived.Test.YtfiplppdmedhkaaGreatDoorKca
import Derived.Laws.OwnMore
import Derived.Laws.CopyRow
namespace Go.Proofs.YtfiplppdmedhkaaGreatDoor.Ln
open Go Go.RowKit
open Go.Proofs.YtfiplppdmedhkaaGreatDoor
set_option linter.unusedSimpArgs false
set_option linter.unusedVariables false
set_option maxRecDepth 100000

/-- Where the loops over the parts stand. -/
def CpR (w : World) (o : Int) (ps : List Pa) (g : Nat) (s6 s21 : Value) (W : World) : Prop := ∃ k : Nat, k + g = ps.length ∧ s21 = .int .i64 k ∧ s6 = .int .i64 (wrap64 (o + owP (ps.take k))) ∧ Below w.heap.size w W
theorem cap_1 {l : Lo} {on : Int} (h : l.st ≠ 1) : capE l on = 17 ∧ capV l on = 0 := by
  have e : capE l on = 17 := if_pos h
  exact ⟨e, if_neg (by rw [e]; decide)⟩
theorem cap_2 {l : Lo} {on : Int} (h : l.st = 1) (hd : ¬ (0 ≤ on ∧ on ≤ 73048)) : capE l on = 1 ∧ capV l on = 0 := by
  have e : capE l on = 1 := by unfold capE; rw [if_neg (by simpa using h), if_pos hd]
  exact ⟨e, if_neg (by rw [e]; decide)⟩
theorem cap_3 {l : Lo} {on : Int} (h : l.st = 1) (hd : 0 ≤ on ∧ on ≤ 73048) (hn : 1000000000000 < capN l on) : capE l on = 6 ∧ capV l on = 0 := by
  have e : capE l on = 6 := by unfold capE; rw [if_neg (by simpa using h), if_neg (by simpa using hd), if_pos hn]
  exact ⟨e, if_neg (by rw [e]; decide)⟩
theorem cap_0 {l : Lo} {on : Int} (h : l.st = 1) (hd : 0 ≤ on ∧ on ≤ 73048) (hn : ¬ 1000000000000 < capN l on) : capE l on = 0 ∧ capV l on = capN l on := by
  have e : capE l on = 0 := by unfold capE; rw [if_neg (by simpa using h), if_neg (by simpa using hd), if_neg hn]
  exact ⟨e, if_pos e⟩
theorem owP_all (ps : List Pa) : owP (ps.take ps.length) = owP ps := by rw [List.take_length]
theorem wrap_wrap (a : Int) : wrap64 (wrap64 a + owP []) = wrap64 a := by simp [owP, sum, wrap_idem]
theorem An_eq {a b : Int} (h : a = b) : Value.int .i64 a = .int .i64 b := by rw [h]
theorem powed_len (l : Lo) (on : Int) : (powed l on).length ≤ 4 := Nat.le_trans (pparts_len _) (by simp)
set_option maxHeartbeats 16000000 in
theorem cap_any (l : Lo) (da ca : Option Addr) (dk ck : Nat) (on : Int) (w : World) (h : DuesIn w da l.ds) (hk : Dok l.ds) (hn : l.ds.length ≤ 100000) :
    Calls Tryz.prog 47 #[(.agg #[.int .i64 (l).id, .int .i64 (l).ac, .int .i64 (l).st, .int .i64 (l).pp, .int .i64 (l).pi, .int .i64 (l).fee, .int .i64 (l).pen, .int .i64 (l).chg, .int .i64 (l).prov, .int .i64 (l).loss, .int .i64 (l).rcv, .int .i64 ((l).tm).me, .int .i64 ((l).tm).pr, .int .i64 ((l).tm).ppm, .int .i64 ((l).tm).stt, .int .i64 ((l).tm).ev, .int .i64 ((l).tm).ct, .int .i64 ((l).tm).ba, .int .i64 ((l).tm).mo, .int .i64 ((l).tm).pen, .int .i64 ((l).tm).fe, .string ((l).tm).cal, .string ((l).tm).cur, .slice da (l).ds.length dk, .slice ca (l).cs.length ck]), .int .i64 on] w fun e w' => e = .returned (.tuple #[.int .i64 (capV l on), .int .i64 (capE l on)]) ∧ Below w.heap.size w w' := by
  have cw : Below w.heap.size w (w.alloc (.cells #[.int .i64 (l).id, .int .i64 (l).ac, .int .i64 (l).st, .int .i64 (l).pp, .int .i64 (l).pi, .int .i64 (l).fee, .int .i64 (l).pen, .int .i64 (l).chg, .int .i64 (l).prov, .int .i64 (l).loss, .int .i64 (l).rcv, .int .i64 ((l).tm).me, .int .i64 ((l).tm).pr, .int .i64 ((l).tm).ppm, .int .i64 ((l).tm).stt, .int .i64 ((l).tm).ev, .int .i64 ((l).tm).ct, .int .i64 ((l).tm).ba, .int .i64 ((l).tm).mo, .int .i64 ((l).tm).pen, .int .i64 ((l).tm).fe, .string ((l).tm).cal, .string ((l).tm).cur, .slice da (l).ds.length dk, .slice ca (l).cs.length ck] 31)) := (Below.refl _ _).alloc (Nat.le_refl _) _
  have k0 : Bk.Blk (w.alloc (.cells #[.int .i64 (l).id, .int .i64 (l).ac, .int .i64 (l).st, .int .i64 (l).pp, .int .i64 (l).pi, .int .i64 (l).fee, .int .i64 (l).pen, .int .i64 (l).chg, .int .i64 (l).prov, .int .i64 (l).loss, .int .i64 (l).rcv, .int .i64 ((l).tm).me, .int .i64 ((l).tm).pr, .int .i64 ((l).tm).ppm, .int .i64 ((l).tm).stt, .int .i64 ((l).tm).ev, .int .i64 ((l).tm).ct, .int .i64 ((l).tm).ba, .int .i64 ((l).tm).mo, .int .i64 ((l).tm).pen, .int .i64 ((l).tm).fe, .string ((l).tm).cal, .string ((l).tm).cur, .slice da (l).ds.length dk, .slice ca (l).cs.length ck] 31)) w.heap.size #[.int .i64 (l).id, .int .i64 (l).ac, .int .i64 (l).st, .int .i64 (l).pp, .int .i64 (l).pi, .int .i64 (l).fee, .int .i64 (l).pen, .int .i64 (l).chg, .int .i64 (l).prov, .int .i64 (l).loss, .int .i64 (l).rcv, .int .i64 ((l).tm).me, .int .i64 ((l).tm).pr, .int .i64 ((l).tm).ppm, .int .i64 ((l).tm).stt, .int .i64 ((l).tm).ev, .int .i64 ((l).tm).ct, .int .i64 ((l).tm).ba, .int .i64 ((l).tm).mo, .int .i64 ((l).tm).pen, .int .i64 ((l).tm).fe, .string ((l).tm).cal, .string ((l).tm).cur, .slice da (l).ds.length dk, .slice ca (l).cs.length ck] 31 := Bk.Blk.nw10
  have hd := h.later cw
  have HO := Lib.hid (wrap_wrap (P l.ds - l.pp))
  clear h
  go_enter Tryz.func47, Tryz.ntmps47
  go_upto_region 1 with (refine wpList_load_row rfl 31 _ rfl _ rfl _ _ _ _ (Bk.Blk.nw10) Tryz.underlying31 rfl (by kernel_rfl) ?_)
  generalize (w.alloc (.cells #[.int .i64 (l).id, .int .i64 (l).ac, .int .i64 (l).st, .int .i64 (l).pp, .int .i64 (l).pi, .int .i64 (l).fee, .int .i64 (l).pen, .int .i64 (l).chg, .int .i64 (l).prov, .int .i64 (l).loss, .int .i64 (l).rcv, .int .i64 ((l).tm).me, .int .i64 ((l).tm).pr, .int .i64 ((l).tm).ppm, .int .i64 ((l).tm).stt, .int .i64 ((l).tm).ev, .int .i64 ((l).tm).ct, .int .i64 ((l).tm).ba, .int .i64 ((l).tm).mo, .int .i64 ((l).tm).pen, .int .i64 ((l).tm).fe, .string ((l).tm).cal, .string ((l).tm).cur, .slice da (l).ds.length dk, .slice ca (l).cs.length ck] 31)) = w1 at *
  have cw1 := cw
  clear cw
  have l2 := k0.c2
  by_cases h1 : l.st = 1
  · have g1 : (l.st != 1) = false := by rw [h1]; rfl
    have H1 := Lib.hid h1
    clear h1
    go_wp2_with fail
    by_cases h2 : 0 ≤ on ∧ on ≤ 73048
    · refine (Dt.valid_yes on _ h2.1 h2.2).mono ?_
      rintro e w' ⟨rfl, rfl⟩
      go_wp2_with (refine wpList_load_row rfl 31 _ rfl _ rfl _ _ _ _ (k0) Tryz.underlying31 rfl (by kernel_rfl) ?_)
      clear l2
      refine (out_any l da ca dk ck _ hd).mono ?_
      rintro e w2 ⟨rfl, hb⟩
      replace k0 := k0.later hb
      replace hd := hd.later hb
      have cw2 := bl2 hb cw1
      clear hb cw1
      go_wp2_with (refine wpList_load_row rfl 31 _ rfl _ rfl _ _ _ _ (k0) Tryz.underlying31 rfl (by kernel_rfl) ?_)
      refine (owed_any l da ca dk ck on _ hd hn).mono ?_
      rintro e w3 ⟨g, rfl, _, hr, hb⟩
      replace k0 := k0.later hb
      replace hd := hd.later hb
      have cw3 := bl2 hb cw2
      clear hb cw2
      have HN := Lib.hid (show capN l on = wrap64 (wrap64 (P l.ds - l.pp) + owP (powed l on)) from rfl)
      have hpl := powed_len l on
      generalize wrap64 (P l.ds - l.pp) = o at *
      generalize powed l on = ps at *
      go_wp2_with fail
      go_loopg [6, 21] ps.length (CpR w3 o ps)
      case atStart => exact ⟨0, by omega, rfl, by rw [List.take_zero, HO.out], Below.refl _ _⟩
      case round =>
        obtain ⟨k, hk', rfl, rfl, cwr⟩ := hrel
        replace hr := hr.later cwr
        by_cases hlt : k < ps.length
        · obtain ⟨b, off, hae, hc⟩ := hr.parts (by omega)
          obtain ⟨c0, c1⟩ := hc k hlt
          clear hc
          obtain ⟨rfl, rfl⟩ : g = b ∧ 0 = off := by simpa using hae
          clear hae
          simp only [Nat.zero_add] at c0 c1
          have hsu := owP_succ (ps := ps) hlt
          by_cases hkd : ps[k]!.kd ≠ 4
          · have HS := Lib.hid (hsu.trans (if_pos hkd))
            clear hsu
            have g2 : (ps[k]!.kd != 4) = true := by simpa using hkd
            clear hkd
            generalize ps[k]! = p at *
            generalize owP (ps.take k) = ok at *
            go_wp2_with fail
            go_roundg (gk - 1)
            case measure => omega
            case rel => exact ⟨k + 1, by omega, by go_num, by rw [HS.out]; first | exact An_eq (by unfold wrap64; omega) | rfl, (cwr.alloc cwr.size _)⟩
          · have HS := Lib.hid (hsu.trans (if_neg hkd))
            clear hsu
            have g2 : (ps[k]!.kd != 4) = false := by simpa using hkd
            clear hkd
            generalize ps[k]! = p at *
            generalize owP (ps.take k) = ok at *
            go_wp2_with fail
            go_roundg (gk - 1)
            case measure => omega
            case rel => exact ⟨k + 1, by omega, by go_num, by rw [HS.out], (cwr.alloc cwr.size _)⟩
        · have hkn : k = ps.length := by omega
          rw [hkn, owP_all, ← HN.out]
          clear hkn
          by_cases hm : 1000000000000 < capN l on
          · have HF := Lib.hid (cap_3 H1.out h2 hm)
            generalize capN l on = nn at hm ⊢
            go_wp2_with fail
            go_ret2
            exact ⟨by rw [HF.out.1, HF.out.2]; try rfl, bl2 cwr cw3⟩
          · have HF := Lib.hid (cap_0 H1.out h2 hm)
            generalize hnn : capN l on = nn at hm ⊢
            have HNN := Lib.hid hnn
            clear hnn
            go_wp2_with fail
            go_ret2
            exact ⟨by rw [HF.out.1, HF.out.2, HNN.out]; try rfl, bl2 cwr cw3⟩
    · refine (Dt.valid_no on _ (by omega)).mono ?_
      rintro e w' ⟨rfl, rfl⟩
      have HF := Lib.hid (cap_2 H1.out h2)
      go_wp2_with fail
      go_ret2
      exact ⟨by rw [HF.out.1, HF.out.2]; try rfl, cw1⟩
  · have g1 : (l.st != 1) = true := by simpa using h1
    have HF := Lib.hid (cap_1 (on := on) h1)
    go_wp2_with fail
    go_ret2
    exact ⟨by rw [HF.out.1, HF.out.2]; try rfl, cw1⟩
set_option maxHeartbeats 16000000 in
theorem rcap_any (l : Lo) (da ca : Option Addr) (dk ck : Nat) (on : Int) (w : World) (h : DuesIn w da l.ds) (hk : Dok l.ds) (hn : l.ds.length ≤ 100000) :
    Calls Tryz.prog 105 #[(.agg #[.int .i64 (l).id, .int .i64 (l).ac, .int .i64 (l).st, .int .i64 (l).pp, .int .i64 (l).pi, .int .i64 (l).fee, .int .i64 (l).pen, .int .i64 (l).chg, .int .i64 (l).prov, .int .i64 (l).loss, .int .i64 (l).rcv, .int .i64 ((l).tm).me, .int .i64 ((l).tm).pr, .int .i64 ((l).tm).ppm, .int .i64 ((l).tm).stt, .int .i64 ((l).tm).ev, .int .i64 ((l).tm).ct, .int .i64 ((l).tm).ba, .int .i64 ((l).tm).mo, .int .i64 ((l).tm).pen, .int .i64 ((l).tm).fe, .string ((l).tm).cal, .string ((l).tm).cur, .slice da (l).ds.length dk, .slice ca (l).cs.length ck]), .int .i64 on] w fun e w' => e = .returned (.tuple #[.int .i64 (capV l on), .int .i64 (capE l on)]) ∧ Below w.heap.size w w' := by
  have cw : Below w.heap.size w (w.alloc (.cells #[.int .i64 (l).id, .int .i64 (l).ac, .int .i64 (l).st, .int .i64 (l).pp, .int .i64 (l).pi, .int .i64 (l).fee, .int .i64 (l).pen, .int .i64 (l).chg, .int .i64 (l).prov, .int .i64 (l).loss, .int .i64 (l).rcv, .int .i64 ((l).tm).me, .int .i64 ((l).tm).pr, .int .i64 ((l).tm).ppm, .int .i64 ((l).tm).stt, .int .i64 ((l).tm).ev, .int .i64 ((l).tm).ct, .int .i64 ((l).tm).ba, .int .i64 ((l).tm).mo, .int .i64 ((l).tm).pen, .int .i64 ((l).tm).fe, .string ((l).tm).cal, .string ((l).tm).cur, .slice da (l).ds.length dk, .slice ca (l).cs.length ck] 31)) := (Below.refl _ _).alloc (Nat.le_refl _) _
  have k0 : Bk.Blk (w.alloc (.cells #[.int .i64 (l).id, .int .i64 (l).ac, .int .i64 (l).st, .int .i64 (l).pp, .int .i64 (l).pi, .int .i64 (l).fee, .int .i64 (l).pen, .int .i64 (l).chg, .int .i64 (l).prov, .int .i64 (l).loss, .int .i64 (l).rcv, .int .i64 ((l).tm).me, .int .i64 ((l).tm).pr, .int .i64 ((l).tm).ppm, .int .i64 ((l).tm).stt, .int .i64 ((l).tm).ev, .int .i64 ((l).tm).ct, .int .i64 ((l).tm).ba, .int .i64 ((l).tm).mo, .int .i64 ((l).tm).pen, .int .i64 ((l).tm).fe, .string ((l).tm).cal, .string ((l).tm).cur, .slice da (l).ds.length dk, .slice ca (l).cs.length ck] 31)) w.heap.size #[.int .i64 (l).id, .int .i64 (l).ac, .int .i64 (l).st, .int .i64 (l).pp, .int .i64 (l).pi, .int .i64 (l).fee, .int .i64 (l).pen, .int .i64 (l).chg, .int .i64 (l).prov, .int .i64 (l).loss, .int .i64 (l).rcv, .int .i64 ((l).tm).me, .int .i64 ((l).tm).pr, .int .i64 ((l).tm).ppm, .int .i64 ((l).tm).stt, .int .i64 ((l).tm).ev, .int .i64 ((l).tm).ct, .int .i64 ((l).tm).ba, .int .i64 ((l).tm).mo, .int .i64 ((l).tm).pen, .int .i64 ((l).tm).fe, .string ((l).tm).cal, .string ((l).tm).cur, .slice da (l).ds.length dk, .slice ca (l).cs.length ck] 31 := Bk.Blk.nw10
  have hd := h.later cw
  have HO := Lib.hid (wrap_wrap (P l.ds - l.pp))
  clear h
  go_enter Tryz.func105, Tryz.ntmps105
  go_upto_region 1 with (refine wpList_load_row rfl 31 _ rfl _ rfl _ _ _ _ (Bk.Blk.nw10) Tryz.underlying31 rfl (by kernel_rfl) ?_)
  generalize (w.alloc (.cells #[.int .i64 (l).id, .int .i64 (l).ac, .int .i64 (l).st, .int .i64 (l).pp, .int .i64 (l).pi, .int .i64 (l).fee, .int .i64 (l).pen, .int .i64 (l).chg, .int .i64 (l).prov, .int .i64 (l).loss, .int .i64 (l).rcv, .int .i64 ((l).tm).me, .int .i64 ((l).tm).pr, .int .i64 ((l).tm).ppm, .int .i64 ((l).tm).stt, .int .i64 ((l).tm).ev, .int .i64 ((l).tm).ct, .int .i64 ((l).tm).ba, .int .i64 ((l).tm).mo, .int .i64 ((l).tm).pen, .int .i64 ((l).tm).fe, .string ((l).tm).cal, .string ((l).tm).cur, .slice da (l).ds.length dk, .slice ca (l).cs.length ck] 31)) = w1 at *
  have cw1 := cw
  clear cw
  have l2 := k0.c2
  by_cases h1 : l.st = 1
  · have g1 : (l.st != 1) = false := by rw [h1]; rfl
    have H1 := Lib.hid h1
    clear h1
    go_wp2_with fail
    by_cases h2 : 0 ≤ on ∧ on ≤ 73048
    · refine (Dt.rvalid_yes on _ h2.1 h2.2).mono ?_
      rintro e w' ⟨rfl, rfl⟩
      go_wp2_with (refine wpList_load_row rfl 31 _ rfl _ rfl _ _ _ _ (k0) Tryz.underlying31 rfl (by kernel_rfl) ?_)
      clear l2
      refine (rout_any l da ca dk ck _ hd hk).mono ?_
      rintro e w2 ⟨rfl, hb⟩
      replace k0 := k0.later hb
      replace hd := hd.later hb
      have cw2 := bl2 hb cw1
      clear hb cw1
      go_wp2_with (refine wpList_load_row rfl 31 _ rfl _ rfl _ _ _ _ (k0) Tryz.underlying31 rfl (by kernel_rfl) ?_)
      refine (rowed_any l da ca dk ck on _ hd).mono ?_
      rintro e w3 ⟨a, cc, rfl, hr, _, hb⟩
      replace k0 := k0.later hb
      replace hd := hd.later hb
      have cw3 := bl2 hb cw2
      clear hb cw2
      have HN := Lib.hid (show capN l on = wrap64 (wrap64 (P l.ds - l.pp) + owP (powed l on)) from rfl)
      have hpl := powed_len l on
      generalize wrap64 (P l.ds - l.pp) = o at *
      generalize powed l on = ps at *
      go_wp2_with fail
      go_loopg [6, 8] ps.length (CpR w3 o ps)
      case atStart => exact ⟨0, by omega, rfl, by rw [List.take_zero, HO.out], Below.refl _ _⟩
      case round =>
        obtain ⟨k, hk', rfl, rfl, cwr⟩ := hrel
        replace hr := hr.later cwr
        by_cases hlt : k < ps.length
        · obtain ⟨b, off, hae, hc⟩ := hr.parts (by omega)
          obtain ⟨c0, c1⟩ := hc k hlt
          clear hc
          subst hae
          have hsu := owP_succ (ps := ps) hlt
          by_cases hkd : ps[k]!.kd ≠ 4
          · have HS := Lib.hid (hsu.trans (if_pos hkd))
            clear hsu
            have g2 : (ps[k]!.kd != 4) = true := by simpa using hkd
            clear hkd
            generalize ps[k]! = p at *
            generalize owP (ps.take k) = ok at *
            go_wp2_with fail
            go_roundg (gk - 1)
            case measure => omega
            case rel => exact ⟨k + 1, by omega, by go_num, by rw [HS.out]; first | exact An_eq (by unfold wrap64; omega) | rfl, cwr⟩
          · have HS := Lib.hid (hsu.trans (if_neg hkd))
            clear hsu
            have g2 : (ps[k]!.kd != 4) = false := by simpa using hkd
            clear hkd
            generalize ps[k]! = p at *
            generalize owP (ps.take k) = ok at *
            go_wp2_with fail
            go_roundg (gk - 1)
            case measure => omega
            case rel => exact ⟨k + 1, by omega, by go_num, by rw [HS.out], cwr⟩
        · have hkn : k = ps.length := by omega
          rw [hkn, owP_all, ← HN.out]
          clear hkn
          by_cases hm : 1000000000000 < capN l on
          · have HF := Lib.hid (cap_3 H1.out h2 hm)
            generalize capN l on = nn at hm ⊢
            go_wp2_with fail
            go_ret2
            exact ⟨by rw [HF.out.1, HF.out.2]; try rfl, bl2 cwr cw3⟩
          · have HF := Lib.hid (cap_0 H1.out h2 hm)
            generalize hnn : capN l on = nn at hm ⊢
            have HNN := Lib.hid hnn
            clear hnn
            go_wp2_with fail
            go_ret2
            exact ⟨by rw [HF.out.1, HF.out.2, HNN.out]; try rfl, bl2 cwr cw3⟩
    · refine (Dt.rvalid_no on _ (by omega)).mono ?_
      rintro e w' ⟨rfl, rfl⟩
      have HF := Lib.hid (cap_2 H1.out h2)
      go_wp2_with fail
      go_ret2
      exact ⟨by rw [HF.out.1, HF.out.2]; try rfl, cw1⟩
  · have g1 : (l.st != 1) = true := by simpa using h1
    have HF := Lib.hid (cap_1 (on := on) h1)
    go_wp2_with fail
    go_ret2
    exact ⟨by rw [HF.out.1, HF.out.2]; try rfl, cw1⟩
end Go.Proofs.YtfiplppdmedhkaaGreatDoor.Ln

namespace Go.Proofs.YtfiplppdmedhkaaGreatDoor.Ln
open Go Go.RowKit
open Go.Proofs.YtfiplppdmedhkaaGreatDoor
set_option linter.unusedSimpArgs false
set_option linter.unusedVariables false
set_option maxRecDepth 100000

/-- A change as a value. -/
def cv (d : Ch) : Value := .agg #[.int .i64 d.day, .int .i64 d.amt, .int .i64 (d.old).me, .int .i64 (d.old).pr, .int .i64 (d.old).ppm, .int .i64 (d.old).stt, .int .i64 (d.old).ev, .int .i64 (d.old).ct, .int .i64 (d.old).ba, .int .i64 (d.old).mo, .int .i64 (d.old).pen, .int .i64 (d.old).fe, .string (d.old).cal, .string (d.old).cur]
/-- A predicate on changes that is called answers p, in every later world. -/
def PredC (g : Nat) (lb : Array Value) (p : Ch → Bool) (w : World) : Prop := ∀ (d : Ch) (W : World), Below w.heap.size w W → Calls Tryz.prog g (#[cv d] ++ lb) W fun e w' => e = .returned (.bool (p d)) ∧ Below W.heap.size W w'
def XRC (w : World) (p : Ch → Bool) (cs : List Ch) (g : Nat) (s8 : Value) (W : World) : Prop := ∃ k : Nat, k + g = cs.length ∧ s8 = .int .i64 k ∧ (∀ j, j < k → p cs[j]! = false) ∧ Below w.heap.size w W
set_option maxHeartbeats 4000000 in
theorem ixc_any (g : Nat) (lb : Array Value) (p : Ch → Bool) (a : Option Addr) (cap : Nat) (cs : List Ch) (w : World) (hn : cs.length ≤ 100000) (h : RowIn cenc w a cs) (eg : ∀ args w, (callFunc g args).run Tryz.prog w = .ok (.enter g args) w) (hp : PredC g lb p w) :
    Calls Tryz.prog 102 #[.slice a cs.length cap, .func (.func g) #[] lb] w fun e w' => ∃ r, e = .returned (.int .i64 r) ∧ Idx p cs r ∧ Below w.heap.size w w' := by
  have H := Lib.hid h
  have HP := Lib.hid hp
  clear h hp
  go_enter Tryz.func102, Tryz.ntmps102
  go_wp2_with fail
  go_loopg [8] cs.length (XRC w p cs)
  case atStart => exact ⟨0, by omega, rfl, fun j hj => by omega, Below.refl _ _⟩
  case round =>
    obtain ⟨k, hk, rfl, hall, hbr⟩ := hrel
    have HA := Lib.hid hall
    clear hall
    by_cases hlt : k < cs.length
    · obtain ⟨b, off, rfl, hc⟩ := H.out.mid cenc_len (by omega)
      have hm := rangeAt_later hbr (hc k hlt)
      have hcall := HP.out cs[k]! wr hbr
      unfold cv at hcall
      generalize hd : cs[k]! = d at *
      have HD := Lib.hid hd
      clear hc hd
      cases hv : p d
      · rw [hv] at hcall
        have HV := Lib.hid hv
        clear hv
        go_wp2_with (refine wpList_load_mid rfl 75 _ rfl b (off + k * 14) (by first | rfl | simp) (cenc d) _ hm Tryz.underlying75 rfl (by kernel_rfl) ?_)
        clear hm
        refine hcall.mono ?_
        rintro e w1 ⟨rfl, hb⟩
        go_wp2_with fail
        go_roundg (gk - 1)
        case measure => omega
        case rel => exact ⟨k + 1, by omega, by go_num, fun j hj => by
          by_cases e : j = k
          · subst e; rw [HD.out]; exact HV.out
          · exact HA.out j (by omega), bl2 hb hbr⟩
      · rw [hv] at hcall
        have HV := Lib.hid hv
        clear hv
        go_wp2_with (refine wpList_load_mid rfl 75 _ rfl b (off + k * 14) (by first | rfl | simp) (cenc d) _ hm Tryz.underlying75 rfl (by kernel_rfl) ?_)
        clear hm
        refine hcall.mono ?_
        rintro e w1 ⟨rfl, hb⟩
        go_wp2_with fail
        go_ret
        exact ⟨k, rfl, .inr ⟨k, hlt, rfl, by rw [HD.out]; exact HV.out, HA.out⟩, bl2 hb hbr⟩
    · go_wp2_with fail
      go_ret
      exact ⟨-1, rfl, .inl ⟨rfl, fun j hj => HA.out j (by omega)⟩, hbr⟩
theorem later_any (d : Ch) (on : Int) (g : Nat) (w : World) (h : Bk.Blk w g #[.int .i64 on] 3) :
    Calls Tryz.prog 103 #[cv d, .pointer (some ⟨g, 0, none⟩)] w fun e w' => e = .returned (.bool (decide (on < d.day))) ∧ Below w.heap.size w w' := by
  have cw : Below w.heap.size w (w.alloc (.cells #[.int .i64 d.day, .int .i64 d.amt, .int .i64 (d.old).me, .int .i64 (d.old).pr, .int .i64 (d.old).ppm, .int .i64 (d.old).stt, .int .i64 (d.old).ev, .int .i64 (d.old).ct, .int .i64 (d.old).ba, .int .i64 (d.old).mo, .int .i64 (d.old).pen, .int .i64 (d.old).fe, .string (d.old).cal, .string (d.old).cur] 75)) := (Below.refl _ _).alloc (Nat.le_refl _) _
  have k0 : Bk.Blk (w.alloc (.cells #[.int .i64 d.day, .int .i64 d.amt, .int .i64 (d.old).me, .int .i64 (d.old).pr, .int .i64 (d.old).ppm, .int .i64 (d.old).stt, .int .i64 (d.old).ev, .int .i64 (d.old).ct, .int .i64 (d.old).ba, .int .i64 (d.old).mo, .int .i64 (d.old).pen, .int .i64 (d.old).fe, .string (d.old).cal, .string (d.old).cur] 75)) w.heap.size #[.int .i64 d.day, .int .i64 d.amt, .int .i64 (d.old).me, .int .i64 (d.old).pr, .int .i64 (d.old).ppm, .int .i64 (d.old).stt, .int .i64 (d.old).ev, .int .i64 (d.old).ct, .int .i64 (d.old).ba, .int .i64 (d.old).mo, .int .i64 (d.old).pen, .int .i64 (d.old).fe, .string (d.old).cal, .string (d.old).cur] 75 := Bk.Blk.nw10
  have k1 := h.alloc (o := .cells #[.int .i64 d.day, .int .i64 d.amt, .int .i64 (d.old).me, .int .i64 (d.old).pr, .int .i64 (d.old).ppm, .int .i64 (d.old).stt, .int .i64 (d.old).ev, .int .i64 (d.old).ct, .int .i64 (d.old).ba, .int .i64 (d.old).mo, .int .i64 (d.old).pen, .int .i64 (d.old).fe, .string (d.old).cal, .string (d.old).cur] 75)
  clear h
  unfold cv
  go_enter Tryz.func103, Tryz.ntmps103
  go_upto_region 1 with fail
  generalize (w.alloc (.cells #[.int .i64 d.day, .int .i64 d.amt, .int .i64 (d.old).me, .int .i64 (d.old).pr, .int .i64 (d.old).ppm, .int .i64 (d.old).stt, .int .i64 (d.old).ev, .int .i64 (d.old).ct, .int .i64 (d.old).ba, .int .i64 (d.old).mo, .int .i64 (d.old).pen, .int .i64 (d.old).fe, .string (d.old).cal, .string (d.old).cur] 75)) = w1 at *
  have l0 := k0.c0
  have q0 := k1.c0
  by_cases hd : on < d.day
  · have HF := Lib.hid (show decide (on < d.day) = true from decide_eq_true hd)
    go_wp2_with fail
    go_ret
    exact ⟨by rw [HF.out]; try rfl, cw⟩
  · have HF := Lib.hid (show decide (on < d.day) = false from decide_eq_false hd)
    go_wp2_with fail
    go_ret
    exact ⟨by rw [HF.out]; try rfl, cw⟩
theorem old_range {W : World} {b o : Nat} {d : Ch} (h : W.rangeAt b o (cenc d)) : W.rangeAt b (o + 2) (tenc d.old) := fun j v hv => by
  have := h (j + 2) v (by unfold cenc; simpa using hv)
  rw [show o + 2 + j = o + (j + 2) by omega]
  exact this
theorem day_range {W : World} {b o : Nat} {d : Ch} (h : W.rangeAt b o (cenc d)) : W.cell? ⟨b, o, none⟩ = some (.int .i64 d.day) := h 0 _ rfl
set_option maxHeartbeats 16000000 in
theorem terms_on (l : Lo) (da ca : Option Addr) (dk ck : Nat) (on : Int) (w : World) (h : RowIn cenc w ca l.cs) (hn : l.cs.length ≤ 100000) :
    Calls Tryz.prog 50 #[(.agg #[.int .i64 (l).id, .int .i64 (l).ac, .int .i64 (l).st, .int .i64 (l).pp, .int .i64 (l).pi, .int .i64 (l).fee, .int .i64 (l).pen, .int .i64 (l).chg, .int .i64 (l).prov, .int .i64 (l).loss, .int .i64 (l).rcv, .int .i64 ((l).tm).me, .int .i64 ((l).tm).pr, .int .i64 ((l).tm).ppm, .int .i64 ((l).tm).stt, .int .i64 ((l).tm).ev, .int .i64 ((l).tm).ct, .int .i64 ((l).tm).ba, .int .i64 ((l).tm).mo, .int .i64 ((l).tm).pen, .int .i64 ((l).tm).fe, .string ((l).tm).cal, .string ((l).tm).cur, .slice da (l).ds.length dk, .slice ca (l).cs.length ck]), .int .i64 on] w fun e w' => e = .returned (.agg #[.int .i64 ((tmOn l.tm l.cs on)).me, .int .i64 ((tmOn l.tm l.cs on)).pr, .int .i64 ((tmOn l.tm l.cs on)).ppm, .int .i64 ((tmOn l.tm l.cs on)).stt, .int .i64 ((tmOn l.tm l.cs on)).ev, .int .i64 ((tmOn l.tm l.cs on)).ct, .int .i64 ((tmOn l.tm l.cs on)).ba, .int .i64 ((tmOn l.tm l.cs on)).mo, .int .i64 ((tmOn l.tm l.cs on)).pen, .int .i64 ((tmOn l.tm l.cs on)).fe, .string ((tmOn l.tm l.cs on)).cal, .string ((tmOn l.tm l.cs on)).cur]) ∧ Below w.heap.size w w' := by
  have cw : Below w.heap.size w (((w.alloc (.cells #[.int .i64 (l).id, .int .i64 (l).ac, .int .i64 (l).st, .int .i64 (l).pp, .int .i64 (l).pi, .int .i64 (l).fee, .int .i64 (l).pen, .int .i64 (l).chg, .int .i64 (l).prov, .int .i64 (l).loss, .int .i64 (l).rcv, .int .i64 ((l).tm).me, .int .i64 ((l).tm).pr, .int .i64 ((l).tm).ppm, .int .i64 ((l).tm).stt, .int .i64 ((l).tm).ev, .int .i64 ((l).tm).ct, .int .i64 ((l).tm).ba, .int .i64 ((l).tm).mo, .int .i64 ((l).tm).pen, .int .i64 ((l).tm).fe, .string ((l).tm).cal, .string ((l).tm).cur, .slice da (l).ds.length dk, .slice ca (l).cs.length ck] 31)).alloc (.cells #[.int .i64 on] 3)).alloc (.cells #[.int .i64 0, .int .i64 0, .int .i64 0, .int .i64 0, .int .i64 0, .int .i64 0, .int .i64 0, .int .i64 0, .int .i64 0, .int .i64 0, .string { data := #[] }, .string { data := #[] }] 23)) := (((Below.refl _ _).alloc (Nat.le_refl _) _).alloc (by simp) _).alloc (by simp; omega) _
  have k0 : Bk.Blk (((w.alloc (.cells #[.int .i64 (l).id, .int .i64 (l).ac, .int .i64 (l).st, .int .i64 (l).pp, .int .i64 (l).pi, .int .i64 (l).fee, .int .i64 (l).pen, .int .i64 (l).chg, .int .i64 (l).prov, .int .i64 (l).loss, .int .i64 (l).rcv, .int .i64 ((l).tm).me, .int .i64 ((l).tm).pr, .int .i64 ((l).tm).ppm, .int .i64 ((l).tm).stt, .int .i64 ((l).tm).ev, .int .i64 ((l).tm).ct, .int .i64 ((l).tm).ba, .int .i64 ((l).tm).mo, .int .i64 ((l).tm).pen, .int .i64 ((l).tm).fe, .string ((l).tm).cal, .string ((l).tm).cur, .slice da (l).ds.length dk, .slice ca (l).cs.length ck] 31)).alloc (.cells #[.int .i64 on] 3)).alloc (.cells #[.int .i64 0, .int .i64 0, .int .i64 0, .int .i64 0, .int .i64 0, .int .i64 0, .int .i64 0, .int .i64 0, .int .i64 0, .int .i64 0, .string { data := #[] }, .string { data := #[] }] 23)) w.heap.size #[.int .i64 (l).id, .int .i64 (l).ac, .int .i64 (l).st, .int .i64 (l).pp, .int .i64 (l).pi, .int .i64 (l).fee, .int .i64 (l).pen, .int .i64 (l).chg, .int .i64 (l).prov, .int .i64 (l).loss, .int .i64 (l).rcv, .int .i64 ((l).tm).me, .int .i64 ((l).tm).pr, .int .i64 ((l).tm).ppm, .int .i64 ((l).tm).stt, .int .i64 ((l).tm).ev, .int .i64 ((l).tm).ct, .int .i64 ((l).tm).ba, .int .i64 ((l).tm).mo, .int .i64 ((l).tm).pen, .int .i64 ((l).tm).fe, .string ((l).tm).cal, .string ((l).tm).cur, .slice da (l).ds.length dk, .slice ca (l).cs.length ck] 31 := Bk.Blk.nw30
  have ki : Bk.Blk (((w.alloc (.cells #[.int .i64 (l).id, .int .i64 (l).ac, .int .i64 (l).st, .int .i64 (l).pp, .int .i64 (l).pi, .int .i64 (l).fee, .int .i64 (l).pen, .int .i64 (l).chg, .int .i64 (l).prov, .int .i64 (l).loss, .int .i64 (l).rcv, .int .i64 ((l).tm).me, .int .i64 ((l).tm).pr, .int .i64 ((l).tm).ppm, .int .i64 ((l).tm).stt, .int .i64 ((l).tm).ev, .int .i64 ((l).tm).ct, .int .i64 ((l).tm).ba, .int .i64 ((l).tm).mo, .int .i64 ((l).tm).pen, .int .i64 ((l).tm).fe, .string ((l).tm).cal, .string ((l).tm).cur, .slice da (l).ds.length dk, .slice ca (l).cs.length ck] 31)).alloc (.cells #[.int .i64 on] 3)).alloc (.cells #[.int .i64 0, .int .i64 0, .int .i64 0, .int .i64 0, .int .i64 0, .int .i64 0, .int .i64 0, .int .i64 0, .int .i64 0, .int .i64 0, .string { data := #[] }, .string { data := #[] }] 23)) (w.heap.size + 1) #[.int .i64 on] 3 := Bk.Blk.nw31
  have kz : Bk.Blk (((w.alloc (.cells #[.int .i64 (l).id, .int .i64 (l).ac, .int .i64 (l).st, .int .i64 (l).pp, .int .i64 (l).pi, .int .i64 (l).fee, .int .i64 (l).pen, .int .i64 (l).chg, .int .i64 (l).prov, .int .i64 (l).loss, .int .i64 (l).rcv, .int .i64 ((l).tm).me, .int .i64 ((l).tm).pr, .int .i64 ((l).tm).ppm, .int .i64 ((l).tm).stt, .int .i64 ((l).tm).ev, .int .i64 ((l).tm).ct, .int .i64 ((l).tm).ba, .int .i64 ((l).tm).mo, .int .i64 ((l).tm).pen, .int .i64 ((l).tm).fe, .string ((l).tm).cal, .string ((l).tm).cur, .slice da (l).ds.length dk, .slice ca (l).cs.length ck] 31)).alloc (.cells #[.int .i64 on] 3)).alloc (.cells #[.int .i64 0, .int .i64 0, .int .i64 0, .int .i64 0, .int .i64 0, .int .i64 0, .int .i64 0, .int .i64 0, .int .i64 0, .int .i64 0, .string { data := #[] }, .string { data := #[] }] 23)) (w.heap.size + 2) #[.int .i64 0, .int .i64 0, .int .i64 0, .int .i64 0, .int .i64 0, .int .i64 0, .int .i64 0, .int .i64 0, .int .i64 0, .int .i64 0, .string { data := #[] }, .string { data := #[] }] 23 := Bk.Blk.nw32
  have hr := h.later cw
  clear h
  go_enter Tryz.func50, Tryz.ntmps50
  go_upto_region 1 with (refine wpList_load_row rfl 31 _ rfl _ rfl _ _ _ _ (Bk.Blk.nw10) Tryz.underlying31 rfl (by kernel_rfl) ?_)
  generalize (((w.alloc (.cells #[.int .i64 (l).id, .int .i64 (l).ac, .int .i64 (l).st, .int .i64 (l).pp, .int .i64 (l).pi, .int .i64 (l).fee, .int .i64 (l).pen, .int .i64 (l).chg, .int .i64 (l).prov, .int .i64 (l).loss, .int .i64 (l).rcv, .int .i64 ((l).tm).me, .int .i64 ((l).tm).pr, .int .i64 ((l).tm).ppm, .int .i64 ((l).tm).stt, .int .i64 ((l).tm).ev, .int .i64 ((l).tm).ct, .int .i64 ((l).tm).ba, .int .i64 ((l).tm).mo, .int .i64 ((l).tm).pen, .int .i64 ((l).tm).fe, .string ((l).tm).cal, .string ((l).tm).cur, .slice da (l).ds.length dk, .slice ca (l).cs.length ck] 31)).alloc (.cells #[.int .i64 on] 3)).alloc (.cells #[.int .i64 0, .int .i64 0, .int .i64 0, .int .i64 0, .int .i64 0, .int .i64 0, .int .i64 0, .int .i64 0, .int .i64 0, .int .i64 0, .string { data := #[] }, .string { data := #[] }] 23)) = w1 at *
  have cw1 := cw
  clear cw
  have l24 := k0.c24
  have HX := Lib.hid (ixc_any 103 #[.pointer (some ⟨w.heap.size + 1, 0, none⟩)] (fun d => decide (on < d.day)) ca ck l.cs w1 hn hr (fun _ _ => rfl) (fun d W hW => later_any d on _ W (ki.later hW)))
  go_wp2_with fail
  clear l24
  refine HX.out.mono ?_
  clear HX
  rintro e w2 ⟨r, rfl, hix, hb⟩
  replace k0 := k0.later hb
  replace ki := ki.later hb
  replace kz := kz.later hb
  replace hr := hr.later hb
  have cw2 := bl2 hb cw1
  clear hb cw1
  rcases hix with ⟨rfl, hall⟩ | ⟨k, hk, rfl, hat, hbef⟩
  · have HF := Lib.hid (tmOn_no (tm := l.tm) (day := on) (cs := l.cs) (fun j hj => by have := hall j hj; simpa using this))
    clear hall
    go_wp2_with (first | (refine wpList_load_mid rfl 23 _ rfl w.heap.size 11 (by first | rfl | simp) (tenc l.tm) _ (tm_range k0) Tryz.underlying23 rfl (by kernel_rfl) ?_) | (refine wpList_store_row rfl 23 _ _ rfl _ _ rfl rfl _ _ kz (by kernel_rfl) rfl (by simp [tenc, Value.oneCell']) ?_))
    (try simp only [Exit.inBlock, Exit.then])
    refine bodyPost_ret (results_cell_row Tryz.results50 _ _ _ _ _ _ _ rfl (Blk_setRow_same kz) Tryz.underlying23 rfl (by kernel_rfl)) rfl ?_
    rw [HF.out]
    exact ⟨rfl, Below_setRow cw2 (by omega) _⟩
  · have HF := Lib.hid (tmOn_at (tm := l.tm) (day := on) hk (fun j hj => by have := hbef j hj; simpa using this) (by simpa using hat))
    obtain ⟨b, off, hae, hc⟩ := hr.mid cenc_len (by omega)
    have hm := old_range (hc k hk)
    have l24 := k0.c24
    rw [hae] at l24
    generalize l.cs[k]!.old = tt at *
    clear hc hbef hat
    go_wp2_with (first | (refine wpList_load_mid rfl 23 _ rfl b (off + k * 14 + 2) (by first | rfl | simp) (tenc tt) _ hm Tryz.underlying23 rfl (by kernel_rfl) ?_) | (refine wpList_store_row rfl 23 _ _ rfl _ _ rfl rfl _ _ kz (by kernel_rfl) rfl (by simp [tenc, Value.oneCell']) ?_))
    (try simp only [Exit.inBlock, Exit.then])
    refine bodyPost_ret (results_cell_row Tryz.results50 _ _ _ _ _ _ _ rfl (Blk_setRow_same kz) Tryz.underlying23 rfl (by kernel_rfl)) rfl ?_
    rw [HF.out]
    exact ⟨rfl, Below_setRow cw2 (by omega) _⟩
def TmR (w : World) (cs : List Ch) (on : Int) (g : Nat) (s5 : Value) (W : World) : Prop := ∃ k : Nat, k + g = cs.length ∧ s5 = .int .i64 k ∧ (∀ j, j < k → cs[j]!.day ≤ on) ∧ Below w.heap.size w W
end Go.Proofs.YtfiplppdmedhkaaGreatDoor.Ln

namespace Go.Proofs.YtfiplppdmedhkaaGreatDoor.Ln
open Go Go.RowKit
open Go.Proofs.YtfiplppdmedhkaaGreatDoor
set_option linter.unusedSimpArgs false
set_option linter.unusedVariables false

theorem run_copy_k {P : Program} (w : World) (dT sT ty elem : TypeId) (g : Nat) (a : Addr) (n c1 c2 k : Nat) (cur : Array Value) (t : TypeId) (cs : List Value)
    (hu : P.underlying dT = some (.slice elem)) (hs : (P.info? elem).map (·.size) = some k) (hg : w.heap[g]? = some (.cells cur t (0, 0))) (hn : cs.length = n * k)
    (hsrc : ∀ j v, cs[j]? = some v → w.cell? (a.add j) = some v) (hfit : cs.length ≤ cur.size) (h1 : ∀ v ∈ cs, v.oneCell' = true) :
    (Builtin.copy_ #[dT, sT] ty #[.slice (some ⟨g, 0, none⟩) n c1, .slice (some a) n c2]).run P w = .ok (goInt n) (w.setRow g (cs ++ cur.toList.drop cs.length).toArray) := by
  have hl := run_loadCells_list (P := P) w a cs hsrc
  have hst := run_storeCells_at P g 0 t cs 0 cur w hg (by simpa using hfit) h1
  simp only [Nat.zero_add, List.take_zero, List.nil_append] at hst
  cases hq : P.info? elem with
  | none => simp [hq] at hs
  | some i =>
    have hi : i.size = k := by simpa [hq] using hs
    simp [Builtin.copy_, run_underlying hu, Builtin.lenOf, Builtin.firstCells, sizeOf, typeInfo, hq, hi, ← hn, hl, hst]
theorem wpList_copy_k {P : Program} {w : World} {ops : Array Oper} {rest : List Oper} {o : Oper} {a : Act} {Q : Exit → Act → World → Prop} (hgd : o.guard = none) (d s : Operand) (dT sT : TypeId)
    (ho : o.op = .call { callee := .builtin .copy, args := #[d, s], argTypes := #[dT, sT] }) (elem : TypeId) (k : Nat) (hu : P.underlying dT = some (.slice elem)) (hsz : (P.info? elem).map (·.size) = some k)
    (g n c1 : Nat) (ad : Addr) (c2 : Nat) (hd : a.eval d = .slice (some ⟨g, 0, none⟩) n c1) (hs : a.eval s = .slice (some ad) n c2)
    (cur : Array Value) (t : TypeId) (hg : w.heap[g]? = some (.cells cur t (0, 0))) (cs : List Value) (hn : cs.length = n * k)
    (hsrc : ∀ j v, cs[j]? = some v → w.cell? (ad.add j) = some v) (hfit : cs.length ≤ cur.size) (h1 : ∀ v ∈ cs, v.oneCell' = true)
    (h : wpList P ops Q rest (a.put o.dst (goInt n)) (w.setRow g (cs ++ cur.toList.drop cs.length).toArray)) : wpList P ops Q (o :: rest) a w := by
  refine wpList_plain hgd fun K hK => ?_
  have hrun := run_copy_k (P := P) w dT sT o.type elem g ad n c1 c2 k cur t cs hu hsz hg hn hsrc hfit h1
  unfold Oper.wp
  simp [execOp, ho, resolve, invoke, builtin, hd, hs, hrun, Result.andThen]
  exact hK _ _ h
theorem wpList_copy_0 {P : Program} {w : World} {ops : Array Oper} {rest : List Oper} {o : Oper} {a : Act} {Q : Exit → Act → World → Prop} (hgd : o.guard = none) (d s : Operand) (dT sT : TypeId)
    (ho : o.op = .call { callee := .builtin .copy, args := #[d, s], argTypes := #[dT, sT] }) (elem : TypeId) (k : Nat) (hu : P.underlying dT = some (.slice elem)) (hsz : (P.info? elem).map (·.size) = some k)
    (x y : Option Addr) (n c1 c2 : Nat) (hd : a.eval d = .slice x n c1) (hs : a.eval s = .slice y n c2) (h0 : n = 0)
    (h : wpList P ops Q rest (a.put o.dst (goInt 0)) w) : wpList P ops Q (o :: rest) a w := by
  subst h0
  refine wpList_plain hgd fun K hK => ?_
  have hrun : (Builtin.copy_ #[dT, sT] o.type #[.slice x 0 c1, .slice y 0 c2]).run P w = .ok (goInt 0) w := by
    cases hq : P.info? elem with
    | none => simp [hq] at hsz
    | some i => cases x <;> cases y <;> simp [Builtin.copy_, run_underlying hu, Builtin.lenOf, Builtin.firstCells, sizeOf, typeInfo, hq, loadCells, loadCellsFrom, storeCells]
  unfold Oper.wp
  simp [execOp, ho, resolve, invoke, builtin, hd, hs, hrun, Result.andThen]
  exact hK _ _ h
theorem wpList_store_at {P : Program} {ops : Array Oper} {rest : List Oper} {o : Oper} {a : Act} {w : World} {Q : Exit → Act → World → Prop} (hgd : o.guard = none) (ty : TypeId) (x y : Operand) (ho : o.op = .store ty x y)
    (g n : Nat) (cells : Array Value) (hx : a.eval x = .pointer (some ⟨g, n, none⟩)) (hy : a.eval y = .agg cells) (t : TypeId) (old : Array Value) (hg : w.heap[g]? = some (.cells old t (0, 0)))
    (hi : (P.info? ty).map (·.size) = some cells.size) (hfit : n + cells.size ≤ old.size) (h1 : cells.all (·.oneCell') = true)
    (h : wpList P ops Q rest (a.put o.dst undef) (w.setRow g (old.toList.take n ++ cells.toList ++ old.toList.drop (n + cells.size)).toArray)) : wpList P ops Q (o :: rest) a w := by
  refine wpList_plain hgd fun K hK => ?_
  have hst := run_storeCells_at (P := P) g n t cells.toList 0 old w hg (by simpa using hfit) (fun v hv => (Array.all_eq_true_iff_forall_mem.1 h1) v (by simpa using hv))
  simp only [Nat.add_zero, Array.length_toList] at hst
  have hrun : (storeVar ty ⟨g, n, none⟩ (.agg cells)).run P w = .ok () (w.setRow g (old.toList.take n ++ cells.toList ++ old.toList.drop (n + cells.size)).toArray) := by
    cases hq : P.info? ty with
    | none => simp [hq] at hi
    | some i =>
      have hs : cells.size = i.size := by simp [hq] at hi; omega
      simp [storeVar, sizeOf, typeInfo, hq, Value.cells, hst, ← hs]
  unfold Oper.wp execOp
  simp only [ho, hx, hy, Instr.storeAt, Instr.sureAddr, Sem.run_bind, Sem.run_pure, Result.andThen_ok, hrun]
  exact hK _ _ h
theorem wpList_store_in {P : Program} {ops : Array Oper} {rest : List Oper} {o : Oper} {a : Act} {w : World} {Q : Exit → Act → World → Prop} (hgd : o.guard = none) (ty : TypeId) (x y : Operand) (ho : o.op = .store ty x y)
    (g n : Nat) (cells : Array Value) (hx : a.eval x = .pointer (some ⟨g, n, none⟩)) (hy : a.eval y = .agg cells) (t : TypeId) (old : Array Value) (hg : w.heap[g]? = some (.cells old t (0, 0)))
    (hi : (P.info? ty).map (·.size) = some cells.size) (hfit : n + cells.size ≤ old.size) (h1 : cells.all (·.oneCell') = true) (new : Array Value) (hnew : (old.toList.take n ++ cells.toList ++ old.toList.drop (n + cells.size)).toArray = new)
    (h : wpList P ops Q rest (a.put o.dst undef) (w.setRow g new)) : wpList P ops Q (o :: rest) a w :=
  wpList_store_at hgd ty x y ho g n cells hx hy t old hg hi hfit h1 (by rw [hnew]; exact h)
theorem wpList_make_n {P : Program} (w : World) {ops : Array Oper} {rest : List Oper} {o : Oper} {a : Act} {Q : Exit → Act → World → Prop}
    (hg : o.guard = none) (l c : Operand) (t : TypeId) (hop : o.op = Op.makeSlice t l c)
    (e : TypeId) (i : TypeInfo) (z : Value) (size : Nat) (h1 : P.underlying t = some (.slice e)) (h2 : P.info? e = some i) (h3 : i.zero = some z) (h4 : i.size = size)
    (kl kc : IntKind) (C : Int) (n m : Nat) (hl : a.eval l = .int kl (n : Int)) (hc : a.eval c = .int kc C) (hC : C = (m : Int)) (hnm : n ≤ m) (b2 : i.bytes * m ≤ 281474976710656) (b3 : m ≤ maxLen)
    (hK : wpList P ops Q rest (a.put o.dst (.slice (some ⟨w.heap.size, 0, none⟩) n m)) (w.alloc (.cells (madeCells z.cells (m * size)) e))) : wpList P ops Q (o :: rest) a w := by
  subst h4
  subst hC
  refine wpList_plain hg fun K hK' => ?_
  have h63 : (m : Int) ≤ 9223372036854775807 := by
    have h := b3
    simp [maxLen] at h
    omega
  have hb' : (i.bytes : Int) * (m : Int) ≤ 281474976710656 := by
    have h : ((i.bytes * m : Nat) : Int) ≤ 281474976710656 := by omega
    rwa [Int.natCast_mul] at h
  have hr := run_make (P := P) w t e i z h1 h2 h3 kl kc n m (by omega) (by omega) hb' h63
  simp only [Int.toNat_natCast] at hr
  unfold Oper.wp
  simp [execOp, hop, hl, hc, hr, Result.andThen]
  exact hK' _ _ hK
end Go.Proofs.YtfiplppdmedhkaaGreatDoor.Ln
