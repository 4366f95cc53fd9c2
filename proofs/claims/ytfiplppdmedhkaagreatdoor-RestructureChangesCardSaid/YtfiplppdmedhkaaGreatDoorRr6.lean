/-
  RestructureChanges: its walk.
-/
import Derived.Test.YtfiplppdmedhkaaGreatDoorRr5
import Derived.Test.YtfiplppdmedhkaaGreatDoorRs7
import Derived.Test.YtfiplppdmedhkaaGreatDoorLr4
namespace Go.Proofs.YtfiplppdmedhkaaGreatDoor.Ln
open Go Go.RowKit
open Go.Proofs.YtfiplppdmedhkaaGreatDoor
open Go.Proofs.YtfiplppdmedhkaaGreatDoor.Kl (Cl CalIn skE skchk_any sk_ok blE blV bl_facts bl_len BlOut ls_inj cl0 hmB euB row_of_cells)
set_option linter.unusedSimpArgs false
set_option linter.unusedVariables false
set_option maxRecDepth 100000

theorem chL_len {l : Lo} {t : Tm} {day : Int} {c : Cl} (h : l.cs.length ≤ 100) : (chL l t day c).ds.length ≤ 100000 ∧ (chL l t day c).cs.length ≤ 100000 := by
  unfold chL
  split
  · rename_i h0
    obtain ⟨_, ht, _, _, _⟩ := bl_facts (chg_parts h0).2.2.2.2
    have hl := bl_len (chg_parts h0).2.2.2.2
    have hct := ht.ct
    refine ⟨?_, ?_⟩
    · show (blV t c).length ≤ 100000
      omega
    · show (l.cs ++ [_]).length ≤ 100000
      rw [List.length_append]
      show l.cs.length + 1 ≤ 100000
      omega
  · exact ⟨by decide, by decide⟩
set_option maxHeartbeats 16000000 in
theorem same36_any (l : Lo) (da ca : Option Addr) (dk ck : Nat) (t : Tm) (day : Int) (c : Cl) (wa ha : Option Addr) (wc hc : Nat) (hcu : t.cur.size ≤ maxLen) (w : World) (hl : LoIn w l da ca) (hk : Dok l.ds) (hn : l.ds.length ≤ 40 ∧ l.cs.length ≤ 70) (h : CalIn w c wa ha) (hS : Rd.Stp w) :
    Calls Tryz.prog 17 #[(.agg #[.int .i64 (l).id, .int .i64 (l).ac, .int .i64 (l).st, .int .i64 (l).pp, .int .i64 (l).pi, .int .i64 (l).fee, .int .i64 (l).pen, .int .i64 (l).chg, .int .i64 (l).prov, .int .i64 (l).loss, .int .i64 (l).rcv, .int .i64 ((l).tm).me, .int .i64 ((l).tm).pr, .int .i64 ((l).tm).ppm, .int .i64 ((l).tm).stt, .int .i64 ((l).tm).ev, .int .i64 ((l).tm).ct, .int .i64 ((l).tm).ba, .int .i64 ((l).tm).mo, .int .i64 ((l).tm).pen, .int .i64 ((l).tm).fe, .string ((l).tm).cal, .string ((l).tm).cur, .slice da (l).ds.length dk, .slice ca (l).cs.length ck]), (.agg #[.int .i64 (t).me, .int .i64 (t).pr, .int .i64 (t).ppm, .int .i64 (t).stt, .int .i64 (t).ev, .int .i64 (t).ct, .int .i64 (t).ba, .int .i64 (t).mo, .int .i64 (t).pen, .int .i64 (t).fe, .string (t).cal, .string (t).cur]), .int .i64 day, (.agg #[.string (c).nm, .slice wa (c).wk.length wc, .slice ha (c).hol.length hc])] w fun e w' => e = .returned (.bool true) ∧ Below w.heap.size w w' := by
  have cw1 : Below w.heap.size w (((w.alloc (.cells #[.int .i64 (l).id, .int .i64 (l).ac, .int .i64 (l).st, .int .i64 (l).pp, .int .i64 (l).pi, .int .i64 (l).fee, .int .i64 (l).pen, .int .i64 (l).chg, .int .i64 (l).prov, .int .i64 (l).loss, .int .i64 (l).rcv, .int .i64 ((l).tm).me, .int .i64 ((l).tm).pr, .int .i64 ((l).tm).ppm, .int .i64 ((l).tm).stt, .int .i64 ((l).tm).ev, .int .i64 ((l).tm).ct, .int .i64 ((l).tm).ba, .int .i64 ((l).tm).mo, .int .i64 ((l).tm).pen, .int .i64 ((l).tm).fe, .string ((l).tm).cal, .string ((l).tm).cur, .slice da (l).ds.length dk, .slice ca (l).cs.length ck] 31)).alloc (.cells #[.int .i64 (t).me, .int .i64 (t).pr, .int .i64 (t).ppm, .int .i64 (t).stt, .int .i64 (t).ev, .int .i64 (t).ct, .int .i64 (t).ba, .int .i64 (t).mo, .int .i64 (t).pen, .int .i64 (t).fe, .string (t).cal, .string (t).cur] 23)).alloc (.cells #[.string c.nm, .slice wa c.wk.length wc, .slice ha c.hol.length hc] 26)) := (((Below.refl _ _).alloc (Nat.le_refl _) _).alloc (by simp) _).alloc (by simp; omega) _
  have k0 : Bk.Blk (((w.alloc (.cells #[.int .i64 (l).id, .int .i64 (l).ac, .int .i64 (l).st, .int .i64 (l).pp, .int .i64 (l).pi, .int .i64 (l).fee, .int .i64 (l).pen, .int .i64 (l).chg, .int .i64 (l).prov, .int .i64 (l).loss, .int .i64 (l).rcv, .int .i64 ((l).tm).me, .int .i64 ((l).tm).pr, .int .i64 ((l).tm).ppm, .int .i64 ((l).tm).stt, .int .i64 ((l).tm).ev, .int .i64 ((l).tm).ct, .int .i64 ((l).tm).ba, .int .i64 ((l).tm).mo, .int .i64 ((l).tm).pen, .int .i64 ((l).tm).fe, .string ((l).tm).cal, .string ((l).tm).cur, .slice da (l).ds.length dk, .slice ca (l).cs.length ck] 31)).alloc (.cells #[.int .i64 (t).me, .int .i64 (t).pr, .int .i64 (t).ppm, .int .i64 (t).stt, .int .i64 (t).ev, .int .i64 (t).ct, .int .i64 (t).ba, .int .i64 (t).mo, .int .i64 (t).pen, .int .i64 (t).fe, .string (t).cal, .string (t).cur] 23)).alloc (.cells #[.string c.nm, .slice wa c.wk.length wc, .slice ha c.hol.length hc] 26)) w.heap.size #[.int .i64 (l).id, .int .i64 (l).ac, .int .i64 (l).st, .int .i64 (l).pp, .int .i64 (l).pi, .int .i64 (l).fee, .int .i64 (l).pen, .int .i64 (l).chg, .int .i64 (l).prov, .int .i64 (l).loss, .int .i64 (l).rcv, .int .i64 ((l).tm).me, .int .i64 ((l).tm).pr, .int .i64 ((l).tm).ppm, .int .i64 ((l).tm).stt, .int .i64 ((l).tm).ev, .int .i64 ((l).tm).ct, .int .i64 ((l).tm).ba, .int .i64 ((l).tm).mo, .int .i64 ((l).tm).pen, .int .i64 ((l).tm).fe, .string ((l).tm).cal, .string ((l).tm).cur, .slice da (l).ds.length dk, .slice ca (l).cs.length ck] 31 := Bk.Blk.nw30
  have kt : Bk.Blk (((w.alloc (.cells #[.int .i64 (l).id, .int .i64 (l).ac, .int .i64 (l).st, .int .i64 (l).pp, .int .i64 (l).pi, .int .i64 (l).fee, .int .i64 (l).pen, .int .i64 (l).chg, .int .i64 (l).prov, .int .i64 (l).loss, .int .i64 (l).rcv, .int .i64 ((l).tm).me, .int .i64 ((l).tm).pr, .int .i64 ((l).tm).ppm, .int .i64 ((l).tm).stt, .int .i64 ((l).tm).ev, .int .i64 ((l).tm).ct, .int .i64 ((l).tm).ba, .int .i64 ((l).tm).mo, .int .i64 ((l).tm).pen, .int .i64 ((l).tm).fe, .string ((l).tm).cal, .string ((l).tm).cur, .slice da (l).ds.length dk, .slice ca (l).cs.length ck] 31)).alloc (.cells #[.int .i64 (t).me, .int .i64 (t).pr, .int .i64 (t).ppm, .int .i64 (t).stt, .int .i64 (t).ev, .int .i64 (t).ct, .int .i64 (t).ba, .int .i64 (t).mo, .int .i64 (t).pen, .int .i64 (t).fe, .string (t).cal, .string (t).cur] 23)).alloc (.cells #[.string c.nm, .slice wa c.wk.length wc, .slice ha c.hol.length hc] 26)) (w.heap.size + 1) #[.int .i64 (t).me, .int .i64 (t).pr, .int .i64 (t).ppm, .int .i64 (t).stt, .int .i64 (t).ev, .int .i64 (t).ct, .int .i64 (t).ba, .int .i64 (t).mo, .int .i64 (t).pen, .int .i64 (t).fe, .string (t).cal, .string (t).cur] 23 := Bk.Blk.nw31
  have kc : Bk.Blk (((w.alloc (.cells #[.int .i64 (l).id, .int .i64 (l).ac, .int .i64 (l).st, .int .i64 (l).pp, .int .i64 (l).pi, .int .i64 (l).fee, .int .i64 (l).pen, .int .i64 (l).chg, .int .i64 (l).prov, .int .i64 (l).loss, .int .i64 (l).rcv, .int .i64 ((l).tm).me, .int .i64 ((l).tm).pr, .int .i64 ((l).tm).ppm, .int .i64 ((l).tm).stt, .int .i64 ((l).tm).ev, .int .i64 ((l).tm).ct, .int .i64 ((l).tm).ba, .int .i64 ((l).tm).mo, .int .i64 ((l).tm).pen, .int .i64 ((l).tm).fe, .string ((l).tm).cal, .string ((l).tm).cur, .slice da (l).ds.length dk, .slice ca (l).cs.length ck] 31)).alloc (.cells #[.int .i64 (t).me, .int .i64 (t).pr, .int .i64 (t).ppm, .int .i64 (t).stt, .int .i64 (t).ev, .int .i64 (t).ct, .int .i64 (t).ba, .int .i64 (t).mo, .int .i64 (t).pen, .int .i64 (t).fe, .string (t).cal, .string (t).cur] 23)).alloc (.cells #[.string c.nm, .slice wa c.wk.length wc, .slice ha c.hol.length hc] 26)) (w.heap.size + 2) #[.string c.nm, .slice wa c.wk.length wc, .slice ha c.hol.length hc] 26 := Bk.Blk.nw32
  have hl1 : LoIn (((w.alloc (.cells #[.int .i64 (l).id, .int .i64 (l).ac, .int .i64 (l).st, .int .i64 (l).pp, .int .i64 (l).pi, .int .i64 (l).fee, .int .i64 (l).pen, .int .i64 (l).chg, .int .i64 (l).prov, .int .i64 (l).loss, .int .i64 (l).rcv, .int .i64 ((l).tm).me, .int .i64 ((l).tm).pr, .int .i64 ((l).tm).ppm, .int .i64 ((l).tm).stt, .int .i64 ((l).tm).ev, .int .i64 ((l).tm).ct, .int .i64 ((l).tm).ba, .int .i64 ((l).tm).mo, .int .i64 ((l).tm).pen, .int .i64 ((l).tm).fe, .string ((l).tm).cal, .string ((l).tm).cur, .slice da (l).ds.length dk, .slice ca (l).cs.length ck] 31)).alloc (.cells #[.int .i64 (t).me, .int .i64 (t).pr, .int .i64 (t).ppm, .int .i64 (t).stt, .int .i64 (t).ev, .int .i64 (t).ct, .int .i64 (t).ba, .int .i64 (t).mo, .int .i64 (t).pen, .int .i64 (t).fe, .string (t).cal, .string (t).cur] 23)).alloc (.cells #[.string c.nm, .slice wa c.wk.length wc, .slice ha c.hol.length hc] 26)) l da ca := hl.later cw1
  have hi := h.later cw1
  have hn1 : c.wk.length ≤ 9223372036854775807 := h.wk.1
  have hn2 : c.hol.length ≤ 9223372036854775807 := h.hol.1
  have HST := Lib.hid (fun W (hW : Below w.heap.size w W) => hS.of hW)
  clear hS hl h
  go_enter Tryz.func17, Tryz.ntmps17
  go_upto_region 1 with fail
  generalize (((w.alloc (.cells #[.int .i64 (l).id, .int .i64 (l).ac, .int .i64 (l).st, .int .i64 (l).pp, .int .i64 (l).pi, .int .i64 (l).fee, .int .i64 (l).pen, .int .i64 (l).chg, .int .i64 (l).prov, .int .i64 (l).loss, .int .i64 (l).rcv, .int .i64 ((l).tm).me, .int .i64 ((l).tm).pr, .int .i64 ((l).tm).ppm, .int .i64 ((l).tm).stt, .int .i64 ((l).tm).ev, .int .i64 ((l).tm).ct, .int .i64 ((l).tm).ba, .int .i64 ((l).tm).mo, .int .i64 ((l).tm).pen, .int .i64 ((l).tm).fe, .string ((l).tm).cal, .string ((l).tm).cur, .slice da (l).ds.length dk, .slice ca (l).cs.length ck] 31)).alloc (.cells #[.int .i64 (t).me, .int .i64 (t).pr, .int .i64 (t).ppm, .int .i64 (t).stt, .int .i64 (t).ev, .int .i64 (t).ct, .int .i64 (t).ba, .int .i64 (t).mo, .int .i64 (t).pen, .int .i64 (t).fe, .string (t).cal, .string (t).cur] 23)).alloc (.cells #[.string c.nm, .slice wa c.wk.length wc, .slice ha c.hol.length hc] 26)) = w1 at *
  obtain ⟨A, hA⟩ : ∃ A, A = chL l t day c := ⟨_, rfl⟩
  obtain ⟨E, hE⟩ : ∃ E, E = chE l t day c := ⟨_, rfl⟩
  have HP := Lib.hid (fun W (hl : LoIn W l da ca) (hc' : CalIn W c wa ha) (hs : Rd.Stp W) => change_any l da ca dk ck t day c wa ha wc hc W (dues_of_row (by omega) hl.d) hl.c hk (by omega) (by omega) hc' hcu hs)
  have HR := Lib.hid (fun W (hl : LoIn W l da ca) (hc' : CalIn W c wa ha) (hs : Rd.Stp W) => rchange_any l da ca dk ck t day c wa ha wc hc W (dues_of_row (by omega) hl.d) hl.c hk (by omega) (by omega) hc' hcu hs)
  have HL := Lib.hid (chL_len (l := l) (t := t) (day := day) (c := c) (by omega))
  unfold ChOut at HP HR
  rw [← hA, ← hE] at HP HR
  rw [← hA] at HL
  clear hA hE
  go_wp2_with (first | (refine wpList_load_row rfl 31 _ rfl _ rfl _ _ _ _ (k0) Tryz.underlying31 rfl (by kernel_rfl) ?_) | (refine wpList_load_row rfl 23 _ rfl _ rfl _ _ _ _ kt Tryz.underlying23 rfl (by kernel_rfl) ?_) | (refine load_guarded 23 _ rfl rfl _ rfl _ _ _ _ kt Tryz.underlying23 rfl (by kernel_rfl) ?_) | (refine wpList_load_row rfl 26 _ rfl _ rfl _ _ _ _ kc Tryz.underlying26 rfl (by kernel_rfl) ?_) | (refine load_guarded 26 _ rfl rfl _ rfl _ _ _ _ kc Tryz.underlying26 rfl (by kernel_rfl) ?_))
  refine (HP.out _ hl1 hi (HST.out _ cw1)).mono ?_
  rintro e w2 ⟨da1, dk1, ca1, ck1, rfl, hd1, hr1, _, hb⟩
  replace k0 := k0.later hb
  replace kt := kt.later hb
  replace kc := kc.later hb
  replace hi := hi.later hb
  replace hl1 := hl1.later hb
  have cw2 := bl2 hb cw1
  clear hb cw1
  go_upto_region 2 with (refine wpList_store_row rfl 31 _ _ rfl _ _ rfl rfl _ _ Bk.Blk.nw10 (by kernel_rfl) rfl (one25 ..) ?_)
  have hbs : Below w2.heap.size w2 ((w2.alloc (.cells #[.int .i64 0, .int .i64 0, .int .i64 0, .int .i64 0, .int .i64 0, .int .i64 0, .int .i64 0, .int .i64 0, .int .i64 0, .int .i64 0, .int .i64 0, .int .i64 0, .int .i64 0, .int .i64 0, .int .i64 0, .int .i64 0, .int .i64 0, .int .i64 0, .int .i64 0, .int .i64 0, .int .i64 0, .string { data := #[] }, .string { data := #[] }, .slice none 0 0, .slice none 0 0] 31)).setRow w2.heap.size #[.int .i64 (A).id, .int .i64 (A).ac, .int .i64 (A).st, .int .i64 (A).pp, .int .i64 (A).pi, .int .i64 (A).fee, .int .i64 (A).pen, .int .i64 (A).chg, .int .i64 (A).prov, .int .i64 (A).loss, .int .i64 (A).rcv, .int .i64 ((A).tm).me, .int .i64 ((A).tm).pr, .int .i64 ((A).tm).ppm, .int .i64 ((A).tm).stt, .int .i64 ((A).tm).ev, .int .i64 ((A).tm).ct, .int .i64 ((A).tm).ba, .int .i64 ((A).tm).mo, .int .i64 ((A).tm).pen, .int .i64 ((A).tm).fe, .string ((A).tm).cal, .string ((A).tm).cur, .slice da1 (A).ds.length dk1, .slice ca1 (A).cs.length ck1]) := Below_setRow ((Below.refl _ _).alloc (Nat.le_refl _) _) (Nat.le_refl _) _
  have k1 : Bk.Blk ((w2.alloc (.cells #[.int .i64 0, .int .i64 0, .int .i64 0, .int .i64 0, .int .i64 0, .int .i64 0, .int .i64 0, .int .i64 0, .int .i64 0, .int .i64 0, .int .i64 0, .int .i64 0, .int .i64 0, .int .i64 0, .int .i64 0, .int .i64 0, .int .i64 0, .int .i64 0, .int .i64 0, .int .i64 0, .int .i64 0, .string { data := #[] }, .string { data := #[] }, .slice none 0 0, .slice none 0 0] 31)).setRow w2.heap.size #[.int .i64 (A).id, .int .i64 (A).ac, .int .i64 (A).st, .int .i64 (A).pp, .int .i64 (A).pi, .int .i64 (A).fee, .int .i64 (A).pen, .int .i64 (A).chg, .int .i64 (A).prov, .int .i64 (A).loss, .int .i64 (A).rcv, .int .i64 ((A).tm).me, .int .i64 ((A).tm).pr, .int .i64 ((A).tm).ppm, .int .i64 ((A).tm).stt, .int .i64 ((A).tm).ev, .int .i64 ((A).tm).ct, .int .i64 ((A).tm).ba, .int .i64 ((A).tm).mo, .int .i64 ((A).tm).pen, .int .i64 ((A).tm).fe, .string ((A).tm).cal, .string ((A).tm).cur, .slice da1 (A).ds.length dk1, .slice ca1 (A).cs.length ck1]) w2.heap.size #[.int .i64 (A).id, .int .i64 (A).ac, .int .i64 (A).st, .int .i64 (A).pp, .int .i64 (A).pi, .int .i64 (A).fee, .int .i64 (A).pen, .int .i64 (A).chg, .int .i64 (A).prov, .int .i64 (A).loss, .int .i64 (A).rcv, .int .i64 ((A).tm).me, .int .i64 ((A).tm).pr, .int .i64 ((A).tm).ppm, .int .i64 ((A).tm).stt, .int .i64 ((A).tm).ev, .int .i64 ((A).tm).ct, .int .i64 ((A).tm).ba, .int .i64 ((A).tm).mo, .int .i64 ((A).tm).pen, .int .i64 ((A).tm).fe, .string ((A).tm).cal, .string ((A).tm).cur, .slice da1 (A).ds.length dk1, .slice ca1 (A).cs.length ck1] 31 := Blk_setRow_same Bk.Blk.nw10
  replace k0 := k0.later hbs
  replace kt := kt.later hbs
  replace kc := kc.later hbs
  replace hi := hi.later hbs
  replace hl1 := hl1.later hbs
  replace hd1 := hd1.later hbs
  replace hr1 := hr1.later hbs
  have cw3 := bl2 hbs cw2
  clear cw2 hbs
  generalize ((w2.alloc (.cells #[.int .i64 0, .int .i64 0, .int .i64 0, .int .i64 0, .int .i64 0, .int .i64 0, .int .i64 0, .int .i64 0, .int .i64 0, .int .i64 0, .int .i64 0, .int .i64 0, .int .i64 0, .int .i64 0, .int .i64 0, .int .i64 0, .int .i64 0, .int .i64 0, .int .i64 0, .int .i64 0, .int .i64 0, .string { data := #[] }, .string { data := #[] }, .slice none 0 0, .slice none 0 0] 31)).setRow w2.heap.size #[.int .i64 (A).id, .int .i64 (A).ac, .int .i64 (A).st, .int .i64 (A).pp, .int .i64 (A).pi, .int .i64 (A).fee, .int .i64 (A).pen, .int .i64 (A).chg, .int .i64 (A).prov, .int .i64 (A).loss, .int .i64 (A).rcv, .int .i64 ((A).tm).me, .int .i64 ((A).tm).pr, .int .i64 ((A).tm).ppm, .int .i64 ((A).tm).stt, .int .i64 ((A).tm).ev, .int .i64 ((A).tm).ct, .int .i64 ((A).tm).ba, .int .i64 ((A).tm).mo, .int .i64 ((A).tm).pen, .int .i64 ((A).tm).fe, .string ((A).tm).cal, .string ((A).tm).cur, .slice da1 (A).ds.length dk1, .slice ca1 (A).cs.length ck1]) = w3 at *
  generalize w2.heap.size = g1 at *
  go_wp2_with (first | (refine wpList_load_row rfl 31 _ rfl _ rfl _ _ _ _ (k0) Tryz.underlying31 rfl (by kernel_rfl) ?_) | (refine wpList_load_row rfl 23 _ rfl _ rfl _ _ _ _ kt Tryz.underlying23 rfl (by kernel_rfl) ?_) | (refine load_guarded 23 _ rfl rfl _ rfl _ _ _ _ kt Tryz.underlying23 rfl (by kernel_rfl) ?_) | (refine wpList_load_row rfl 26 _ rfl _ rfl _ _ _ _ kc Tryz.underlying26 rfl (by kernel_rfl) ?_) | (refine load_guarded 26 _ rfl rfl _ rfl _ _ _ _ kc Tryz.underlying26 rfl (by kernel_rfl) ?_))
  refine (HR.out _ hl1 hi (HST.out _ cw3)).mono ?_
  rintro e w4 ⟨da2, dk2, ca2, ck2, rfl, hd2, hr2, _, hb⟩
  replace k0 := k0.later hb
  replace kt := kt.later hb
  replace kc := kc.later hb
  replace hi := hi.later hb
  replace hl1 := hl1.later hb
  replace hd1 := hd1.later hb
  replace hr1 := hr1.later hb
  replace k1 := k1.later hb
  have cw4 := bl2 hb cw3
  clear hb cw3
  go_upto_region 3 with (refine wpList_store_row rfl 31 _ _ rfl _ _ rfl rfl _ _ Bk.Blk.nw10 (by kernel_rfl) rfl (one25 ..) ?_)
  have hbs : Below w4.heap.size w4 ((w4.alloc (.cells #[.int .i64 0, .int .i64 0, .int .i64 0, .int .i64 0, .int .i64 0, .int .i64 0, .int .i64 0, .int .i64 0, .int .i64 0, .int .i64 0, .int .i64 0, .int .i64 0, .int .i64 0, .int .i64 0, .int .i64 0, .int .i64 0, .int .i64 0, .int .i64 0, .int .i64 0, .int .i64 0, .int .i64 0, .string { data := #[] }, .string { data := #[] }, .slice none 0 0, .slice none 0 0] 31)).setRow w4.heap.size #[.int .i64 (A).id, .int .i64 (A).ac, .int .i64 (A).st, .int .i64 (A).pp, .int .i64 (A).pi, .int .i64 (A).fee, .int .i64 (A).pen, .int .i64 (A).chg, .int .i64 (A).prov, .int .i64 (A).loss, .int .i64 (A).rcv, .int .i64 ((A).tm).me, .int .i64 ((A).tm).pr, .int .i64 ((A).tm).ppm, .int .i64 ((A).tm).stt, .int .i64 ((A).tm).ev, .int .i64 ((A).tm).ct, .int .i64 ((A).tm).ba, .int .i64 ((A).tm).mo, .int .i64 ((A).tm).pen, .int .i64 ((A).tm).fe, .string ((A).tm).cal, .string ((A).tm).cur, .slice da2 (A).ds.length dk2, .slice ca2 (A).cs.length ck2]) := Below_setRow ((Below.refl _ _).alloc (Nat.le_refl _) _) (Nat.le_refl _) _
  have k2 : Bk.Blk ((w4.alloc (.cells #[.int .i64 0, .int .i64 0, .int .i64 0, .int .i64 0, .int .i64 0, .int .i64 0, .int .i64 0, .int .i64 0, .int .i64 0, .int .i64 0, .int .i64 0, .int .i64 0, .int .i64 0, .int .i64 0, .int .i64 0, .int .i64 0, .int .i64 0, .int .i64 0, .int .i64 0, .int .i64 0, .int .i64 0, .string { data := #[] }, .string { data := #[] }, .slice none 0 0, .slice none 0 0] 31)).setRow w4.heap.size #[.int .i64 (A).id, .int .i64 (A).ac, .int .i64 (A).st, .int .i64 (A).pp, .int .i64 (A).pi, .int .i64 (A).fee, .int .i64 (A).pen, .int .i64 (A).chg, .int .i64 (A).prov, .int .i64 (A).loss, .int .i64 (A).rcv, .int .i64 ((A).tm).me, .int .i64 ((A).tm).pr, .int .i64 ((A).tm).ppm, .int .i64 ((A).tm).stt, .int .i64 ((A).tm).ev, .int .i64 ((A).tm).ct, .int .i64 ((A).tm).ba, .int .i64 ((A).tm).mo, .int .i64 ((A).tm).pen, .int .i64 ((A).tm).fe, .string ((A).tm).cal, .string ((A).tm).cur, .slice da2 (A).ds.length dk2, .slice ca2 (A).cs.length ck2]) w4.heap.size #[.int .i64 (A).id, .int .i64 (A).ac, .int .i64 (A).st, .int .i64 (A).pp, .int .i64 (A).pi, .int .i64 (A).fee, .int .i64 (A).pen, .int .i64 (A).chg, .int .i64 (A).prov, .int .i64 (A).loss, .int .i64 (A).rcv, .int .i64 ((A).tm).me, .int .i64 ((A).tm).pr, .int .i64 ((A).tm).ppm, .int .i64 ((A).tm).stt, .int .i64 ((A).tm).ev, .int .i64 ((A).tm).ct, .int .i64 ((A).tm).ba, .int .i64 ((A).tm).mo, .int .i64 ((A).tm).pen, .int .i64 ((A).tm).fe, .string ((A).tm).cal, .string ((A).tm).cur, .slice da2 (A).ds.length dk2, .slice ca2 (A).cs.length ck2] 31 := Blk_setRow_same Bk.Blk.nw10
  replace k0 := k0.later hbs
  replace kt := kt.later hbs
  replace kc := kc.later hbs
  replace hi := hi.later hbs
  replace hl1 := hl1.later hbs
  replace hd1 := hd1.later hbs
  replace hr1 := hr1.later hbs
  replace k1 := k1.later hbs
  replace hd2 := hd2.later hbs
  replace hr2 := hr2.later hbs
  have cw5 := bl2 hbs cw4
  clear cw4 hbs
  generalize ((w4.alloc (.cells #[.int .i64 0, .int .i64 0, .int .i64 0, .int .i64 0, .int .i64 0, .int .i64 0, .int .i64 0, .int .i64 0, .int .i64 0, .int .i64 0, .int .i64 0, .int .i64 0, .int .i64 0, .int .i64 0, .int .i64 0, .int .i64 0, .int .i64 0, .int .i64 0, .int .i64 0, .int .i64 0, .int .i64 0, .string { data := #[] }, .string { data := #[] }, .slice none 0 0, .slice none 0 0] 31)).setRow w4.heap.size #[.int .i64 (A).id, .int .i64 (A).ac, .int .i64 (A).st, .int .i64 (A).pp, .int .i64 (A).pi, .int .i64 (A).fee, .int .i64 (A).pen, .int .i64 (A).chg, .int .i64 (A).prov, .int .i64 (A).loss, .int .i64 (A).rcv, .int .i64 ((A).tm).me, .int .i64 ((A).tm).pr, .int .i64 ((A).tm).ppm, .int .i64 ((A).tm).stt, .int .i64 ((A).tm).ev, .int .i64 ((A).tm).ct, .int .i64 ((A).tm).ba, .int .i64 ((A).tm).mo, .int .i64 ((A).tm).pen, .int .i64 ((A).tm).fe, .string ((A).tm).cal, .string ((A).tm).cur, .slice da2 (A).ds.length dk2, .slice ca2 (A).cs.length ck2]) = w5 at *
  generalize w4.heap.size = g2 at *
  have gE : (E == E) = true := beq_self_eq_true E
  go_wp2_with (first | (refine load_guarded 31 _ rfl rfl _ rfl _ _ _ _ (k1) Tryz.underlying31 rfl (by kernel_rfl) ?_) | (refine load_guarded 31 _ rfl rfl _ rfl _ _ _ _ (k2) Tryz.underlying31 rfl (by kernel_rfl) ?_))
  refine (same_any A da1 ca1 da2 ca2 dk1 ck1 dk2 ck2 _ hd1.row hd2.row hr1 hr2 HL.out.1 HL.out.2).mono ?_
  rintro e w6 ⟨rfl, hb⟩
  replace k0 := k0.later hb
  replace kt := kt.later hb
  replace kc := kc.later hb
  replace hi := hi.later hb
  replace hl1 := hl1.later hb
  replace hd1 := hd1.later hb
  replace hr1 := hr1.later hb
  replace k1 := k1.later hb
  replace hd2 := hd2.later hb
  replace hr2 := hr2.later hb
  replace k2 := k2.later hb
  have cw6 := bl2 hb cw5
  clear hb cw5
  go_wp2_with fail
  go_ret
  exact ⟨rfl, cw6⟩
set_option maxHeartbeats 16000000 in
theorem changes36_walk (l : Lo) (da ca : Option Addr) (dk ck : Nat) (t : Tm) (c : Cl) (wa ha : Option Addr) (wc hc : Nat) (hcu : t.cur.size ≤ maxLen) (w : World) (hl : LoIn w l da ca) (hk : Dok l.ds) (h : CalIn w c wa ha) (hS : Rd.Stp w) :
    Calls Tryz.prog 4 #[(.agg #[.int .i64 (l).id, .int .i64 (l).ac, .int .i64 (l).st, .int .i64 (l).pp, .int .i64 (l).pi, .int .i64 (l).fee, .int .i64 (l).pen, .int .i64 (l).chg, .int .i64 (l).prov, .int .i64 (l).loss, .int .i64 (l).rcv, .int .i64 ((l).tm).me, .int .i64 ((l).tm).pr, .int .i64 ((l).tm).ppm, .int .i64 ((l).tm).stt, .int .i64 ((l).tm).ev, .int .i64 ((l).tm).ct, .int .i64 ((l).tm).ba, .int .i64 ((l).tm).mo, .int .i64 ((l).tm).pen, .int .i64 ((l).tm).fe, .string ((l).tm).cal, .string ((l).tm).cur, .slice da (l).ds.length dk, .slice ca (l).cs.length ck]), (.agg #[.int .i64 (t).me, .int .i64 (t).pr, .int .i64 (t).ppm, .int .i64 (t).stt, .int .i64 (t).ev, .int .i64 (t).ct, .int .i64 (t).ba, .int .i64 (t).mo, .int .i64 (t).pen, .int .i64 (t).fe, .string (t).cal, .string (t).cur]), (.agg #[.string (c).nm, .slice wa (c).wk.length wc, .slice ha (c).hol.length hc])] w fun e w' => e = .returned (.bool true) ∧ Below w.heap.size w w' := by
  have cw1 : Below w.heap.size w (((w.alloc (.cells #[.int .i64 (l).id, .int .i64 (l).ac, .int .i64 (l).st, .int .i64 (l).pp, .int .i64 (l).pi, .int .i64 (l).fee, .int .i64 (l).pen, .int .i64 (l).chg, .int .i64 (l).prov, .int .i64 (l).loss, .int .i64 (l).rcv, .int .i64 ((l).tm).me, .int .i64 ((l).tm).pr, .int .i64 ((l).tm).ppm, .int .i64 ((l).tm).stt, .int .i64 ((l).tm).ev, .int .i64 ((l).tm).ct, .int .i64 ((l).tm).ba, .int .i64 ((l).tm).mo, .int .i64 ((l).tm).pen, .int .i64 ((l).tm).fe, .string ((l).tm).cal, .string ((l).tm).cur, .slice da (l).ds.length dk, .slice ca (l).cs.length ck] 31)).alloc (.cells #[.int .i64 (t).me, .int .i64 (t).pr, .int .i64 (t).ppm, .int .i64 (t).stt, .int .i64 (t).ev, .int .i64 (t).ct, .int .i64 (t).ba, .int .i64 (t).mo, .int .i64 (t).pen, .int .i64 (t).fe, .string (t).cal, .string (t).cur] 23)).alloc (.cells #[.string c.nm, .slice wa c.wk.length wc, .slice ha c.hol.length hc] 26)) := (((Below.refl _ _).alloc (Nat.le_refl _) _).alloc (by simp) _).alloc (by simp; omega) _
  have k0 : Bk.Blk (((w.alloc (.cells #[.int .i64 (l).id, .int .i64 (l).ac, .int .i64 (l).st, .int .i64 (l).pp, .int .i64 (l).pi, .int .i64 (l).fee, .int .i64 (l).pen, .int .i64 (l).chg, .int .i64 (l).prov, .int .i64 (l).loss, .int .i64 (l).rcv, .int .i64 ((l).tm).me, .int .i64 ((l).tm).pr, .int .i64 ((l).tm).ppm, .int .i64 ((l).tm).stt, .int .i64 ((l).tm).ev, .int .i64 ((l).tm).ct, .int .i64 ((l).tm).ba, .int .i64 ((l).tm).mo, .int .i64 ((l).tm).pen, .int .i64 ((l).tm).fe, .string ((l).tm).cal, .string ((l).tm).cur, .slice da (l).ds.length dk, .slice ca (l).cs.length ck] 31)).alloc (.cells #[.int .i64 (t).me, .int .i64 (t).pr, .int .i64 (t).ppm, .int .i64 (t).stt, .int .i64 (t).ev, .int .i64 (t).ct, .int .i64 (t).ba, .int .i64 (t).mo, .int .i64 (t).pen, .int .i64 (t).fe, .string (t).cal, .string (t).cur] 23)).alloc (.cells #[.string c.nm, .slice wa c.wk.length wc, .slice ha c.hol.length hc] 26)) w.heap.size #[.int .i64 (l).id, .int .i64 (l).ac, .int .i64 (l).st, .int .i64 (l).pp, .int .i64 (l).pi, .int .i64 (l).fee, .int .i64 (l).pen, .int .i64 (l).chg, .int .i64 (l).prov, .int .i64 (l).loss, .int .i64 (l).rcv, .int .i64 ((l).tm).me, .int .i64 ((l).tm).pr, .int .i64 ((l).tm).ppm, .int .i64 ((l).tm).stt, .int .i64 ((l).tm).ev, .int .i64 ((l).tm).ct, .int .i64 ((l).tm).ba, .int .i64 ((l).tm).mo, .int .i64 ((l).tm).pen, .int .i64 ((l).tm).fe, .string ((l).tm).cal, .string ((l).tm).cur, .slice da (l).ds.length dk, .slice ca (l).cs.length ck] 31 := Bk.Blk.nw30
  have kt : Bk.Blk (((w.alloc (.cells #[.int .i64 (l).id, .int .i64 (l).ac, .int .i64 (l).st, .int .i64 (l).pp, .int .i64 (l).pi, .int .i64 (l).fee, .int .i64 (l).pen, .int .i64 (l).chg, .int .i64 (l).prov, .int .i64 (l).loss, .int .i64 (l).rcv, .int .i64 ((l).tm).me, .int .i64 ((l).tm).pr, .int .i64 ((l).tm).ppm, .int .i64 ((l).tm).stt, .int .i64 ((l).tm).ev, .int .i64 ((l).tm).ct, .int .i64 ((l).tm).ba, .int .i64 ((l).tm).mo, .int .i64 ((l).tm).pen, .int .i64 ((l).tm).fe, .string ((l).tm).cal, .string ((l).tm).cur, .slice da (l).ds.length dk, .slice ca (l).cs.length ck] 31)).alloc (.cells #[.int .i64 (t).me, .int .i64 (t).pr, .int .i64 (t).ppm, .int .i64 (t).stt, .int .i64 (t).ev, .int .i64 (t).ct, .int .i64 (t).ba, .int .i64 (t).mo, .int .i64 (t).pen, .int .i64 (t).fe, .string (t).cal, .string (t).cur] 23)).alloc (.cells #[.string c.nm, .slice wa c.wk.length wc, .slice ha c.hol.length hc] 26)) (w.heap.size + 1) #[.int .i64 (t).me, .int .i64 (t).pr, .int .i64 (t).ppm, .int .i64 (t).stt, .int .i64 (t).ev, .int .i64 (t).ct, .int .i64 (t).ba, .int .i64 (t).mo, .int .i64 (t).pen, .int .i64 (t).fe, .string (t).cal, .string (t).cur] 23 := Bk.Blk.nw31
  have kc : Bk.Blk (((w.alloc (.cells #[.int .i64 (l).id, .int .i64 (l).ac, .int .i64 (l).st, .int .i64 (l).pp, .int .i64 (l).pi, .int .i64 (l).fee, .int .i64 (l).pen, .int .i64 (l).chg, .int .i64 (l).prov, .int .i64 (l).loss, .int .i64 (l).rcv, .int .i64 ((l).tm).me, .int .i64 ((l).tm).pr, .int .i64 ((l).tm).ppm, .int .i64 ((l).tm).stt, .int .i64 ((l).tm).ev, .int .i64 ((l).tm).ct, .int .i64 ((l).tm).ba, .int .i64 ((l).tm).mo, .int .i64 ((l).tm).pen, .int .i64 ((l).tm).fe, .string ((l).tm).cal, .string ((l).tm).cur, .slice da (l).ds.length dk, .slice ca (l).cs.length ck] 31)).alloc (.cells #[.int .i64 (t).me, .int .i64 (t).pr, .int .i64 (t).ppm, .int .i64 (t).stt, .int .i64 (t).ev, .int .i64 (t).ct, .int .i64 (t).ba, .int .i64 (t).mo, .int .i64 (t).pen, .int .i64 (t).fe, .string (t).cal, .string (t).cur] 23)).alloc (.cells #[.string c.nm, .slice wa c.wk.length wc, .slice ha c.hol.length hc] 26)) (w.heap.size + 2) #[.string c.nm, .slice wa c.wk.length wc, .slice ha c.hol.length hc] 26 := Bk.Blk.nw32
  have hl1 : LoIn (((w.alloc (.cells #[.int .i64 (l).id, .int .i64 (l).ac, .int .i64 (l).st, .int .i64 (l).pp, .int .i64 (l).pi, .int .i64 (l).fee, .int .i64 (l).pen, .int .i64 (l).chg, .int .i64 (l).prov, .int .i64 (l).loss, .int .i64 (l).rcv, .int .i64 ((l).tm).me, .int .i64 ((l).tm).pr, .int .i64 ((l).tm).ppm, .int .i64 ((l).tm).stt, .int .i64 ((l).tm).ev, .int .i64 ((l).tm).ct, .int .i64 ((l).tm).ba, .int .i64 ((l).tm).mo, .int .i64 ((l).tm).pen, .int .i64 ((l).tm).fe, .string ((l).tm).cal, .string ((l).tm).cur, .slice da (l).ds.length dk, .slice ca (l).cs.length ck] 31)).alloc (.cells #[.int .i64 (t).me, .int .i64 (t).pr, .int .i64 (t).ppm, .int .i64 (t).stt, .int .i64 (t).ev, .int .i64 (t).ct, .int .i64 (t).ba, .int .i64 (t).mo, .int .i64 (t).pen, .int .i64 (t).fe, .string (t).cal, .string (t).cur] 23)).alloc (.cells #[.string c.nm, .slice wa c.wk.length wc, .slice ha c.hol.length hc] 26)) l da ca := hl.later cw1
  have hi := h.later cw1
  have hn1 : c.wk.length ≤ 9223372036854775807 := h.wk.1
  have hn2 : c.hol.length ≤ 9223372036854775807 := h.hol.1
  have HST := Lib.hid (fun W (hW : Below w.heap.size w W) => hS.of hW)
  clear hS hl h
  go_enter Tryz.func4, Tryz.ntmps4
  go_upto_region 1 with fail
  generalize (((w.alloc (.cells #[.int .i64 (l).id, .int .i64 (l).ac, .int .i64 (l).st, .int .i64 (l).pp, .int .i64 (l).pi, .int .i64 (l).fee, .int .i64 (l).pen, .int .i64 (l).chg, .int .i64 (l).prov, .int .i64 (l).loss, .int .i64 (l).rcv, .int .i64 ((l).tm).me, .int .i64 ((l).tm).pr, .int .i64 ((l).tm).ppm, .int .i64 ((l).tm).stt, .int .i64 ((l).tm).ev, .int .i64 ((l).tm).ct, .int .i64 ((l).tm).ba, .int .i64 ((l).tm).mo, .int .i64 ((l).tm).pen, .int .i64 ((l).tm).fe, .string ((l).tm).cal, .string ((l).tm).cur, .slice da (l).ds.length dk, .slice ca (l).cs.length ck] 31)).alloc (.cells #[.int .i64 (t).me, .int .i64 (t).pr, .int .i64 (t).ppm, .int .i64 (t).stt, .int .i64 (t).ev, .int .i64 (t).ct, .int .i64 (t).ba, .int .i64 (t).mo, .int .i64 (t).pen, .int .i64 (t).fe, .string (t).cal, .string (t).cur] 23)).alloc (.cells #[.string c.nm, .slice wa c.wk.length wc, .slice ha c.hol.length hc] 26)) = w1 at *
  go_wp2_with (refine wpList_load_row rfl 31 _ rfl _ rfl _ _ _ _ (k0) Tryz.underlying31 rfl (by kernel_rfl) ?_)
  refine (few_any l da ca dk ck _).mono ?_
  rintro e w2 ⟨rfl, hb⟩
  replace k0 := k0.later hb
  replace kt := kt.later hb
  replace kc := kc.later hb
  replace hi := hi.later hb
  replace hl1 := hl1.later hb
  have cw2 := bl2 hb cw1
  clear hb cw1
  cases hf : fewB l
  · clear hf
    go_wp2_with fail
    refine (lives36_any _ (HST.out _ cw2)).mono ?_
    rintro e wz ⟨rfl, hb⟩
    have cwz := bl2 hb cw2
    go_wp2_with fail
    go_ret
    exact ⟨rfl, cwz⟩
  · have hfew : l.ds.length ≤ 40 ∧ l.cs.length ≤ 70 := by unfold fewB at hf; simpa using hf
    have hd1 : DuesIn w2 da l.ds := dues_of_row (by omega) hl1.d
    clear hf
    go_wp2_with (first | (refine wpList_load_row rfl 23 _ rfl _ rfl _ _ _ _ kt Tryz.underlying23 rfl (by kernel_rfl) ?_) | (refine load_guarded 23 _ rfl rfl _ rfl _ _ _ _ kt Tryz.underlying23 rfl (by kernel_rfl) ?_) | (refine wpList_load_row rfl 26 _ rfl _ rfl _ _ _ _ kc Tryz.underlying26 rfl (by kernel_rfl) ?_) | (refine load_guarded 26 _ rfl rfl _ rfl _ _ _ _ kc Tryz.underlying26 rfl (by kernel_rfl) ?_))
    refine (small_any t c wa ha wc hc _ hn1 hn2).mono ?_
    rintro e w3 ⟨rfl, hb⟩
    replace k0 := k0.later hb
    replace kt := kt.later hb
    replace kc := kc.later hb
    replace hi := hi.later hb
    replace hl1 := hl1.later hb
    replace hd1 := hd1.later hb
    have cw3 := bl2 hb cw2
    clear hb cw2
    cases hs : smlB t c
    · clear hs
      go_wp2_with fail
      refine (lives36_any _ (HST.out _ cw3)).mono ?_
      rintro e wz ⟨rfl, hb⟩
      have cwz := bl2 hb cw3
      go_wp2_with fail
      go_ret
      exact ⟨rfl, cwz⟩
    · clear hs
      go_wp2_with (first | (refine wpList_load_row rfl 31 _ rfl _ rfl _ _ _ _ (k0) Tryz.underlying31 rfl (by kernel_rfl) ?_) | (refine load_guarded 31 _ rfl rfl _ rfl _ _ _ _ (k0) Tryz.underlying31 rfl (by kernel_rfl) ?_))
      refine (rcheck_any l da ca dk ck _ hd1 hk).mono ?_
      rintro e w4 ⟨rfl, hb⟩
      replace k0 := k0.later hb
      replace kt := kt.later hb
      replace kc := kc.later hb
      replace hi := hi.later hb
      replace hl1 := hl1.later hb
      replace hd1 := hd1.later hb
      have cw4 := bl2 hb cw3
      clear hb cw3
      by_cases he : chk l = 0
      · have g1 : (chk l != 0) = false := by simpa using he
        clear he hd1
        generalize chk l = E0 at g1 ⊢
        have lt3 := kt.c3
        go_wp2_with (first | (refine wpList_load_row rfl 31 _ rfl _ rfl _ _ _ _ (k0) Tryz.underlying31 rfl (by kernel_rfl) ?_) | (refine wpList_load_row rfl 23 _ rfl _ rfl _ _ _ _ kt Tryz.underlying23 rfl (by kernel_rfl) ?_) | (refine load_guarded 23 _ rfl rfl _ rfl _ _ _ _ kt Tryz.underlying23 rfl (by kernel_rfl) ?_) | (refine wpList_load_row rfl 26 _ rfl _ rfl _ _ _ _ kc Tryz.underlying26 rfl (by kernel_rfl) ?_) | (refine load_guarded 26 _ rfl rfl _ rfl _ _ _ _ kc Tryz.underlying26 rfl (by kernel_rfl) ?_))
        clear lt3 g1
        refine (same36_any l da ca dk ck t t.stt c wa ha wc hc hcu _ hl1 hk hfew hi (HST.out _ cw4)).mono ?_
        rintro e w5 ⟨rfl, hb⟩
        replace k0 := k0.later hb
        replace kt := kt.later hb
        replace kc := kc.later hb
        replace hi := hi.later hb
        replace hl1 := hl1.later hb
        have cw5 := bl2 hb cw4
        clear hb cw4
        have lt3 := kt.c3
        go_wp2_with (first | (first | (refine wpList_load_row rfl 31 _ rfl _ rfl _ _ _ _ (k0) Tryz.underlying31 rfl (by kernel_rfl) ?_) | (refine load_guarded 31 _ rfl rfl _ rfl _ _ _ _ (k0) Tryz.underlying31 rfl (by kernel_rfl) ?_)) | (refine wpList_load_row rfl 23 _ rfl _ rfl _ _ _ _ kt Tryz.underlying23 rfl (by kernel_rfl) ?_) | (refine load_guarded 23 _ rfl rfl _ rfl _ _ _ _ kt Tryz.underlying23 rfl (by kernel_rfl) ?_) | (refine wpList_load_row rfl 26 _ rfl _ rfl _ _ _ _ kc Tryz.underlying26 rfl (by kernel_rfl) ?_) | (refine load_guarded 26 _ rfl rfl _ rfl _ _ _ _ kc Tryz.underlying26 rfl (by kernel_rfl) ?_))
        clear lt3
        refine (same36_any l da ca dk ck t _ c wa ha wc hc hcu _ hl1 hk hfew hi (HST.out _ cw5)).mono ?_
        rintro e w6 ⟨rfl, hb⟩
        replace k0 := k0.later hb
        replace kt := kt.later hb
        replace kc := kc.later hb
        replace hi := hi.later hb
        replace hl1 := hl1.later hb
        have cw6 := bl2 hb cw5
        clear hb cw5
        go_wp2_with fail
        refine (lives36_any _ (HST.out _ cw6)).mono ?_
        rintro e wz ⟨rfl, hb⟩
        have cwz := bl2 hb cw6
        go_wp2_with fail
        go_ret
        exact ⟨rfl, cwz⟩
      · have g1 : (chk l != 0) = true := by simpa using he
        clear he
        generalize chk l = E0 at g1 ⊢
        go_wp2_with fail
        refine (lives36_any _ (HST.out _ cw4)).mono ?_
        rintro e wz ⟨rfl, hb⟩
        have cwz := bl2 hb cw4
        go_wp2_with fail
        go_ret
        exact ⟨rfl, cwz⟩
end Go.Proofs.YtfiplppdmedhkaaGreatDoor.Ln
