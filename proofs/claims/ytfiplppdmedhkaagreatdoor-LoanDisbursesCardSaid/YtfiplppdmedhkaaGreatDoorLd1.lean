/-
  Disburse: the program's and the reference's; LoanDisburses: its walk.
-/
import Derived.Test.YtfiplppdmedhkaaGreatDoorLdm
import Derived.Test.YtfiplppdmedhkaaGreatDoorSk4
import Derived.Test.YtfiplppdmedhkaaGreatDoorLw0
namespace Go.Proofs.YtfiplppdmedhkaaGreatDoor.Ln
open Go Go.RowKit
open Go.Proofs.YtfiplppdmedhkaaGreatDoor
open Go.Proofs.YtfiplppdmedhkaaGreatDoor.Kl (Cl CalIn blE blV bl_facts bl_len BlOut)
set_option linter.unusedSimpArgs false
set_option linter.unusedVariables false
set_option maxRecDepth 100000

theorem results2_cell {P : Program} {fn : Func} {p u : Tmp} {ty : TypeId} (h : fn.results = #[.cell p ty, .tmp u]) (tmps : Array Value) (w : World) (g : Nat) (t : TypeId) (cs : Array Value) (fr : Nat × Nat) (d : TypeDesc)
    (hp : tmps.getD p undef = .pointer (some ⟨g, 0, none⟩)) (hg : w.heap[g]? = some (.cells cs t fr))
    (hu : P.underlying ty = some d) (hd : (match d with | .struct _ | .array _ _ => true | _ => false) = true) (hi : (P.info? ty).map (·.size) = some cs.size) :
    (results fn tmps).run P w = .ok (.tuple #[.agg cs, tmps.getD u undef]) w := by
  have hp' : tmps[p]?.getD undef = .pointer (some ⟨g, 0, none⟩) := by simpa using hp
  simp [results, h, hp', asAddr, run_loadVar_row w g t ty cs fr d hg hu hd hi]
theorem one_tm (t : Tm) (a b c : Int) (x : Option Addr) (n m : Nat) (d0 d1 d2 d3 d4 d5 d6 d7 : Int) : (#[.int .i64 a, .int .i64 b, .int .i64 c, .int .i64 d0, .int .i64 d1, .int .i64 d2, .int .i64 d3, .int .i64 d4, .int .i64 d5, .int .i64 d6, .int .i64 d7, .int .i64 (t).me, .int .i64 (t).pr, .int .i64 (t).ppm, .int .i64 (t).stt, .int .i64 (t).ev, .int .i64 (t).ct, .int .i64 (t).ba, .int .i64 (t).mo, .int .i64 (t).pen, .int .i64 (t).fe, .string (t).cal, .string (t).cur, .slice x n m, .slice none 0 0] : Array Value).toList.all (·.oneCell') = true := by
  simp [Value.oneCell']
/-- A loan, as Disburse returns it. -/
def DisOut (id ac : Int) (t : Tm) (c : Cl) (w : World) (e : Ending) (w' : World) : Prop := ∃ da dk, e = .returned (.tuple #[(.agg #[.int .i64 ((disL id ac t c)).id, .int .i64 ((disL id ac t c)).ac, .int .i64 ((disL id ac t c)).st, .int .i64 ((disL id ac t c)).pp, .int .i64 ((disL id ac t c)).pi, .int .i64 ((disL id ac t c)).fee, .int .i64 ((disL id ac t c)).pen, .int .i64 ((disL id ac t c)).chg, .int .i64 ((disL id ac t c)).prov, .int .i64 ((disL id ac t c)).loss, .int .i64 ((disL id ac t c)).rcv, .int .i64 (((disL id ac t c)).tm).me, .int .i64 (((disL id ac t c)).tm).pr, .int .i64 (((disL id ac t c)).tm).ppm, .int .i64 (((disL id ac t c)).tm).stt, .int .i64 (((disL id ac t c)).tm).ev, .int .i64 (((disL id ac t c)).tm).ct, .int .i64 (((disL id ac t c)).tm).ba, .int .i64 (((disL id ac t c)).tm).mo, .int .i64 (((disL id ac t c)).tm).pen, .int .i64 (((disL id ac t c)).tm).fe, .string (((disL id ac t c)).tm).cal, .string (((disL id ac t c)).tm).cur, .slice da ((disL id ac t c)).ds.length dk, .slice none ((disL id ac t c)).cs.length 0]), .int .i64 (disE id ac t c)]) ∧ DuesIn w' da (disL id ac t c).ds ∧ Below w.heap.size w w'
theorem disOut_no {id ac : Int} {t : Tm} {c : Cl} {w w' : World} {E : Int} (h : disE id ac t c = E) (h0 : E ≠ 0) (hb : Below w.heap.size w w') : DisOut id ac t c w (.returned (.tuple #[.agg #[.int .i64 0, .int .i64 0, .int .i64 0, .int .i64 0, .int .i64 0, .int .i64 0, .int .i64 0, .int .i64 0, .int .i64 0, .int .i64 0, .int .i64 0, .int .i64 0, .int .i64 0, .int .i64 0, .int .i64 0, .int .i64 0, .int .i64 0, .int .i64 0, .int .i64 0, .int .i64 0, .int .i64 0, .string { data := #[] }, .string { data := #[] }, .slice none 0 0, .slice none 0 0], .int .i64 E])) w' := by
  have hl : disL id ac t c = zLo := if_neg (by rw [h]; exact h0)
  refine ⟨none, 0, ?_, ?_, hb⟩
  · rw [hl, h]; rfl
  · rw [hl]; exact ⟨by decide, fun h => by simp [zLo] at h⟩
theorem disOut_ok {id ac : Int} {t : Tm} {c : Cl} {w w' : World} {da : Option Addr} {dk : Nat} (h : disE id ac t c = 0) (hd : DuesIn w' da (blV t c)) (hb : Below w.heap.size w w') : DisOut id ac t c w (.returned (.tuple #[(.agg #[.int .i64 ((disO id ac t c)).id, .int .i64 ((disO id ac t c)).ac, .int .i64 ((disO id ac t c)).st, .int .i64 ((disO id ac t c)).pp, .int .i64 ((disO id ac t c)).pi, .int .i64 ((disO id ac t c)).fee, .int .i64 ((disO id ac t c)).pen, .int .i64 ((disO id ac t c)).chg, .int .i64 ((disO id ac t c)).prov, .int .i64 ((disO id ac t c)).loss, .int .i64 ((disO id ac t c)).rcv, .int .i64 (((disO id ac t c)).tm).me, .int .i64 (((disO id ac t c)).tm).pr, .int .i64 (((disO id ac t c)).tm).ppm, .int .i64 (((disO id ac t c)).tm).stt, .int .i64 (((disO id ac t c)).tm).ev, .int .i64 (((disO id ac t c)).tm).ct, .int .i64 (((disO id ac t c)).tm).ba, .int .i64 (((disO id ac t c)).tm).mo, .int .i64 (((disO id ac t c)).tm).pen, .int .i64 (((disO id ac t c)).tm).fe, .string (((disO id ac t c)).tm).cal, .string (((disO id ac t c)).tm).cur, .slice da ((disO id ac t c)).ds.length dk, .slice none ((disO id ac t c)).cs.length 0]), .int .i64 0])) w' := by
  have hl : disL id ac t c = disO id ac t c := if_pos h
  refine ⟨da, dk, ?_, ?_, hb⟩
  · rw [hl, h]
  · rw [hl]; exact hd
theorem disE_1 {id ac : Int} {t : Tm} {c : Cl} (h : id < 1 ∨ ac < 1000) : disE id ac t c = 1 := if_pos h
theorem disE_b {id ac : Int} {t : Tm} {c : Cl} (h : ¬ (id < 1 ∨ ac < 1000)) : disE id ac t c = blE t c := if_neg h
theorem dues_setRow {W : World} {da : Option Addr} {ds : List Du} {g : Nat} {cs : Array Value} (h : DuesIn W da ds) (hne : ∀ ad, da = some ad → ad.block ≠ g) : DuesIn (W.setRow g cs) da ds :=
  dues_of_row h.1 (row_row h.row hne)
set_option maxHeartbeats 16000000 in
theorem dis_any (id ac : Int) (t : Tm) (c : Cl) (wa ha : Option Addr) (wc hc : Nat) (w : World) (h : CalIn w c wa ha) (hcu : t.cur.size ≤ maxLen) (hs : Rd.Stp w) : Calls Tryz.prog 8 #[.int .i64 id, .int .i64 ac, (.agg #[.int .i64 (t).me, .int .i64 (t).pr, .int .i64 (t).ppm, .int .i64 (t).stt, .int .i64 (t).ev, .int .i64 (t).ct, .int .i64 (t).ba, .int .i64 (t).mo, .int .i64 (t).pen, .int .i64 (t).fe, .string (t).cal, .string (t).cur]), (.agg #[.string (c).nm, .slice wa (c).wk.length wc, .slice ha (c).hol.length hc])] w (DisOut id ac t c w) := by
  have cw : Below w.heap.size w (((w.alloc (.cells #[.int .i64 (t).me, .int .i64 (t).pr, .int .i64 (t).ppm, .int .i64 (t).stt, .int .i64 (t).ev, .int .i64 (t).ct, .int .i64 (t).ba, .int .i64 (t).mo, .int .i64 (t).pen, .int .i64 (t).fe, .string (t).cal, .string (t).cur] 23)).alloc (.cells #[.string c.nm, .slice wa c.wk.length wc, .slice ha c.hol.length hc] 26)).alloc (.cells #[.int .i64 0, .int .i64 0, .int .i64 0, .int .i64 0, .int .i64 0, .int .i64 0, .int .i64 0, .int .i64 0, .int .i64 0, .int .i64 0, .int .i64 0, .int .i64 0, .int .i64 0, .int .i64 0, .int .i64 0, .int .i64 0, .int .i64 0, .int .i64 0, .int .i64 0, .int .i64 0, .int .i64 0, .string { data := #[] }, .string { data := #[] }, .slice none 0 0, .slice none 0 0] 31)) := (((Below.refl _ _).alloc (Nat.le_refl _) _).alloc (by simp) _).alloc (by simp; omega) _
  have kt : Bk.Blk (((w.alloc (.cells #[.int .i64 (t).me, .int .i64 (t).pr, .int .i64 (t).ppm, .int .i64 (t).stt, .int .i64 (t).ev, .int .i64 (t).ct, .int .i64 (t).ba, .int .i64 (t).mo, .int .i64 (t).pen, .int .i64 (t).fe, .string (t).cal, .string (t).cur] 23)).alloc (.cells #[.string c.nm, .slice wa c.wk.length wc, .slice ha c.hol.length hc] 26)).alloc (.cells #[.int .i64 0, .int .i64 0, .int .i64 0, .int .i64 0, .int .i64 0, .int .i64 0, .int .i64 0, .int .i64 0, .int .i64 0, .int .i64 0, .int .i64 0, .int .i64 0, .int .i64 0, .int .i64 0, .int .i64 0, .int .i64 0, .int .i64 0, .int .i64 0, .int .i64 0, .int .i64 0, .int .i64 0, .string { data := #[] }, .string { data := #[] }, .slice none 0 0, .slice none 0 0] 31)) w.heap.size #[.int .i64 (t).me, .int .i64 (t).pr, .int .i64 (t).ppm, .int .i64 (t).stt, .int .i64 (t).ev, .int .i64 (t).ct, .int .i64 (t).ba, .int .i64 (t).mo, .int .i64 (t).pen, .int .i64 (t).fe, .string (t).cal, .string (t).cur] 23 := Bk.Blk.nw30
  have kc : Bk.Blk (((w.alloc (.cells #[.int .i64 (t).me, .int .i64 (t).pr, .int .i64 (t).ppm, .int .i64 (t).stt, .int .i64 (t).ev, .int .i64 (t).ct, .int .i64 (t).ba, .int .i64 (t).mo, .int .i64 (t).pen, .int .i64 (t).fe, .string (t).cal, .string (t).cur] 23)).alloc (.cells #[.string c.nm, .slice wa c.wk.length wc, .slice ha c.hol.length hc] 26)).alloc (.cells #[.int .i64 0, .int .i64 0, .int .i64 0, .int .i64 0, .int .i64 0, .int .i64 0, .int .i64 0, .int .i64 0, .int .i64 0, .int .i64 0, .int .i64 0, .int .i64 0, .int .i64 0, .int .i64 0, .int .i64 0, .int .i64 0, .int .i64 0, .int .i64 0, .int .i64 0, .int .i64 0, .int .i64 0, .string { data := #[] }, .string { data := #[] }, .slice none 0 0, .slice none 0 0] 31)) (w.heap.size + 1) #[.string c.nm, .slice wa c.wk.length wc, .slice ha c.hol.length hc] 26 := Bk.Blk.nw31
  have kz : Bk.Blk (((w.alloc (.cells #[.int .i64 (t).me, .int .i64 (t).pr, .int .i64 (t).ppm, .int .i64 (t).stt, .int .i64 (t).ev, .int .i64 (t).ct, .int .i64 (t).ba, .int .i64 (t).mo, .int .i64 (t).pen, .int .i64 (t).fe, .string (t).cal, .string (t).cur] 23)).alloc (.cells #[.string c.nm, .slice wa c.wk.length wc, .slice ha c.hol.length hc] 26)).alloc (.cells #[.int .i64 0, .int .i64 0, .int .i64 0, .int .i64 0, .int .i64 0, .int .i64 0, .int .i64 0, .int .i64 0, .int .i64 0, .int .i64 0, .int .i64 0, .int .i64 0, .int .i64 0, .int .i64 0, .int .i64 0, .int .i64 0, .int .i64 0, .int .i64 0, .int .i64 0, .int .i64 0, .int .i64 0, .string { data := #[] }, .string { data := #[] }, .slice none 0 0, .slice none 0 0] 31)) (w.heap.size + 2) #[.int .i64 0, .int .i64 0, .int .i64 0, .int .i64 0, .int .i64 0, .int .i64 0, .int .i64 0, .int .i64 0, .int .i64 0, .int .i64 0, .int .i64 0, .int .i64 0, .int .i64 0, .int .i64 0, .int .i64 0, .int .i64 0, .int .i64 0, .int .i64 0, .int .i64 0, .int .i64 0, .int .i64 0, .string { data := #[] }, .string { data := #[] }, .slice none 0 0, .slice none 0 0] 31 := Bk.Blk.nw32
  have cw1s : w.heap.size + 3 ≤ (((w.alloc (.cells #[.int .i64 (t).me, .int .i64 (t).pr, .int .i64 (t).ppm, .int .i64 (t).stt, .int .i64 (t).ev, .int .i64 (t).ct, .int .i64 (t).ba, .int .i64 (t).mo, .int .i64 (t).pen, .int .i64 (t).fe, .string (t).cal, .string (t).cur] 23)).alloc (.cells #[.string c.nm, .slice wa c.wk.length wc, .slice ha c.hol.length hc] 26)).alloc (.cells #[.int .i64 0, .int .i64 0, .int .i64 0, .int .i64 0, .int .i64 0, .int .i64 0, .int .i64 0, .int .i64 0, .int .i64 0, .int .i64 0, .int .i64 0, .int .i64 0, .int .i64 0, .int .i64 0, .int .i64 0, .int .i64 0, .int .i64 0, .int .i64 0, .int .i64 0, .int .i64 0, .int .i64 0, .string { data := #[] }, .string { data := #[] }, .slice none 0 0, .slice none 0 0] 31)).heap.size := by simp
  have hi := h.later cw
  have hS := hs.of cw
  clear h hs
  go_enter Tryz.func8, Tryz.ntmps8
  go_upto_region 1 with fail
  generalize (((w.alloc (.cells #[.int .i64 (t).me, .int .i64 (t).pr, .int .i64 (t).ppm, .int .i64 (t).stt, .int .i64 (t).ev, .int .i64 (t).ct, .int .i64 (t).ba, .int .i64 (t).mo, .int .i64 (t).pen, .int .i64 (t).fe, .string (t).cal, .string (t).cur] 23)).alloc (.cells #[.string c.nm, .slice wa c.wk.length wc, .slice ha c.hol.length hc] 26)).alloc (.cells #[.int .i64 0, .int .i64 0, .int .i64 0, .int .i64 0, .int .i64 0, .int .i64 0, .int .i64 0, .int .i64 0, .int .i64 0, .int .i64 0, .int .i64 0, .int .i64 0, .int .i64 0, .int .i64 0, .int .i64 0, .int .i64 0, .int .i64 0, .int .i64 0, .int .i64 0, .int .i64 0, .int .i64 0, .string { data := #[] }, .string { data := #[] }, .slice none 0 0, .slice none 0 0] 31)) = w1 at *
  have cw1 := cw
  clear cw
  by_cases i1 : id < 1
  · have HF := Lib.hid (disE_1 (id := id) (ac := ac) (t := t) (c := c) (.inl i1))
    go_wp2_with (refine wpList_store_row rfl 31 _ _ rfl _ _ rfl rfl _ _ kz (by kernel_rfl) rfl (by simp [Value.oneCell']) ?_)
    (try simp only [Exit.inBlock, Exit.then])
    refine bodyPost_ret (results2_cell Tryz.results8 _ _ _ _ _ _ _ rfl (Blk_setRow_same kz) Tryz.underlying31 rfl (by kernel_rfl)) rfl ?_
    exact disOut_no HF.out (by decide) (Below_setRow cw1 (by omega) _)
  · by_cases i2 : ac < 1000
    · have HF := Lib.hid (disE_1 (id := id) (ac := ac) (t := t) (c := c) (.inr i2))
      go_wp2_with (refine wpList_store_row rfl 31 _ _ rfl _ _ rfl rfl _ _ kz (by kernel_rfl) rfl (by simp [Value.oneCell']) ?_)
      (try simp only [Exit.inBlock, Exit.then])
      refine bodyPost_ret (results2_cell Tryz.results8 _ _ _ _ _ _ _ rfl (Blk_setRow_same kz) Tryz.underlying31 rfl (by kernel_rfl)) rfl ?_
      exact disOut_no HF.out (by decide) (Below_setRow cw1 (by omega) _)
    · have hb : ¬ (id < 1 ∨ ac < 1000) := by omega
      have HF := Lib.hid (disE_b (t := t) (c := c) hb)
      have l0 := kt.c0
      have l1 := kt.c1
      have l2 := kt.c2
      have l3 := kt.c3
      have l4 := kt.c4
      have l5 := kt.c5
      have l6 := kt.c6
      have l7 := kt.c7
      have l8 := kt.c8
      have l9 := kt.c9
      have l10 := kt.c10
      have l11 := kt.c11
      have m0 := kc.c0
      have m1 := kc.c1
      have m2 := kc.c2
      go_wp2_with fail
      clear l0 l1 l2 l3 l4 l5 l6 l7 l8 l9 l10 l11 m0 m1 m2
      refine (Kl.build_any t c wa ha wc hc _ hi hcu hS).mono ?_
      rintro e w2 ⟨da, dk, rfl, hd, hf, hb'⟩
      replace kt := kt.later hb'
      replace kc := kc.later hb'
      replace kz := kz.later hb'
      replace hi := hi.later hb'
      replace hS := hS.of hb'
      have cw2 := bl2 hb' cw1
      clear hb' cw1
      by_cases he : blE t c ≠ 0
      · have HF2 := Lib.hid HF.out
        have HN := Lib.hid he
        have g1 : (blE t c != 0) = true := by simpa using he
        clear he hd hf
        generalize blE t c = E at HF2 HN g1 ⊢
        go_wp2_with (refine wpList_store_row rfl 31 _ _ rfl _ _ rfl rfl _ _ kz (by kernel_rfl) rfl (by simp [Value.oneCell']) ?_)
        (try simp only [Exit.inBlock, Exit.then])
        refine bodyPost_ret (results2_cell Tryz.results8 _ _ _ _ _ _ _ rfl (Blk_setRow_same kz) Tryz.underlying31 rfl (by kernel_rfl)) rfl ?_
        exact disOut_no HF2.out HN.out (Below_setRow cw2 (by omega) _)
      · have he0 : blE t c = 0 := Classical.byContradiction he
        have HF2 := Lib.hid (HF.out.trans he0)
        have g1 : (blE t c != 0) = false := by rw [he0]; rfl
        clear he he0
        generalize blE t c = E at g1 ⊢
        obtain ⟨ls, hls⟩ : ∃ ls, ls = blV t c := ⟨_, rfl⟩
        rw [← hls]
        have HLS := Lib.hid hls
        clear hls
        have l0 := kt.c0
        have l1 := kt.c1
        have l2 := kt.c2
        have l3 := kt.c3
        have l4 := kt.c4
        have l5 := kt.c5
        have l6 := kt.c6
        have l7 := kt.c7
        have l8 := kt.c8
        have l9 := kt.c9
        have l10 := kt.c10
        have l11 := kt.c11
        have m0 := kc.c0
        have m1 := kc.c1
        have m2 := kc.c2
        go_wp2_with (refine wpList_store_row rfl 31 _ _ rfl _ _ rfl rfl _ _ kz (by kernel_rfl) rfl (by simp [Value.oneCell']) ?_)
        (try simp only [Exit.inBlock, Exit.then])
        refine bodyPost_ret (results2_cell Tryz.results8 _ _ _ _ _ _ _ rfl (Blk_setRow_same kz) Tryz.underlying31 rfl (by kernel_rfl)) rfl ?_
        rw [HLS.out]
        exact disOut_ok HF2.out (dues_setRow hd (fun ad had => by have := hf ad had; have := cw1s; omega)) (Below_setRow cw2 (by omega) _)
set_option maxHeartbeats 16000000 in
theorem rdis_any (id ac : Int) (t : Tm) (c : Cl) (wa ha : Option Addr) (wc hc : Nat) (w : World) (h : CalIn w c wa ha) (hcu : t.cur.size ≤ maxLen) (hs : Rd.Stp w) : Calls Tryz.prog 9 #[.int .i64 id, .int .i64 ac, (.agg #[.int .i64 (t).me, .int .i64 (t).pr, .int .i64 (t).ppm, .int .i64 (t).stt, .int .i64 (t).ev, .int .i64 (t).ct, .int .i64 (t).ba, .int .i64 (t).mo, .int .i64 (t).pen, .int .i64 (t).fe, .string (t).cal, .string (t).cur]), (.agg #[.string (c).nm, .slice wa (c).wk.length wc, .slice ha (c).hol.length hc])] w (DisOut id ac t c w) := by
  have cw : Below w.heap.size w (((w.alloc (.cells #[.int .i64 (t).me, .int .i64 (t).pr, .int .i64 (t).ppm, .int .i64 (t).stt, .int .i64 (t).ev, .int .i64 (t).ct, .int .i64 (t).ba, .int .i64 (t).mo, .int .i64 (t).pen, .int .i64 (t).fe, .string (t).cal, .string (t).cur] 23)).alloc (.cells #[.string c.nm, .slice wa c.wk.length wc, .slice ha c.hol.length hc] 26)).alloc (.cells #[.int .i64 0, .int .i64 0, .int .i64 0, .int .i64 0, .int .i64 0, .int .i64 0, .int .i64 0, .int .i64 0, .int .i64 0, .int .i64 0, .int .i64 0, .int .i64 0, .int .i64 0, .int .i64 0, .int .i64 0, .int .i64 0, .int .i64 0, .int .i64 0, .int .i64 0, .int .i64 0, .int .i64 0, .string { data := #[] }, .string { data := #[] }, .slice none 0 0, .slice none 0 0] 31)) := (((Below.refl _ _).alloc (Nat.le_refl _) _).alloc (by simp) _).alloc (by simp; omega) _
  have kt : Bk.Blk (((w.alloc (.cells #[.int .i64 (t).me, .int .i64 (t).pr, .int .i64 (t).ppm, .int .i64 (t).stt, .int .i64 (t).ev, .int .i64 (t).ct, .int .i64 (t).ba, .int .i64 (t).mo, .int .i64 (t).pen, .int .i64 (t).fe, .string (t).cal, .string (t).cur] 23)).alloc (.cells #[.string c.nm, .slice wa c.wk.length wc, .slice ha c.hol.length hc] 26)).alloc (.cells #[.int .i64 0, .int .i64 0, .int .i64 0, .int .i64 0, .int .i64 0, .int .i64 0, .int .i64 0, .int .i64 0, .int .i64 0, .int .i64 0, .int .i64 0, .int .i64 0, .int .i64 0, .int .i64 0, .int .i64 0, .int .i64 0, .int .i64 0, .int .i64 0, .int .i64 0, .int .i64 0, .int .i64 0, .string { data := #[] }, .string { data := #[] }, .slice none 0 0, .slice none 0 0] 31)) w.heap.size #[.int .i64 (t).me, .int .i64 (t).pr, .int .i64 (t).ppm, .int .i64 (t).stt, .int .i64 (t).ev, .int .i64 (t).ct, .int .i64 (t).ba, .int .i64 (t).mo, .int .i64 (t).pen, .int .i64 (t).fe, .string (t).cal, .string (t).cur] 23 := Bk.Blk.nw30
  have kc : Bk.Blk (((w.alloc (.cells #[.int .i64 (t).me, .int .i64 (t).pr, .int .i64 (t).ppm, .int .i64 (t).stt, .int .i64 (t).ev, .int .i64 (t).ct, .int .i64 (t).ba, .int .i64 (t).mo, .int .i64 (t).pen, .int .i64 (t).fe, .string (t).cal, .string (t).cur] 23)).alloc (.cells #[.string c.nm, .slice wa c.wk.length wc, .slice ha c.hol.length hc] 26)).alloc (.cells #[.int .i64 0, .int .i64 0, .int .i64 0, .int .i64 0, .int .i64 0, .int .i64 0, .int .i64 0, .int .i64 0, .int .i64 0, .int .i64 0, .int .i64 0, .int .i64 0, .int .i64 0, .int .i64 0, .int .i64 0, .int .i64 0, .int .i64 0, .int .i64 0, .int .i64 0, .int .i64 0, .int .i64 0, .string { data := #[] }, .string { data := #[] }, .slice none 0 0, .slice none 0 0] 31)) (w.heap.size + 1) #[.string c.nm, .slice wa c.wk.length wc, .slice ha c.hol.length hc] 26 := Bk.Blk.nw31
  have kz : Bk.Blk (((w.alloc (.cells #[.int .i64 (t).me, .int .i64 (t).pr, .int .i64 (t).ppm, .int .i64 (t).stt, .int .i64 (t).ev, .int .i64 (t).ct, .int .i64 (t).ba, .int .i64 (t).mo, .int .i64 (t).pen, .int .i64 (t).fe, .string (t).cal, .string (t).cur] 23)).alloc (.cells #[.string c.nm, .slice wa c.wk.length wc, .slice ha c.hol.length hc] 26)).alloc (.cells #[.int .i64 0, .int .i64 0, .int .i64 0, .int .i64 0, .int .i64 0, .int .i64 0, .int .i64 0, .int .i64 0, .int .i64 0, .int .i64 0, .int .i64 0, .int .i64 0, .int .i64 0, .int .i64 0, .int .i64 0, .int .i64 0, .int .i64 0, .int .i64 0, .int .i64 0, .int .i64 0, .int .i64 0, .string { data := #[] }, .string { data := #[] }, .slice none 0 0, .slice none 0 0] 31)) (w.heap.size + 2) #[.int .i64 0, .int .i64 0, .int .i64 0, .int .i64 0, .int .i64 0, .int .i64 0, .int .i64 0, .int .i64 0, .int .i64 0, .int .i64 0, .int .i64 0, .int .i64 0, .int .i64 0, .int .i64 0, .int .i64 0, .int .i64 0, .int .i64 0, .int .i64 0, .int .i64 0, .int .i64 0, .int .i64 0, .string { data := #[] }, .string { data := #[] }, .slice none 0 0, .slice none 0 0] 31 := Bk.Blk.nw32
  have cw1s : w.heap.size + 3 ≤ (((w.alloc (.cells #[.int .i64 (t).me, .int .i64 (t).pr, .int .i64 (t).ppm, .int .i64 (t).stt, .int .i64 (t).ev, .int .i64 (t).ct, .int .i64 (t).ba, .int .i64 (t).mo, .int .i64 (t).pen, .int .i64 (t).fe, .string (t).cal, .string (t).cur] 23)).alloc (.cells #[.string c.nm, .slice wa c.wk.length wc, .slice ha c.hol.length hc] 26)).alloc (.cells #[.int .i64 0, .int .i64 0, .int .i64 0, .int .i64 0, .int .i64 0, .int .i64 0, .int .i64 0, .int .i64 0, .int .i64 0, .int .i64 0, .int .i64 0, .int .i64 0, .int .i64 0, .int .i64 0, .int .i64 0, .int .i64 0, .int .i64 0, .int .i64 0, .int .i64 0, .int .i64 0, .int .i64 0, .string { data := #[] }, .string { data := #[] }, .slice none 0 0, .slice none 0 0] 31)).heap.size := by simp
  have hi := h.later cw
  have hS := hs.of cw
  clear h hs
  go_enter Tryz.func9, Tryz.ntmps9
  go_upto_region 1 with fail
  generalize (((w.alloc (.cells #[.int .i64 (t).me, .int .i64 (t).pr, .int .i64 (t).ppm, .int .i64 (t).stt, .int .i64 (t).ev, .int .i64 (t).ct, .int .i64 (t).ba, .int .i64 (t).mo, .int .i64 (t).pen, .int .i64 (t).fe, .string (t).cal, .string (t).cur] 23)).alloc (.cells #[.string c.nm, .slice wa c.wk.length wc, .slice ha c.hol.length hc] 26)).alloc (.cells #[.int .i64 0, .int .i64 0, .int .i64 0, .int .i64 0, .int .i64 0, .int .i64 0, .int .i64 0, .int .i64 0, .int .i64 0, .int .i64 0, .int .i64 0, .int .i64 0, .int .i64 0, .int .i64 0, .int .i64 0, .int .i64 0, .int .i64 0, .int .i64 0, .int .i64 0, .int .i64 0, .int .i64 0, .string { data := #[] }, .string { data := #[] }, .slice none 0 0, .slice none 0 0] 31)) = w1 at *
  have cw1 := cw
  clear cw
  by_cases i1 : id < 1
  · have HF := Lib.hid (disE_1 (id := id) (ac := ac) (t := t) (c := c) (.inl i1))
    go_wp2_with (refine wpList_store_row rfl 31 _ _ rfl _ _ rfl rfl _ _ kz (by kernel_rfl) rfl (by simp [Value.oneCell']) ?_)
    (try simp only [Exit.inBlock, Exit.then])
    refine bodyPost_ret (results2_cell Tryz.results9 _ _ _ _ _ _ _ rfl (Blk_setRow_same kz) Tryz.underlying31 rfl (by kernel_rfl)) rfl ?_
    exact disOut_no HF.out (by decide) (Below_setRow cw1 (by omega) _)
  · by_cases i2 : ac < 1000
    · have HF := Lib.hid (disE_1 (id := id) (ac := ac) (t := t) (c := c) (.inr i2))
      go_wp2_with (refine wpList_store_row rfl 31 _ _ rfl _ _ rfl rfl _ _ kz (by kernel_rfl) rfl (by simp [Value.oneCell']) ?_)
      (try simp only [Exit.inBlock, Exit.then])
      refine bodyPost_ret (results2_cell Tryz.results9 _ _ _ _ _ _ _ rfl (Blk_setRow_same kz) Tryz.underlying31 rfl (by kernel_rfl)) rfl ?_
      exact disOut_no HF.out (by decide) (Below_setRow cw1 (by omega) _)
    · have hb : ¬ (id < 1 ∨ ac < 1000) := by omega
      have HF := Lib.hid (disE_b (t := t) (c := c) hb)
      have l0 := kt.c0
      have l1 := kt.c1
      have l2 := kt.c2
      have l3 := kt.c3
      have l4 := kt.c4
      have l5 := kt.c5
      have l6 := kt.c6
      have l7 := kt.c7
      have l8 := kt.c8
      have l9 := kt.c9
      have l10 := kt.c10
      have l11 := kt.c11
      have m0 := kc.c0
      have m1 := kc.c1
      have m2 := kc.c2
      go_wp2_with fail
      clear l0 l1 l2 l3 l4 l5 l6 l7 l8 l9 l10 l11 m0 m1 m2
      refine (Kl.rbuild_any t c wa ha wc hc _ hi hcu hS).mono ?_
      rintro e w2 ⟨da, dk, rfl, hd, hf, hb'⟩
      replace kt := kt.later hb'
      replace kc := kc.later hb'
      replace kz := kz.later hb'
      replace hi := hi.later hb'
      replace hS := hS.of hb'
      have cw2 := bl2 hb' cw1
      clear hb' cw1
      by_cases he : blE t c ≠ 0
      · have HF2 := Lib.hid HF.out
        have HN := Lib.hid he
        have g1 : (blE t c != 0) = true := by simpa using he
        clear he hd hf
        generalize blE t c = E at HF2 HN g1 ⊢
        go_wp2_with (refine wpList_store_row rfl 31 _ _ rfl _ _ rfl rfl _ _ kz (by kernel_rfl) rfl (by simp [Value.oneCell']) ?_)
        (try simp only [Exit.inBlock, Exit.then])
        refine bodyPost_ret (results2_cell Tryz.results9 _ _ _ _ _ _ _ rfl (Blk_setRow_same kz) Tryz.underlying31 rfl (by kernel_rfl)) rfl ?_
        exact disOut_no HF2.out HN.out (Below_setRow cw2 (by omega) _)
      · have he0 : blE t c = 0 := Classical.byContradiction he
        have HF2 := Lib.hid (HF.out.trans he0)
        have g1 : (blE t c != 0) = false := by rw [he0]; rfl
        clear he he0
        generalize blE t c = E at g1 ⊢
        obtain ⟨ls, hls⟩ : ∃ ls, ls = blV t c := ⟨_, rfl⟩
        rw [← hls]
        have HLS := Lib.hid hls
        clear hls
        have l0 := kt.c0
        have l1 := kt.c1
        have l2 := kt.c2
        have l3 := kt.c3
        have l4 := kt.c4
        have l5 := kt.c5
        have l6 := kt.c6
        have l7 := kt.c7
        have l8 := kt.c8
        have l9 := kt.c9
        have l10 := kt.c10
        have l11 := kt.c11
        have m0 := kc.c0
        have m1 := kc.c1
        have m2 := kc.c2
        go_wp2_with (refine wpList_store_row rfl 31 _ _ rfl _ _ rfl rfl _ _ kz (by kernel_rfl) rfl (by simp [Value.oneCell']) ?_)
        (try simp only [Exit.inBlock, Exit.then])
        refine bodyPost_ret (results2_cell Tryz.results9 _ _ _ _ _ _ _ rfl (Blk_setRow_same kz) Tryz.underlying31 rfl (by kernel_rfl)) rfl ?_
        rw [HLS.out]
        exact disOut_ok HF2.out (dues_setRow hd (fun ad had => by have := hf ad had; have := cw1s; omega)) (Below_setRow cw2 (by omega) _)
theorem dis_len (id ac : Int) (t : Tm) (c : Cl) : (disL id ac t c).ds.length ≤ 100000 ∧ (disL id ac t c).cs = [] := by
  unfold disL
  split
  · rename_i h
    obtain ⟨_, _, hb⟩ := dis_parts h
    obtain ⟨_, ht, _, _, _⟩ := bl_facts hb
    have hl := bl_len hb
    have hct := ht.ct
    refine ⟨?_, rfl⟩
    show (blV t c).length ≤ 100000
    omega
  · exact ⟨by decide, rfl⟩
set_option maxHeartbeats 16000000 in
theorem disburses_walk (t : Tm) (c : Cl) (wa ha : Option Addr) (wc hc' : Nat) (id ac : Int) (hcu : t.cur.size ≤ maxLen) (_ : (Lit.int .i64 id).wf = true) (_ : (Lit.int .i64 ac).wf = true) (w : World) (h : CalIn w c wa ha) (hs : Rd.Stp w) : Calls Tryz.prog 3 #[(.agg #[.int .i64 (t).me, .int .i64 (t).pr, .int .i64 (t).ppm, .int .i64 (t).stt, .int .i64 (t).ev, .int .i64 (t).ct, .int .i64 (t).ba, .int .i64 (t).mo, .int .i64 (t).pen, .int .i64 (t).fe, .string (t).cal, .string (t).cur]), (.agg #[.string (c).nm, .slice wa (c).wk.length wc, .slice ha (c).hol.length hc']), .agg #[.int .i64 id, .int .i64 ac]] w fun e w' => e = .returned (.bool true) ∧ Below w.heap.size w w' := by
  have cw : Below w.heap.size w (((w.alloc (.cells #[.int .i64 (t).me, .int .i64 (t).pr, .int .i64 (t).ppm, .int .i64 (t).stt, .int .i64 (t).ev, .int .i64 (t).ct, .int .i64 (t).ba, .int .i64 (t).mo, .int .i64 (t).pen, .int .i64 (t).fe, .string (t).cal, .string (t).cur] 23)).alloc (.cells #[.string c.nm, .slice wa c.wk.length wc, .slice ha c.hol.length hc'] 26)).alloc (.cells #[.int .i64 id, .int .i64 ac] 27)) := (((Below.refl _ _).alloc (Nat.le_refl _) _).alloc (by simp) _).alloc (by simp; omega) _
  have kt : Bk.Blk (((w.alloc (.cells #[.int .i64 (t).me, .int .i64 (t).pr, .int .i64 (t).ppm, .int .i64 (t).stt, .int .i64 (t).ev, .int .i64 (t).ct, .int .i64 (t).ba, .int .i64 (t).mo, .int .i64 (t).pen, .int .i64 (t).fe, .string (t).cal, .string (t).cur] 23)).alloc (.cells #[.string c.nm, .slice wa c.wk.length wc, .slice ha c.hol.length hc'] 26)).alloc (.cells #[.int .i64 id, .int .i64 ac] 27)) w.heap.size #[.int .i64 (t).me, .int .i64 (t).pr, .int .i64 (t).ppm, .int .i64 (t).stt, .int .i64 (t).ev, .int .i64 (t).ct, .int .i64 (t).ba, .int .i64 (t).mo, .int .i64 (t).pen, .int .i64 (t).fe, .string (t).cal, .string (t).cur] 23 := Bk.Blk.nw30
  have kc : Bk.Blk (((w.alloc (.cells #[.int .i64 (t).me, .int .i64 (t).pr, .int .i64 (t).ppm, .int .i64 (t).stt, .int .i64 (t).ev, .int .i64 (t).ct, .int .i64 (t).ba, .int .i64 (t).mo, .int .i64 (t).pen, .int .i64 (t).fe, .string (t).cal, .string (t).cur] 23)).alloc (.cells #[.string c.nm, .slice wa c.wk.length wc, .slice ha c.hol.length hc'] 26)).alloc (.cells #[.int .i64 id, .int .i64 ac] 27)) (w.heap.size + 1) #[.string c.nm, .slice wa c.wk.length wc, .slice ha c.hol.length hc'] 26 := Bk.Blk.nw31
  have ki : Bk.Blk (((w.alloc (.cells #[.int .i64 (t).me, .int .i64 (t).pr, .int .i64 (t).ppm, .int .i64 (t).stt, .int .i64 (t).ev, .int .i64 (t).ct, .int .i64 (t).ba, .int .i64 (t).mo, .int .i64 (t).pen, .int .i64 (t).fe, .string (t).cal, .string (t).cur] 23)).alloc (.cells #[.string c.nm, .slice wa c.wk.length wc, .slice ha c.hol.length hc'] 26)).alloc (.cells #[.int .i64 id, .int .i64 ac] 27)) (w.heap.size + 2) #[.int .i64 id, .int .i64 ac] 27 := Bk.Blk.nw32
  have hi := h.later cw
  have hS := hs.of cw
  have hn1 := h.wk.1
  have hn2 := h.hol.1
  clear h hs
  go_enter Tryz.func3, Tryz.ntmps3
  go_upto_region 1 with fail
  generalize (((w.alloc (.cells #[.int .i64 (t).me, .int .i64 (t).pr, .int .i64 (t).ppm, .int .i64 (t).stt, .int .i64 (t).ev, .int .i64 (t).ct, .int .i64 (t).ba, .int .i64 (t).mo, .int .i64 (t).pen, .int .i64 (t).fe, .string (t).cal, .string (t).cur] 23)).alloc (.cells #[.string c.nm, .slice wa c.wk.length wc, .slice ha c.hol.length hc'] 26)).alloc (.cells #[.int .i64 id, .int .i64 ac] 27)) = w1 at *
  have cw1 := cw
  clear cw
  have l0 := kt.c0
  have l1 := kt.c1
  have l2 := kt.c2
  have l3 := kt.c3
  have l4 := kt.c4
  have l5 := kt.c5
  have l6 := kt.c6
  have l7 := kt.c7
  have l8 := kt.c8
  have l9 := kt.c9
  have l10 := kt.c10
  have l11 := kt.c11
  have m0 := kc.c0
  have m1 := kc.c1
  have m2 := kc.c2
  by_cases a1 : c.hol.length ≤ 60
  · by_cases a2 : c.wk.length ≤ 20
    · by_cases a3 : c.nm.size ≤ 100
      · by_cases a4 : t.cal.size ≤ 100
        · by_cases a5 : t.cur.size ≤ 100
          · obtain ⟨A, hA⟩ : ∃ A, A = disL id ac t c := ⟨_, rfl⟩
            obtain ⟨E, hE⟩ : ∃ E, E = disE id ac t c := ⟨_, rfl⟩
            have HP := Lib.hid (fun W (hc : CalIn W c wa ha) (hs : Rd.Stp W) => dis_any id ac t c wa ha wc hc' W hc hcu hs)
            have HR := Lib.hid (fun W (hc : CalIn W c wa ha) (hs : Rd.Stp W) => rdis_any id ac t c wa ha wc hc' W hc hcu hs)
            have HC := Lib.hid (fun h => dis_chk (id := id) (ac := ac) (t := t) (c := c) h)
            have HL := Lib.hid (dis_len id ac t c)
            unfold DisOut at HP HR
            rw [← hA, ← hE] at HP HR HC
            rw [← hA] at HL
            clear hA hE
            have n0 := ki.c0
            have n1 := ki.c1
            go_wp2_with fail
            clear n0 n1
            clear l0 l1 l2 l3 l4 l5 l6 l7 l8 l9 l10 l11 m0 m1 m2
            refine (HP.out _ hi hS).mono ?_
            rintro e w2 ⟨da1, dk1, rfl, hd1, hb⟩
            replace kt := kt.later hb
            replace kc := kc.later hb
            replace ki := ki.later hb
            replace hi := hi.later hb
            replace hS := hS.of hb
            have cw2 := bl2 hb cw1
            clear hb cw1
            go_upto_region 4 with (refine wpList_store_row rfl 31 _ _ rfl _ _ rfl rfl _ _ Bk.Blk.nw10 (by kernel_rfl) rfl (by simp [Value.oneCell']) ?_)
            have hbs : Below w2.heap.size w2 ((w2.alloc (.cells #[.int .i64 0, .int .i64 0, .int .i64 0, .int .i64 0, .int .i64 0, .int .i64 0, .int .i64 0, .int .i64 0, .int .i64 0, .int .i64 0, .int .i64 0, .int .i64 0, .int .i64 0, .int .i64 0, .int .i64 0, .int .i64 0, .int .i64 0, .int .i64 0, .int .i64 0, .int .i64 0, .int .i64 0, .string { data := #[] }, .string { data := #[] }, .slice none 0 0, .slice none 0 0] 31)).setRow w2.heap.size #[.int .i64 (A).id, .int .i64 (A).ac, .int .i64 (A).st, .int .i64 (A).pp, .int .i64 (A).pi, .int .i64 (A).fee, .int .i64 (A).pen, .int .i64 (A).chg, .int .i64 (A).prov, .int .i64 (A).loss, .int .i64 (A).rcv, .int .i64 ((A).tm).me, .int .i64 ((A).tm).pr, .int .i64 ((A).tm).ppm, .int .i64 ((A).tm).stt, .int .i64 ((A).tm).ev, .int .i64 ((A).tm).ct, .int .i64 ((A).tm).ba, .int .i64 ((A).tm).mo, .int .i64 ((A).tm).pen, .int .i64 ((A).tm).fe, .string ((A).tm).cal, .string ((A).tm).cur, .slice da1 (A).ds.length dk1, .slice none (A).cs.length 0]) := Below_setRow ((Below.refl _ _).alloc (Nat.le_refl _) _) (Nat.le_refl _) _
            have k1 : Bk.Blk ((w2.alloc (.cells #[.int .i64 0, .int .i64 0, .int .i64 0, .int .i64 0, .int .i64 0, .int .i64 0, .int .i64 0, .int .i64 0, .int .i64 0, .int .i64 0, .int .i64 0, .int .i64 0, .int .i64 0, .int .i64 0, .int .i64 0, .int .i64 0, .int .i64 0, .int .i64 0, .int .i64 0, .int .i64 0, .int .i64 0, .string { data := #[] }, .string { data := #[] }, .slice none 0 0, .slice none 0 0] 31)).setRow w2.heap.size #[.int .i64 (A).id, .int .i64 (A).ac, .int .i64 (A).st, .int .i64 (A).pp, .int .i64 (A).pi, .int .i64 (A).fee, .int .i64 (A).pen, .int .i64 (A).chg, .int .i64 (A).prov, .int .i64 (A).loss, .int .i64 (A).rcv, .int .i64 ((A).tm).me, .int .i64 ((A).tm).pr, .int .i64 ((A).tm).ppm, .int .i64 ((A).tm).stt, .int .i64 ((A).tm).ev, .int .i64 ((A).tm).ct, .int .i64 ((A).tm).ba, .int .i64 ((A).tm).mo, .int .i64 ((A).tm).pen, .int .i64 ((A).tm).fe, .string ((A).tm).cal, .string ((A).tm).cur, .slice da1 (A).ds.length dk1, .slice none (A).cs.length 0]) w2.heap.size #[.int .i64 (A).id, .int .i64 (A).ac, .int .i64 (A).st, .int .i64 (A).pp, .int .i64 (A).pi, .int .i64 (A).fee, .int .i64 (A).pen, .int .i64 (A).chg, .int .i64 (A).prov, .int .i64 (A).loss, .int .i64 (A).rcv, .int .i64 ((A).tm).me, .int .i64 ((A).tm).pr, .int .i64 ((A).tm).ppm, .int .i64 ((A).tm).stt, .int .i64 ((A).tm).ev, .int .i64 ((A).tm).ct, .int .i64 ((A).tm).ba, .int .i64 ((A).tm).mo, .int .i64 ((A).tm).pen, .int .i64 ((A).tm).fe, .string ((A).tm).cal, .string ((A).tm).cur, .slice da1 (A).ds.length dk1, .slice none (A).cs.length 0] 31 := Blk_setRow_same Bk.Blk.nw10
            replace kt := kt.later hbs
            replace kc := kc.later hbs
            replace ki := ki.later hbs
            replace hi := hi.later hbs
            replace hS := hS.of hbs
            replace hd1 := hd1.later hbs
            have cw3 := bl2 hbs cw2
            clear cw2 hbs
            generalize ((w2.alloc (.cells #[.int .i64 0, .int .i64 0, .int .i64 0, .int .i64 0, .int .i64 0, .int .i64 0, .int .i64 0, .int .i64 0, .int .i64 0, .int .i64 0, .int .i64 0, .int .i64 0, .int .i64 0, .int .i64 0, .int .i64 0, .int .i64 0, .int .i64 0, .int .i64 0, .int .i64 0, .int .i64 0, .int .i64 0, .string { data := #[] }, .string { data := #[] }, .slice none 0 0, .slice none 0 0] 31)).setRow w2.heap.size #[.int .i64 (A).id, .int .i64 (A).ac, .int .i64 (A).st, .int .i64 (A).pp, .int .i64 (A).pi, .int .i64 (A).fee, .int .i64 (A).pen, .int .i64 (A).chg, .int .i64 (A).prov, .int .i64 (A).loss, .int .i64 (A).rcv, .int .i64 ((A).tm).me, .int .i64 ((A).tm).pr, .int .i64 ((A).tm).ppm, .int .i64 ((A).tm).stt, .int .i64 ((A).tm).ev, .int .i64 ((A).tm).ct, .int .i64 ((A).tm).ba, .int .i64 ((A).tm).mo, .int .i64 ((A).tm).pen, .int .i64 ((A).tm).fe, .string ((A).tm).cal, .string ((A).tm).cur, .slice da1 (A).ds.length dk1, .slice none (A).cs.length 0]) = w3 at *
            generalize w2.heap.size = g1 at *
            have l0 := kt.c0
            have l1 := kt.c1
            have l2 := kt.c2
            have l3 := kt.c3
            have l4 := kt.c4
            have l5 := kt.c5
            have l6 := kt.c6
            have l7 := kt.c7
            have l8 := kt.c8
            have l9 := kt.c9
            have l10 := kt.c10
            have l11 := kt.c11
            have m0 := kc.c0
            have m1 := kc.c1
            have m2 := kc.c2
            have n0 := ki.c0
            have n1 := ki.c1
            go_wp2_with fail
            clear n0 n1
            clear l0 l1 l2 l3 l4 l5 l6 l7 l8 l9 l10 l11 m0 m1 m2
            refine (HR.out _ hi hS).mono ?_
            rintro e w4 ⟨da2, dk2, rfl, hd2, hb⟩
            replace kt := kt.later hb
            replace kc := kc.later hb
            replace ki := ki.later hb
            replace hi := hi.later hb
            replace hS := hS.of hb
            replace hd1 := hd1.later hb
            replace k1 := k1.later hb
            have cw4 := bl2 hb cw3
            clear hb cw3
            go_upto_region 5 with (refine wpList_store_row rfl 31 _ _ rfl _ _ rfl rfl _ _ Bk.Blk.nw10 (by kernel_rfl) rfl (by simp [Value.oneCell']) ?_)
            have hbs : Below w4.heap.size w4 ((w4.alloc (.cells #[.int .i64 0, .int .i64 0, .int .i64 0, .int .i64 0, .int .i64 0, .int .i64 0, .int .i64 0, .int .i64 0, .int .i64 0, .int .i64 0, .int .i64 0, .int .i64 0, .int .i64 0, .int .i64 0, .int .i64 0, .int .i64 0, .int .i64 0, .int .i64 0, .int .i64 0, .int .i64 0, .int .i64 0, .string { data := #[] }, .string { data := #[] }, .slice none 0 0, .slice none 0 0] 31)).setRow w4.heap.size #[.int .i64 (A).id, .int .i64 (A).ac, .int .i64 (A).st, .int .i64 (A).pp, .int .i64 (A).pi, .int .i64 (A).fee, .int .i64 (A).pen, .int .i64 (A).chg, .int .i64 (A).prov, .int .i64 (A).loss, .int .i64 (A).rcv, .int .i64 ((A).tm).me, .int .i64 ((A).tm).pr, .int .i64 ((A).tm).ppm, .int .i64 ((A).tm).stt, .int .i64 ((A).tm).ev, .int .i64 ((A).tm).ct, .int .i64 ((A).tm).ba, .int .i64 ((A).tm).mo, .int .i64 ((A).tm).pen, .int .i64 ((A).tm).fe, .string ((A).tm).cal, .string ((A).tm).cur, .slice da2 (A).ds.length dk2, .slice none (A).cs.length 0]) := Below_setRow ((Below.refl _ _).alloc (Nat.le_refl _) _) (Nat.le_refl _) _
            have k2 : Bk.Blk ((w4.alloc (.cells #[.int .i64 0, .int .i64 0, .int .i64 0, .int .i64 0, .int .i64 0, .int .i64 0, .int .i64 0, .int .i64 0, .int .i64 0, .int .i64 0, .int .i64 0, .int .i64 0, .int .i64 0, .int .i64 0, .int .i64 0, .int .i64 0, .int .i64 0, .int .i64 0, .int .i64 0, .int .i64 0, .int .i64 0, .string { data := #[] }, .string { data := #[] }, .slice none 0 0, .slice none 0 0] 31)).setRow w4.heap.size #[.int .i64 (A).id, .int .i64 (A).ac, .int .i64 (A).st, .int .i64 (A).pp, .int .i64 (A).pi, .int .i64 (A).fee, .int .i64 (A).pen, .int .i64 (A).chg, .int .i64 (A).prov, .int .i64 (A).loss, .int .i64 (A).rcv, .int .i64 ((A).tm).me, .int .i64 ((A).tm).pr, .int .i64 ((A).tm).ppm, .int .i64 ((A).tm).stt, .int .i64 ((A).tm).ev, .int .i64 ((A).tm).ct, .int .i64 ((A).tm).ba, .int .i64 ((A).tm).mo, .int .i64 ((A).tm).pen, .int .i64 ((A).tm).fe, .string ((A).tm).cal, .string ((A).tm).cur, .slice da2 (A).ds.length dk2, .slice none (A).cs.length 0]) w4.heap.size #[.int .i64 (A).id, .int .i64 (A).ac, .int .i64 (A).st, .int .i64 (A).pp, .int .i64 (A).pi, .int .i64 (A).fee, .int .i64 (A).pen, .int .i64 (A).chg, .int .i64 (A).prov, .int .i64 (A).loss, .int .i64 (A).rcv, .int .i64 ((A).tm).me, .int .i64 ((A).tm).pr, .int .i64 ((A).tm).ppm, .int .i64 ((A).tm).stt, .int .i64 ((A).tm).ev, .int .i64 ((A).tm).ct, .int .i64 ((A).tm).ba, .int .i64 ((A).tm).mo, .int .i64 ((A).tm).pen, .int .i64 ((A).tm).fe, .string ((A).tm).cal, .string ((A).tm).cur, .slice da2 (A).ds.length dk2, .slice none (A).cs.length 0] 31 := Blk_setRow_same Bk.Blk.nw10
            replace kt := kt.later hbs
            replace kc := kc.later hbs
            replace ki := ki.later hbs
            replace hi := hi.later hbs
            replace hS := hS.of hbs
            replace hd1 := hd1.later hbs
            replace k1 := k1.later hbs
            replace hd2 := hd2.later hbs
            have cw5 := bl2 hbs cw4
            clear cw4 hbs
            generalize ((w4.alloc (.cells #[.int .i64 0, .int .i64 0, .int .i64 0, .int .i64 0, .int .i64 0, .int .i64 0, .int .i64 0, .int .i64 0, .int .i64 0, .int .i64 0, .int .i64 0, .int .i64 0, .int .i64 0, .int .i64 0, .int .i64 0, .int .i64 0, .int .i64 0, .int .i64 0, .int .i64 0, .int .i64 0, .int .i64 0, .string { data := #[] }, .string { data := #[] }, .slice none 0 0, .slice none 0 0] 31)).setRow w4.heap.size #[.int .i64 (A).id, .int .i64 (A).ac, .int .i64 (A).st, .int .i64 (A).pp, .int .i64 (A).pi, .int .i64 (A).fee, .int .i64 (A).pen, .int .i64 (A).chg, .int .i64 (A).prov, .int .i64 (A).loss, .int .i64 (A).rcv, .int .i64 ((A).tm).me, .int .i64 ((A).tm).pr, .int .i64 ((A).tm).ppm, .int .i64 ((A).tm).stt, .int .i64 ((A).tm).ev, .int .i64 ((A).tm).ct, .int .i64 ((A).tm).ba, .int .i64 ((A).tm).mo, .int .i64 ((A).tm).pen, .int .i64 ((A).tm).fe, .string ((A).tm).cal, .string ((A).tm).cur, .slice da2 (A).ds.length dk2, .slice none (A).cs.length 0]) = w5 at *
            generalize w4.heap.size = g2 at *
            have gE : (E == E) = true := beq_self_eq_true E
            go_wp2_with (first | (refine load_guarded 31 _ rfl rfl _ rfl _ _ _ _ (k1) Tryz.underlying31 rfl (by kernel_rfl) ?_) | (refine load_guarded 31 _ rfl rfl _ rfl _ _ _ _ (k2) Tryz.underlying31 rfl (by kernel_rfl) ?_))
            refine (same_any A da1 none da2 none dk1 0 dk2 0 _ hd1.row hd2.row (fun h => absurd h (by rw [HL.out.2]; simp)) (fun h => absurd h (by rw [HL.out.2]; simp)) HL.out.1 (by rw [HL.out.2]; simp)).mono ?_
            rintro e w6 ⟨rfl, hb⟩
            replace kt := kt.later hb
            replace kc := kc.later hb
            replace ki := ki.later hb
            replace hi := hi.later hb
            replace hS := hS.of hb
            replace hd1 := hd1.later hb
            replace k1 := k1.later hb
            replace hd2 := hd2.later hb
            replace k2 := k2.later hb
            have cw6 := bl2 hb cw5
            clear hb cw5
            by_cases he : E = 0
            · have g1 : (E != 0) = false := by rw [he]; rfl
              have HC0 := Lib.hid (HC.out he)
              clear he
              go_wp2_with (refine load_guarded 31 _ rfl rfl _ rfl _ _ _ _ (k1) Tryz.underlying31 rfl (by kernel_rfl) ?_)
              refine (check_any A da1 none dk1 0 _ hd1).mono ?_
              rintro e w7 ⟨rfl, hb⟩
              replace k1 := k1.later hb
              replace hd1 := hd1.later hb
              have cw7 := bl2 hb cw6
              clear hb cw6
              rw [HC0.out]
              go_wp2_with fail
              refine (live_any _).mono ?_
              rintro e w8 ⟨rfl, hb⟩
              have cw8 := bl2 hb cw7
              clear hb cw7
              go_wp2_with fail
              go_ret
              exact ⟨rfl, cw8⟩
            · have g1 : (E != 0) = true := by simpa using he
              clear he
              go_wp2_with fail
              refine (live_any _).mono ?_
              rintro e w8 ⟨rfl, hb⟩
              have cw8 := bl2 hb cw6
              clear hb cw6
              go_wp2_with fail
              go_ret
              exact ⟨rfl, cw8⟩
          · go_wp2_with fail
            go_ret
            exact ⟨rfl, cw1⟩
        · go_wp2_with fail
          go_ret
          exact ⟨rfl, cw1⟩
      · go_wp2_with fail
        go_ret
        exact ⟨rfl, cw1⟩
    · go_wp2_with fail
      go_ret
      exact ⟨rfl, cw1⟩
  · go_wp2_with fail
    go_ret
    exact ⟨rfl, cw1⟩
end Go.Proofs.YtfiplppdmedhkaaGreatDoor.Ln
