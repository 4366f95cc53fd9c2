/-
  Parts of the proof: Ld1.
-/
import Derived.Test.YtlolflephnbbcaaGreatDoorQ31
import Derived.Test.YtlolflephnbbcaaGreatDoorQ42
import Derived.Test.YtlolflephnbbcaaGreatDoorQ46
namespace Go.Proofs.YtlolflephnbbcaaGreatDoor.Ln
open Go Go.RowKit
open Go.Proofs.YtlolflephnbbcaaGreatDoor
open Go.Proofs.YtlolflephnbbcaaGreatDoor.Kl (Cl CalIn blE blV bl_facts bl_len BlOut)
set_option linter.unusedSimpArgs false
set_option linter.unusedVariables false
set_option maxRecDepth 100000

def DisOut (id ac : Int) (t : Tm) (c : Cl) (w : World) (e : Ending) (w' : World) : Prop := ∃ da dk, e = .returned (.tuple #[(.agg #[.int .i64 ((disL id ac t c)).id, .int .i64 ((disL id ac t c)).ac, .int .i64 ((disL id ac t c)).st, .int .i64 ((disL id ac t c)).pp, .int .i64 ((disL id ac t c)).pi, .int .i64 ((disL id ac t c)).fee, .int .i64 ((disL id ac t c)).pen, .int .i64 ((disL id ac t c)).chg, .int .i64 ((disL id ac t c)).prov, .int .i64 ((disL id ac t c)).loss, .int .i64 ((disL id ac t c)).rcv, .int .i64 (((disL id ac t c)).tm).me, .int .i64 (((disL id ac t c)).tm).pr, .int .i64 (((disL id ac t c)).tm).ppm, .int .i64 (((disL id ac t c)).tm).stt, .int .i64 (((disL id ac t c)).tm).ev, .int .i64 (((disL id ac t c)).tm).ct, .int .i64 (((disL id ac t c)).tm).ba, .int .i64 (((disL id ac t c)).tm).mo, .int .i64 (((disL id ac t c)).tm).pen, .int .i64 (((disL id ac t c)).tm).fe, .string (((disL id ac t c)).tm).cal, .string (((disL id ac t c)).tm).cur, .slice da ((disL id ac t c)).ds.length dk, .slice none ((disL id ac t c)).cs.length 0]), .int .i64 (disE id ac t c)]) ∧ DuesIn w' da (disL id ac t c).ds ∧ Below w.heap.size w w'
theorem disOut_no {id ac : Int} {t : Tm} {c : Cl} {w w' : World} {E : Int} (h : disE id ac t c = E) (h0 : E ≠ 0) (hb : Below w.heap.size w w') : DisOut id ac t c w (.returned (.tuple #[.agg #[.int .i64 0, .int .i64 0, .int .i64 0, .int .i64 0, .int .i64 0, .int .i64 0, .int .i64 0, .int .i64 0, .int .i64 0, .int .i64 0, .int .i64 0, .int .i64 0, .int .i64 0, .int .i64 0, .int .i64 0, .int .i64 0, .int .i64 0, .int .i64 0, .int .i64 0, .int .i64 0, .int .i64 0, .string { data := #[] }, .string { data := #[] }, .slice none 0 0, .slice none 0 0], .int .i64 E])) w' := by
 have hl : disL id ac t c = zLo := if_neg (by rw [h]; exact h0)
 refine ⟨none, 0, ?_, ?_, hb⟩
 ·rw [hl, h]; rfl
 ·rw [hl]; exact ⟨by decide, fun h => by simp [zLo] at h⟩
theorem disOut_ok {id ac : Int} {t : Tm} {c : Cl} {w w' : World} {da : Option Addr} {dk : Nat} (h : disE id ac t c = 0) (hd : DuesIn w' da (blV t c)) (hb : Below w.heap.size w w') : DisOut id ac t c w (.returned (.tuple #[(.agg #[.int .i64 ((disO id ac t c)).id, .int .i64 ((disO id ac t c)).ac, .int .i64 ((disO id ac t c)).st, .int .i64 ((disO id ac t c)).pp, .int .i64 ((disO id ac t c)).pi, .int .i64 ((disO id ac t c)).fee, .int .i64 ((disO id ac t c)).pen, .int .i64 ((disO id ac t c)).chg, .int .i64 ((disO id ac t c)).prov, .int .i64 ((disO id ac t c)).loss, .int .i64 ((disO id ac t c)).rcv, .int .i64 (((disO id ac t c)).tm).me, .int .i64 (((disO id ac t c)).tm).pr, .int .i64 (((disO id ac t c)).tm).ppm, .int .i64 (((disO id ac t c)).tm).stt, .int .i64 (((disO id ac t c)).tm).ev, .int .i64 (((disO id ac t c)).tm).ct, .int .i64 (((disO id ac t c)).tm).ba, .int .i64 (((disO id ac t c)).tm).mo, .int .i64 (((disO id ac t c)).tm).pen, .int .i64 (((disO id ac t c)).tm).fe, .string (((disO id ac t c)).tm).cal, .string (((disO id ac t c)).tm).cur, .slice da ((disO id ac t c)).ds.length dk, .slice none ((disO id ac t c)).cs.length 0]), .int .i64 0])) w' := by
 have hl : disL id ac t c = disO id ac t c := if_pos h
 refine ⟨da, dk, ?_, ?_, hb⟩
 ·rw [hl, h]
 ·rw [hl]; exact hd
theorem disE_1 {id ac : Int} {t : Tm} {c : Cl} (h : id < 1 ∨ ac < 1000) : disE id ac t c = 1 := if_pos h
theorem disE_b {id ac : Int} {t : Tm} {c : Cl} (h : ¬ (id < 1 ∨ ac < 1000)) : disE id ac t c = blE t c := if_neg h
set_option maxHeartbeats 16000000 in
theorem dis_any (id ac : Int) (t : Tm) (c : Cl) (wa ha : Option Addr) (wc hc : Nat) (w : World) (h : CalIn w c wa ha) (hcu : t.cur.size ≤ maxLen) (hs : Rd.Stp w) : Calls Tryz.prog 6 #[.int .i64 id, .int .i64 ac, (.agg #[.int .i64 (t).me, .int .i64 (t).pr, .int .i64 (t).ppm, .int .i64 (t).stt, .int .i64 (t).ev, .int .i64 (t).ct, .int .i64 (t).ba, .int .i64 (t).mo, .int .i64 (t).pen, .int .i64 (t).fe, .string (t).cal, .string (t).cur]), (.agg #[.string (c).nm, .slice wa (c).wk.length wc, .slice ha (c).hol.length hc])] w (DisOut id ac t c w) := by
 have cw : Below w.heap.size w (((w.alloc (.cells #[.int .i64 (t).me, .int .i64 (t).pr, .int .i64 (t).ppm, .int .i64 (t).stt, .int .i64 (t).ev, .int .i64 (t).ct, .int .i64 (t).ba, .int .i64 (t).mo, .int .i64 (t).pen, .int .i64 (t).fe, .string (t).cal, .string (t).cur] 23)).alloc (.cells #[.string c.nm, .slice wa c.wk.length wc, .slice ha c.hol.length hc] 26)).alloc (.cells #[.int .i64 0, .int .i64 0, .int .i64 0, .int .i64 0, .int .i64 0, .int .i64 0, .int .i64 0, .int .i64 0, .int .i64 0, .int .i64 0, .int .i64 0, .int .i64 0, .int .i64 0, .int .i64 0, .int .i64 0, .int .i64 0, .int .i64 0, .int .i64 0, .int .i64 0, .int .i64 0, .int .i64 0, .string { data := #[] }, .string { data := #[] }, .slice none 0 0, .slice none 0 0] 32)) := (((Below.refl _ _).alloc (Nat.le_refl _) _).alloc (by simp) _).alloc (by simp; omega) _
 have kt : Bk.Blk (((w.alloc (.cells #[.int .i64 (t).me, .int .i64 (t).pr, .int .i64 (t).ppm, .int .i64 (t).stt, .int .i64 (t).ev, .int .i64 (t).ct, .int .i64 (t).ba, .int .i64 (t).mo, .int .i64 (t).pen, .int .i64 (t).fe, .string (t).cal, .string (t).cur] 23)).alloc (.cells #[.string c.nm, .slice wa c.wk.length wc, .slice ha c.hol.length hc] 26)).alloc (.cells #[.int .i64 0, .int .i64 0, .int .i64 0, .int .i64 0, .int .i64 0, .int .i64 0, .int .i64 0, .int .i64 0, .int .i64 0, .int .i64 0, .int .i64 0, .int .i64 0, .int .i64 0, .int .i64 0, .int .i64 0, .int .i64 0, .int .i64 0, .int .i64 0, .int .i64 0, .int .i64 0, .int .i64 0, .string { data := #[] }, .string { data := #[] }, .slice none 0 0, .slice none 0 0] 32)) w.heap.size _ 23 := Bk.Blk.nw30
 have kc : Bk.Blk (((w.alloc (.cells #[.int .i64 (t).me, .int .i64 (t).pr, .int .i64 (t).ppm, .int .i64 (t).stt, .int .i64 (t).ev, .int .i64 (t).ct, .int .i64 (t).ba, .int .i64 (t).mo, .int .i64 (t).pen, .int .i64 (t).fe, .string (t).cal, .string (t).cur] 23)).alloc (.cells #[.string c.nm, .slice wa c.wk.length wc, .slice ha c.hol.length hc] 26)).alloc (.cells #[.int .i64 0, .int .i64 0, .int .i64 0, .int .i64 0, .int .i64 0, .int .i64 0, .int .i64 0, .int .i64 0, .int .i64 0, .int .i64 0, .int .i64 0, .int .i64 0, .int .i64 0, .int .i64 0, .int .i64 0, .int .i64 0, .int .i64 0, .int .i64 0, .int .i64 0, .int .i64 0, .int .i64 0, .string { data := #[] }, .string { data := #[] }, .slice none 0 0, .slice none 0 0] 32)) (w.heap.size + 1) _ 26 := Bk.Blk.nw31
 have kz : Bk.Blk (((w.alloc (.cells #[.int .i64 (t).me, .int .i64 (t).pr, .int .i64 (t).ppm, .int .i64 (t).stt, .int .i64 (t).ev, .int .i64 (t).ct, .int .i64 (t).ba, .int .i64 (t).mo, .int .i64 (t).pen, .int .i64 (t).fe, .string (t).cal, .string (t).cur] 23)).alloc (.cells #[.string c.nm, .slice wa c.wk.length wc, .slice ha c.hol.length hc] 26)).alloc (.cells #[.int .i64 0, .int .i64 0, .int .i64 0, .int .i64 0, .int .i64 0, .int .i64 0, .int .i64 0, .int .i64 0, .int .i64 0, .int .i64 0, .int .i64 0, .int .i64 0, .int .i64 0, .int .i64 0, .int .i64 0, .int .i64 0, .int .i64 0, .int .i64 0, .int .i64 0, .int .i64 0, .int .i64 0, .string { data := #[] }, .string { data := #[] }, .slice none 0 0, .slice none 0 0] 32)) (w.heap.size + 2) _ 32 := Bk.Blk.nw32
 have cw1s : w.heap.size + 3 ≤ (((w.alloc (.cells #[.int .i64 (t).me, .int .i64 (t).pr, .int .i64 (t).ppm, .int .i64 (t).stt, .int .i64 (t).ev, .int .i64 (t).ct, .int .i64 (t).ba, .int .i64 (t).mo, .int .i64 (t).pen, .int .i64 (t).fe, .string (t).cal, .string (t).cur] 23)).alloc (.cells #[.string c.nm, .slice wa c.wk.length wc, .slice ha c.hol.length hc] 26)).alloc (.cells #[.int .i64 0, .int .i64 0, .int .i64 0, .int .i64 0, .int .i64 0, .int .i64 0, .int .i64 0, .int .i64 0, .int .i64 0, .int .i64 0, .int .i64 0, .int .i64 0, .int .i64 0, .int .i64 0, .int .i64 0, .int .i64 0, .int .i64 0, .int .i64 0, .int .i64 0, .int .i64 0, .int .i64 0, .string { data := #[] }, .string { data := #[] }, .slice none 0 0, .slice none 0 0] 32)).heap.size := by simp
 have hi := h.later cw
 have hS := hs.of cw
 clear h hs
 go_enter Tryz.func6, Tryz.ntmps6
 go_upto_region 1 with fail
 generalize (((w.alloc (.cells _ 23)).alloc (.cells _ 26)).alloc (.cells _ 32)) = w1 at *
 have cw1 := cw
 clear cw
 by_cases i1 : id < 1
 ·have HF := Lib.hid (disE_1 (id := id) (ac := ac) (t := t) (c := c) (.inl i1))
  go_wp2_with (refine wpList_store_row rfl 32 _ _ rfl _ _ rfl rfl _ _ kz (by kernel_rfl) rfl (by simp [Value.oneCell']) ?_)
  (try simp only [Exit.inBlock, Exit.then])
  refine bodyPost_ret (results2_cell Tryz.results6 _ _ _ _ _ _ _ rfl (Blk_setRow_same kz) Tryz.underlying32 rfl (by kernel_rfl)) rfl ?_
  exact disOut_no HF.out (by decide) (Below_setRow cw1 (by omega) _)
 ·by_cases i2 : ac < 1000
  ·have HF := Lib.hid (disE_1 (id := id) (ac := ac) (t := t) (c := c) (.inr i2))
   go_wp2_with (refine wpList_store_row rfl 32 _ _ rfl _ _ rfl rfl _ _ kz (by kernel_rfl) rfl (by simp [Value.oneCell']) ?_)
   (try simp only [Exit.inBlock, Exit.then])
   refine bodyPost_ret (results2_cell Tryz.results6 _ _ _ _ _ _ _ rfl (Blk_setRow_same kz) Tryz.underlying32 rfl (by kernel_rfl)) rfl ?_
   exact disOut_no HF.out (by decide) (Below_setRow cw1 (by omega) _)
  ·have hb : ¬ (id < 1 ∨ ac < 1000) := by omega
   have HF := Lib.hid (disE_b (t := t) (c := c) hb)
   have l0 := kt.c0
   have l1 := kt.c1
   have l2 := kt.c2
   have l3 := kt.c3
   have l4 := kt.c4
   have l5 := kt.c5
   have l6 := kt.c6
   have l7 := kt.c7
   have l8 := kt.c8
   have l9 := kt.c9
   have l10 := kt.c10
   have l11 := kt.c11
   have m0 := kc.c0
   have m1 := kc.c1
   have m2 := kc.c2
   go_wp2_with fail
   clear l0 l1 l2 l3 l4 l5 l6 l7 l8 l9 l10 l11 m0 m1 m2
   refine (Kl.build_any t c wa ha wc hc _ hi hcu hS).mono ?_
   rintro e w2 ⟨da, dk, rfl, hd, hf, hb'⟩
   replace kt := kt.later hb'
   replace kc := kc.later hb'
   replace kz := kz.later hb'
   replace hi := hi.later hb'
   replace hS := hS.of hb'
   have cw2 := bl2 hb' cw1
   clear hb' cw1
   by_cases he : blE t c ≠ 0
   ·have HF2 := Lib.hid HF.out
    have HN := Lib.hid he
    have g1 : (blE t c != 0) = true := by simpa using he
    clear he hd hf
    generalize blE t c = E at HF2 HN g1 ⊢
    go_wp2_with (refine wpList_store_row rfl 32 _ _ rfl _ _ rfl rfl _ _ kz (by kernel_rfl) rfl (by simp [Value.oneCell']) ?_)
    (try simp only [Exit.inBlock, Exit.then])
    refine bodyPost_ret (results2_cell Tryz.results6 _ _ _ _ _ _ _ rfl (Blk_setRow_same kz) Tryz.underlying32 rfl (by kernel_rfl)) rfl ?_
    exact disOut_no HF2.out HN.out (Below_setRow cw2 (by omega) _)
   ·have he0 : blE t c = 0 := Classical.byContradiction he
    have HF2 := Lib.hid (HF.out.trans he0)
    have g1 : (blE t c != 0) = false := by rw [he0]; rfl
    clear he he0
    generalize blE t c = E at g1 ⊢
    obtain ⟨ls, hls⟩ : ∃ ls, ls = blV t c := ⟨_, rfl⟩
    rw [← hls]
    have HLS := Lib.hid hls
    clear hls
    have l0 := kt.c0
    have l1 := kt.c1
    have l2 := kt.c2
    have l3 := kt.c3
    have l4 := kt.c4
    have l5 := kt.c5
    have l6 := kt.c6
    have l7 := kt.c7
    have l8 := kt.c8
    have l9 := kt.c9
    have l10 := kt.c10
    have l11 := kt.c11
    have m0 := kc.c0
    have m1 := kc.c1
    have m2 := kc.c2
    go_wp2_with (refine wpList_store_row rfl 32 _ _ rfl _ _ rfl rfl _ _ kz (by kernel_rfl) rfl (by simp [Value.oneCell']) ?_)
    (try simp only [Exit.inBlock, Exit.then])
    refine bodyPost_ret (results2_cell Tryz.results6 _ _ _ _ _ _ _ rfl (Blk_setRow_same kz) Tryz.underlying32 rfl (by kernel_rfl)) rfl ?_
    rw [HLS.out]
    exact disOut_ok HF2.out (dues_setRow hd (fun ad had => by have := hf ad had; have := cw1s; omega)) (Below_setRow cw2 (by omega) _)
theorem dis_len (id ac : Int) (t : Tm) (c : Cl) : (disL id ac t c).ds.length ≤ 100000 ∧ (disL id ac t c).cs = [] := by
 unfold disL
 split
 ·rename_i h
  obtain ⟨_, _, hb⟩ := dis_parts h
  obtain ⟨_, ht, _, _, _⟩ := bl_facts hb
  have hl := bl_len hb
  have hct := ht.ct
  refine ⟨?_, rfl⟩
  show (blV t c).length ≤ 100000
  omega
 ·exact ⟨by decide, rfl⟩
end Go.Proofs.YtlolflephnbbcaaGreatDoor.Ln
