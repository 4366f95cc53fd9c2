/-
  Change: the reference's.
-/
import Derived.Test.YtfiplppdmedhkaaGreatDoorRs5
import Derived.Deep.Upon
namespace Go.Proofs.YtfiplppdmedhkaaGreatDoor.Ln
open Go Go.RowKit
open Go.Proofs.YtfiplppdmedhkaaGreatDoor
open Go.Proofs.YtfiplppdmedhkaaGreatDoor.Kl (Cl CalIn skE rskchk_any sk_ok blE blV bl_facts bl_len BlOut ls_inj)
set_option linter.unusedSimpArgs false
set_option linter.unusedVariables false
set_option maxRecDepth 100000

theorem wpList_append_0 {P : Program} {w : World} {ops : Array Oper} {rest : List Oper} {o : Oper} {a : Act} {Q : Exit → Act → World → Prop} (hgd : o.guard = none) (s x : Operand) (t : TypeId)
    (ho : o.op = .call { callee := .builtin .append, args := #[s, x], argTypes := #[t, t] })
    (e : TypeId) (i : TypeInfo) (ht : P.underlying t = some (.slice e)) (hi : P.info? e = some i)
    (g n c : Nat) (hle : n ≤ c) (ca : Option Addr) (ck : Nat) (hs : a.eval s = .slice (some ⟨g, 0, none⟩) n c) (hx : a.eval x = .slice ca 0 ck)
    (h : wpList P ops Q rest (a.put o.dst (.slice (some ⟨g, 0, none⟩) n c)) w) : wpList P ops Q (o :: rest) a w := by
  refine wpList_plain hgd fun K hK => ?_
  have hrun : (Builtin.append_ #[t, t] o.type #[.slice (some ⟨g, 0, none⟩) n c, .slice ca 0 ck]).run P w = .ok (.slice (some ⟨g, 0, none⟩) n c) w := by
    cases ca <;> simp [Builtin.append_, run_underlying ht, Go.sizeOf, typeInfo, hi, hle, storeCells, loadCells, Builtin.lenOf, Builtin.firstCells, loadCellsFrom]
  unfold Oper.wp
  simp [execOp, ho, resolve, invoke, builtin, hs, hx, hrun, Result.andThen]
  exact hK _ _ h
set_option maxHeartbeats 32000000 in
theorem rchange_any (l : Lo) (da ca : Option Addr) (dk ck : Nat) (t : Tm) (day : Int) (c : Cl) (wa ha : Option Addr) (wc hc : Nat) (w : World) (h : DuesIn w da l.ds) (h' : RowIn cenc w ca l.cs) (hk : Dok l.ds) (hn : l.ds.length ≤ 100000) (hm : l.cs.length ≤ 100000) (hcal : CalIn w c wa ha) (hcu : t.cur.size ≤ maxLen) (hs : Rd.Stp w) :
    Calls Tryz.prog 52 #[(.agg #[.int .i64 (l).id, .int .i64 (l).ac, .int .i64 (l).st, .int .i64 (l).pp, .int .i64 (l).pi, .int .i64 (l).fee, .int .i64 (l).pen, .int .i64 (l).chg, .int .i64 (l).prov, .int .i64 (l).loss, .int .i64 (l).rcv, .int .i64 ((l).tm).me, .int .i64 ((l).tm).pr, .int .i64 ((l).tm).ppm, .int .i64 ((l).tm).stt, .int .i64 ((l).tm).ev, .int .i64 ((l).tm).ct, .int .i64 ((l).tm).ba, .int .i64 ((l).tm).mo, .int .i64 ((l).tm).pen, .int .i64 ((l).tm).fe, .string ((l).tm).cal, .string ((l).tm).cur, .slice da (l).ds.length dk, .slice ca (l).cs.length ck]), (.agg #[.int .i64 (t).me, .int .i64 (t).pr, .int .i64 (t).ppm, .int .i64 (t).stt, .int .i64 (t).ev, .int .i64 (t).ct, .int .i64 (t).ba, .int .i64 (t).mo, .int .i64 (t).pen, .int .i64 (t).fe, .string (t).cal, .string (t).cur]), .int .i64 day, (.agg #[.string (c).nm, .slice wa (c).wk.length wc, .slice ha (c).hol.length hc])] w (ChOut l t day c w) := by
  have cw : Below w.heap.size w ((((w.alloc (.cells #[.int .i64 (l).id, .int .i64 (l).ac, .int .i64 (l).st, .int .i64 (l).pp, .int .i64 (l).pi, .int .i64 (l).fee, .int .i64 (l).pen, .int .i64 (l).chg, .int .i64 (l).prov, .int .i64 (l).loss, .int .i64 (l).rcv, .int .i64 ((l).tm).me, .int .i64 ((l).tm).pr, .int .i64 ((l).tm).ppm, .int .i64 ((l).tm).stt, .int .i64 ((l).tm).ev, .int .i64 ((l).tm).ct, .int .i64 ((l).tm).ba, .int .i64 ((l).tm).mo, .int .i64 ((l).tm).pen, .int .i64 ((l).tm).fe, .string ((l).tm).cal, .string ((l).tm).cur, .slice da (l).ds.length dk, .slice ca (l).cs.length ck] 31)).alloc (.cells #[.int .i64 (t).me, .int .i64 (t).pr, .int .i64 (t).ppm, .int .i64 (t).stt, .int .i64 (t).ev, .int .i64 (t).ct, .int .i64 (t).ba, .int .i64 (t).mo, .int .i64 (t).pen, .int .i64 (t).fe, .string (t).cal, .string (t).cur] 23)).alloc (.cells #[.string c.nm, .slice wa c.wk.length wc, .slice ha c.hol.length hc] 26)).alloc (.cells #[.int .i64 0, .int .i64 0, .int .i64 0, .int .i64 0, .int .i64 0, .int .i64 0, .int .i64 0, .int .i64 0, .int .i64 0, .int .i64 0, .int .i64 0, .int .i64 0, .int .i64 0, .int .i64 0, .int .i64 0, .int .i64 0, .int .i64 0, .int .i64 0, .int .i64 0, .int .i64 0, .int .i64 0, .string { data := #[] }, .string { data := #[] }, .slice none 0 0, .slice none 0 0] 31)) := ((((Below.refl _ _).alloc (Nat.le_refl _) _).alloc (by simp) _).alloc (by simp; omega) _).alloc (by simp; omega) _
  have k0 : Bk.Blk ((((w.alloc (.cells #[.int .i64 (l).id, .int .i64 (l).ac, .int .i64 (l).st, .int .i64 (l).pp, .int .i64 (l).pi, .int .i64 (l).fee, .int .i64 (l).pen, .int .i64 (l).chg, .int .i64 (l).prov, .int .i64 (l).loss, .int .i64 (l).rcv, .int .i64 ((l).tm).me, .int .i64 ((l).tm).pr, .int .i64 ((l).tm).ppm, .int .i64 ((l).tm).stt, .int .i64 ((l).tm).ev, .int .i64 ((l).tm).ct, .int .i64 ((l).tm).ba, .int .i64 ((l).tm).mo, .int .i64 ((l).tm).pen, .int .i64 ((l).tm).fe, .string ((l).tm).cal, .string ((l).tm).cur, .slice da (l).ds.length dk, .slice ca (l).cs.length ck] 31)).alloc (.cells #[.int .i64 (t).me, .int .i64 (t).pr, .int .i64 (t).ppm, .int .i64 (t).stt, .int .i64 (t).ev, .int .i64 (t).ct, .int .i64 (t).ba, .int .i64 (t).mo, .int .i64 (t).pen, .int .i64 (t).fe, .string (t).cal, .string (t).cur] 23)).alloc (.cells #[.string c.nm, .slice wa c.wk.length wc, .slice ha c.hol.length hc] 26)).alloc (.cells #[.int .i64 0, .int .i64 0, .int .i64 0, .int .i64 0, .int .i64 0, .int .i64 0, .int .i64 0, .int .i64 0, .int .i64 0, .int .i64 0, .int .i64 0, .int .i64 0, .int .i64 0, .int .i64 0, .int .i64 0, .int .i64 0, .int .i64 0, .int .i64 0, .int .i64 0, .int .i64 0, .int .i64 0, .string { data := #[] }, .string { data := #[] }, .slice none 0 0, .slice none 0 0] 31)) w.heap.size #[.int .i64 (l).id, .int .i64 (l).ac, .int .i64 (l).st, .int .i64 (l).pp, .int .i64 (l).pi, .int .i64 (l).fee, .int .i64 (l).pen, .int .i64 (l).chg, .int .i64 (l).prov, .int .i64 (l).loss, .int .i64 (l).rcv, .int .i64 ((l).tm).me, .int .i64 ((l).tm).pr, .int .i64 ((l).tm).ppm, .int .i64 ((l).tm).stt, .int .i64 ((l).tm).ev, .int .i64 ((l).tm).ct, .int .i64 ((l).tm).ba, .int .i64 ((l).tm).mo, .int .i64 ((l).tm).pen, .int .i64 ((l).tm).fe, .string ((l).tm).cal, .string ((l).tm).cur, .slice da (l).ds.length dk, .slice ca (l).cs.length ck] 31 := Bk.Blk.nw40
  have kt : Bk.Blk ((((w.alloc (.cells #[.int .i64 (l).id, .int .i64 (l).ac, .int .i64 (l).st, .int .i64 (l).pp, .int .i64 (l).pi, .int .i64 (l).fee, .int .i64 (l).pen, .int .i64 (l).chg, .int .i64 (l).prov, .int .i64 (l).loss, .int .i64 (l).rcv, .int .i64 ((l).tm).me, .int .i64 ((l).tm).pr, .int .i64 ((l).tm).ppm, .int .i64 ((l).tm).stt, .int .i64 ((l).tm).ev, .int .i64 ((l).tm).ct, .int .i64 ((l).tm).ba, .int .i64 ((l).tm).mo, .int .i64 ((l).tm).pen, .int .i64 ((l).tm).fe, .string ((l).tm).cal, .string ((l).tm).cur, .slice da (l).ds.length dk, .slice ca (l).cs.length ck] 31)).alloc (.cells #[.int .i64 (t).me, .int .i64 (t).pr, .int .i64 (t).ppm, .int .i64 (t).stt, .int .i64 (t).ev, .int .i64 (t).ct, .int .i64 (t).ba, .int .i64 (t).mo, .int .i64 (t).pen, .int .i64 (t).fe, .string (t).cal, .string (t).cur] 23)).alloc (.cells #[.string c.nm, .slice wa c.wk.length wc, .slice ha c.hol.length hc] 26)).alloc (.cells #[.int .i64 0, .int .i64 0, .int .i64 0, .int .i64 0, .int .i64 0, .int .i64 0, .int .i64 0, .int .i64 0, .int .i64 0, .int .i64 0, .int .i64 0, .int .i64 0, .int .i64 0, .int .i64 0, .int .i64 0, .int .i64 0, .int .i64 0, .int .i64 0, .int .i64 0, .int .i64 0, .int .i64 0, .string { data := #[] }, .string { data := #[] }, .slice none 0 0, .slice none 0 0] 31)) (w.heap.size + 1) #[.int .i64 (t).me, .int .i64 (t).pr, .int .i64 (t).ppm, .int .i64 (t).stt, .int .i64 (t).ev, .int .i64 (t).ct, .int .i64 (t).ba, .int .i64 (t).mo, .int .i64 (t).pen, .int .i64 (t).fe, .string (t).cal, .string (t).cur] 23 := Bk.Blk.nw41
  have kc : Bk.Blk ((((w.alloc (.cells #[.int .i64 (l).id, .int .i64 (l).ac, .int .i64 (l).st, .int .i64 (l).pp, .int .i64 (l).pi, .int .i64 (l).fee, .int .i64 (l).pen, .int .i64 (l).chg, .int .i64 (l).prov, .int .i64 (l).loss, .int .i64 (l).rcv, .int .i64 ((l).tm).me, .int .i64 ((l).tm).pr, .int .i64 ((l).tm).ppm, .int .i64 ((l).tm).stt, .int .i64 ((l).tm).ev, .int .i64 ((l).tm).ct, .int .i64 ((l).tm).ba, .int .i64 ((l).tm).mo, .int .i64 ((l).tm).pen, .int .i64 ((l).tm).fe, .string ((l).tm).cal, .string ((l).tm).cur, .slice da (l).ds.length dk, .slice ca (l).cs.length ck] 31)).alloc (.cells #[.int .i64 (t).me, .int .i64 (t).pr, .int .i64 (t).ppm, .int .i64 (t).stt, .int .i64 (t).ev, .int .i64 (t).ct, .int .i64 (t).ba, .int .i64 (t).mo, .int .i64 (t).pen, .int .i64 (t).fe, .string (t).cal, .string (t).cur] 23)).alloc (.cells #[.string c.nm, .slice wa c.wk.length wc, .slice ha c.hol.length hc] 26)).alloc (.cells #[.int .i64 0, .int .i64 0, .int .i64 0, .int .i64 0, .int .i64 0, .int .i64 0, .int .i64 0, .int .i64 0, .int .i64 0, .int .i64 0, .int .i64 0, .int .i64 0, .int .i64 0, .int .i64 0, .int .i64 0, .int .i64 0, .int .i64 0, .int .i64 0, .int .i64 0, .int .i64 0, .int .i64 0, .string { data := #[] }, .string { data := #[] }, .slice none 0 0, .slice none 0 0] 31)) (w.heap.size + 2) #[.string c.nm, .slice wa c.wk.length wc, .slice ha c.hol.length hc] 26 := Bk.Blk.nw42
  have kz : Bk.Blk ((((w.alloc (.cells #[.int .i64 (l).id, .int .i64 (l).ac, .int .i64 (l).st, .int .i64 (l).pp, .int .i64 (l).pi, .int .i64 (l).fee, .int .i64 (l).pen, .int .i64 (l).chg, .int .i64 (l).prov, .int .i64 (l).loss, .int .i64 (l).rcv, .int .i64 ((l).tm).me, .int .i64 ((l).tm).pr, .int .i64 ((l).tm).ppm, .int .i64 ((l).tm).stt, .int .i64 ((l).tm).ev, .int .i64 ((l).tm).ct, .int .i64 ((l).tm).ba, .int .i64 ((l).tm).mo, .int .i64 ((l).tm).pen, .int .i64 ((l).tm).fe, .string ((l).tm).cal, .string ((l).tm).cur, .slice da (l).ds.length dk, .slice ca (l).cs.length ck] 31)).alloc (.cells #[.int .i64 (t).me, .int .i64 (t).pr, .int .i64 (t).ppm, .int .i64 (t).stt, .int .i64 (t).ev, .int .i64 (t).ct, .int .i64 (t).ba, .int .i64 (t).mo, .int .i64 (t).pen, .int .i64 (t).fe, .string (t).cal, .string (t).cur] 23)).alloc (.cells #[.string c.nm, .slice wa c.wk.length wc, .slice ha c.hol.length hc] 26)).alloc (.cells #[.int .i64 0, .int .i64 0, .int .i64 0, .int .i64 0, .int .i64 0, .int .i64 0, .int .i64 0, .int .i64 0, .int .i64 0, .int .i64 0, .int .i64 0, .int .i64 0, .int .i64 0, .int .i64 0, .int .i64 0, .int .i64 0, .int .i64 0, .int .i64 0, .int .i64 0, .int .i64 0, .int .i64 0, .string { data := #[] }, .string { data := #[] }, .slice none 0 0, .slice none 0 0] 31)) (w.heap.size + 3) #[.int .i64 0, .int .i64 0, .int .i64 0, .int .i64 0, .int .i64 0, .int .i64 0, .int .i64 0, .int .i64 0, .int .i64 0, .int .i64 0, .int .i64 0, .int .i64 0, .int .i64 0, .int .i64 0, .int .i64 0, .int .i64 0, .int .i64 0, .int .i64 0, .int .i64 0, .int .i64 0, .int .i64 0, .string { data := #[] }, .string { data := #[] }, .slice none 0 0, .slice none 0 0] 31 := Bk.Blk.nw43
  have hi := hcal.later cw
  have hS := hs.of cw
  have hd := h.later cw
  have hr := h'.later cw
  have hws : w.heap.size + 4 ≤ ((((w.alloc (.cells #[.int .i64 (l).id, .int .i64 (l).ac, .int .i64 (l).st, .int .i64 (l).pp, .int .i64 (l).pi, .int .i64 (l).fee, .int .i64 (l).pen, .int .i64 (l).chg, .int .i64 (l).prov, .int .i64 (l).loss, .int .i64 (l).rcv, .int .i64 ((l).tm).me, .int .i64 ((l).tm).pr, .int .i64 ((l).tm).ppm, .int .i64 ((l).tm).stt, .int .i64 ((l).tm).ev, .int .i64 ((l).tm).ct, .int .i64 ((l).tm).ba, .int .i64 ((l).tm).mo, .int .i64 ((l).tm).pen, .int .i64 ((l).tm).fe, .string ((l).tm).cal, .string ((l).tm).cur, .slice da (l).ds.length dk, .slice ca (l).cs.length ck] 31)).alloc (.cells #[.int .i64 (t).me, .int .i64 (t).pr, .int .i64 (t).ppm, .int .i64 (t).stt, .int .i64 (t).ev, .int .i64 (t).ct, .int .i64 (t).ba, .int .i64 (t).mo, .int .i64 (t).pen, .int .i64 (t).fe, .string (t).cal, .string (t).cur] 23)).alloc (.cells #[.string c.nm, .slice wa c.wk.length wc, .slice ha c.hol.length hc] 26)).alloc (.cells #[.int .i64 0, .int .i64 0, .int .i64 0, .int .i64 0, .int .i64 0, .int .i64 0, .int .i64 0, .int .i64 0, .int .i64 0, .int .i64 0, .int .i64 0, .int .i64 0, .int .i64 0, .int .i64 0, .int .i64 0, .int .i64 0, .int .i64 0, .int .i64 0, .int .i64 0, .int .i64 0, .int .i64 0, .string { data := #[] }, .string { data := #[] }, .slice none 0 0, .slice none 0 0] 31)).heap.size := by simp
  clear h h' hs hcal
  go_enter Tryz.func52, Tryz.ntmps52
  go_upto_region 1 with (refine wpList_load_row rfl 31 _ rfl _ rfl _ _ _ _ (Bk.Blk.nw10) Tryz.underlying31 rfl (by kernel_rfl) ?_)
  generalize ((((w.alloc (.cells #[.int .i64 (l).id, .int .i64 (l).ac, .int .i64 (l).st, .int .i64 (l).pp, .int .i64 (l).pi, .int .i64 (l).fee, .int .i64 (l).pen, .int .i64 (l).chg, .int .i64 (l).prov, .int .i64 (l).loss, .int .i64 (l).rcv, .int .i64 ((l).tm).me, .int .i64 ((l).tm).pr, .int .i64 ((l).tm).ppm, .int .i64 ((l).tm).stt, .int .i64 ((l).tm).ev, .int .i64 ((l).tm).ct, .int .i64 ((l).tm).ba, .int .i64 ((l).tm).mo, .int .i64 ((l).tm).pen, .int .i64 ((l).tm).fe, .string ((l).tm).cal, .string ((l).tm).cur, .slice da (l).ds.length dk, .slice ca (l).cs.length ck] 31)).alloc (.cells #[.int .i64 (t).me, .int .i64 (t).pr, .int .i64 (t).ppm, .int .i64 (t).stt, .int .i64 (t).ev, .int .i64 (t).ct, .int .i64 (t).ba, .int .i64 (t).mo, .int .i64 (t).pen, .int .i64 (t).fe, .string (t).cal, .string (t).cur] 23)).alloc (.cells #[.string c.nm, .slice wa c.wk.length wc, .slice ha c.hol.length hc] 26)).alloc (.cells #[.int .i64 0, .int .i64 0, .int .i64 0, .int .i64 0, .int .i64 0, .int .i64 0, .int .i64 0, .int .i64 0, .int .i64 0, .int .i64 0, .int .i64 0, .int .i64 0, .int .i64 0, .int .i64 0, .int .i64 0, .int .i64 0, .int .i64 0, .int .i64 0, .int .i64 0, .int .i64 0, .int .i64 0, .string { data := #[] }, .string { data := #[] }, .slice none 0 0, .slice none 0 0] 31)) = w1 at *
  have cw1 := cw
  clear cw
  have l0 := kt.c0
  have l1 := kt.c1
  have l2 := kt.c2
  have l3 := kt.c3
  have l4 := kt.c4
  have l5 := kt.c5
  have l6 := kt.c6
  have l7 := kt.c7
  have l8 := kt.c8
  have l9 := kt.c9
  have l10 := kt.c10
  have l11 := kt.c11
  have m0 := kc.c0
  have m1 := kc.c1
  have m2 := kc.c2
  go_wp2_with fail
  clear l0 l1 l2 l3 l4 l5 l6 l7 l8 l9 l10 l11 m0 m1 m2
  refine (rskchk_any t c wa ha wc hc _ hi hcu).mono ?_
  rintro e w2 ⟨rfl, hb⟩
  replace k0 := k0.later hb
  replace kt := kt.later hb
  replace kc := kc.later hb
  replace kz := kz.later hb
  replace hi := hi.later hb
  replace hS := hS.of hb
  replace hd := hd.later hb
  replace hr := hr.later hb
  have cw2 := bl2 hb cw1
  clear hb cw1
  by_cases he1 : skE t c ≠ 0
  · have HF := Lib.hid (chE_1 (l := l) (day := day) he1)
    have HN := Lib.hid he1
    have g1 : (skE t c != 0) = true := by simpa using he1
    clear he1
    generalize skE t c = E at HF HN g1 ⊢
    go_wp2_with (refine wpList_store_row rfl 31 _ _ rfl _ _ rfl rfl _ _ kz (by kernel_rfl) rfl (by simp [Value.oneCell']) ?_)
    (try simp only [Exit.inBlock, Exit.then])
    refine bodyPost_ret (results2_cell Tryz.results52 _ _ _ _ _ _ _ rfl (Blk_setRow_same kz) Tryz.underlying31 rfl (by kernel_rfl)) rfl ?_
    exact chOut_no HF.out HN.out (Below_setRow cw2 (by omega) _)
  · have g1 : (skE t c != 0) = false := by simpa using he1
    have H1 := Lib.hid he1
    clear he1
    generalize skE t c = E at g1 ⊢
    go_wp2_with (refine wpList_load_row rfl 31 _ rfl _ rfl _ _ _ _ (k0) Tryz.underlying31 rfl (by kernel_rfl) ?_)
    refine (rcap_any l da ca dk ck day _ hd hk hn).mono ?_
    rintro e w3 ⟨rfl, hb⟩
    replace k0 := k0.later hb
    replace kt := kt.later hb
    replace kc := kc.later hb
    replace kz := kz.later hb
    replace hi := hi.later hb
    replace hS := hS.of hb
    replace hd := hd.later hb
    replace hr := hr.later hb
    have cw3 := bl2 hb cw2
    clear hb cw2
    by_cases he2 : capE l day ≠ 0
    · have HF := Lib.hid (chE_2 (t := t) (c := c) H1.out he2)
      have HN := Lib.hid he2
      have g2 : (capE l day != 0) = true := by simpa using he2
      clear he2
      generalize capE l day = E2 at HF HN g2 ⊢
      go_wp2_with (refine wpList_store_row rfl 31 _ _ rfl _ _ rfl rfl _ _ kz (by kernel_rfl) rfl (by simp [Value.oneCell']) ?_)
      (try simp only [Exit.inBlock, Exit.then])
      refine bodyPost_ret (results2_cell Tryz.results52 _ _ _ _ _ _ _ rfl (Blk_setRow_same kz) Tryz.underlying31 rfl (by kernel_rfl)) rfl ?_
      exact chOut_no HF.out HN.out (Below_setRow cw3 (by omega) _)
    · have g2 : (capE l day != 0) = false := by simpa using he2
      rw [show capV l day = capN l day from if_pos (Classical.byContradiction he2)]
      have H2 := Lib.hid he2
      clear he2
      generalize capE l day = E2 at g2 ⊢
      obtain ⟨N, hN⟩ : ∃ N, N = capN l day := ⟨_, rfl⟩
      rw [← hN]
      have HN := Lib.hid hN
      clear hN
      have l0 := kt.c0
      have l1 := kt.c1
      have l2 := kt.c2
      have l3 := kt.c3
      have l4 := kt.c4
      have l5 := kt.c5
      have l6 := kt.c6
      have l7 := kt.c7
      have l8 := kt.c8
      have l9 := kt.c9
      have l10 := kt.c10
      have l11 := kt.c11
      have m0 := kc.c0
      have m1 := kc.c1
      have m2 := kc.c2
      have l22 := k0.c22
      have l24 := k0.c24
      by_cases b1 : t.stt = day
      · have s1 : (t.stt != day) = false := by simp [b1]
        by_cases b2 : t.pr = N
        · have s2 : (t.pr != N) = false := by simp [b2]
          by_cases b3 : t.cur = l.tm.cur
          · have s3 : (t.cur.toList == l.tm.cur.toList) = true := by rw [b3]; exact beq_self_eq_true _
            by_cases h0 : 0 < l.cs.length
            · obtain ⟨b, off, rfl, hcc⟩ := hr.mid cenc_len h0
              have c0 := day_range (hcc (l.cs.length - 1) (by omega))
              have hw2 : wrap64 ((l.cs.length : Int) - 1) = ((l.cs.length - 1 : Nat) : Int) := by unfold wrap64; omega
              by_cases h4 : day < l.cs[l.cs.length - 1]!.day
              · have HB := Lib.hid (bad_4 (t := t) h0 h4)
                generalize l.cs[l.cs.length - 1]!.day = pd at *
                clear hcc
                have HF := Lib.hid (chE_3 (c := c) H1.out H2.out (HB.out))
                go_wp2_with (refine wpList_store_row rfl 31 _ _ rfl _ _ rfl rfl _ _ kz (by kernel_rfl) rfl (by simp [Value.oneCell']) ?_)
                (try simp only [Exit.inBlock, Exit.then])
                refine bodyPost_ret (results2_cell Tryz.results52 _ _ _ _ _ _ _ rfl (Blk_setRow_same kz) Tryz.underlying31 rfl (by kernel_rfl)) rfl ?_
                exact chOut_no HF.out (by decide) (Below_setRow cw3 (by omega) _)
              · have HB := Lib.hid (bad_0 (l := l) b1 (b2.trans HN.out) b3 (fun _ => h4))
                generalize l.cs[l.cs.length - 1]!.day = pd at *
                clear b1 b2 b3
                by_cases h5 : 64 ≤ l.cs.length
                · have HF := Lib.hid (chE_4 (c := c) H1.out H2.out HB.out h5)
                  go_wp2_with (refine wpList_store_row rfl 31 _ _ rfl _ _ rfl rfl _ _ kz (by kernel_rfl) rfl (by simp [Value.oneCell']) ?_)
                  (try simp only [Exit.inBlock, Exit.then])
                  refine bodyPost_ret (results2_cell Tryz.results52 _ _ _ _ _ _ _ rfl (Blk_setRow_same kz) Tryz.underlying31 rfl (by kernel_rfl)) rfl ?_
                  exact chOut_no HF.out (by decide) (Below_setRow cw3 (by omega) _)
                · have HF5 := Lib.hid (chE_5 (c := c) H1.out H2.out HB.out h5)
                  go_wp2_with fail
                  clear l0 l1 l2 l3 l4 l5 l6 l7 l8 l9 l10 l11 m0 m1 m2
                  clear l22 l24
                  clear c0
                  have hz3 := kz.lt
                  refine (Kl.rbuild_any t c wa ha wc hc _ hi hcu hS).mono ?_
                  rintro e w4 ⟨da2, dk2, rfl, hd2, hf2, hb⟩
                  replace k0 := k0.later hb
                  replace kt := kt.later hb
                  replace kc := kc.later hb
                  replace kz := kz.later hb
                  replace hi := hi.later hb
                  replace hS := hS.of hb
                  replace hd := hd.later hb
                  replace hr := hr.later hb
                  have cw4 := bl2 hb cw3
                  clear hb cw3
                  by_cases he3 : blE t c ≠ 0
                  · have HF := Lib.hid HF5.out
                    have HN3 := Lib.hid he3
                    have g3 : (blE t c != 0) = true := by simpa using he3
                    clear he3 hd2 hf2
                    generalize blE t c = E3 at HF HN3 g3 ⊢
                    go_wp2_with (refine wpList_store_row rfl 31 _ _ rfl _ _ rfl rfl _ _ kz (by kernel_rfl) rfl (by simp [Value.oneCell']) ?_)
                    (try simp only [Exit.inBlock, Exit.then])
                    refine bodyPost_ret (results2_cell Tryz.results52 _ _ _ _ _ _ _ rfl (Blk_setRow_same kz) Tryz.underlying31 rfl (by kernel_rfl)) rfl ?_
                    exact chOut_no HF.out HN3.out (Below_setRow cw4 (by omega) _)
                  · have g3 : (blE t c != 0) = false := by simpa using he3
                    have he30 : blE t c = 0 := Classical.byContradiction he3
                    have HE3 := Lib.hid (show chE l t day c = 0 from HF5.out.trans he30)
                    clear he3 he30 HF5
                    generalize blE t c = E3 at g3 ⊢
                    obtain ⟨ls, hls⟩ : ∃ ls, ls = blV t c := ⟨_, rfl⟩
                    rw [← hls] at hd2 ⊢
                    have HLS := Lib.hid hls
                    clear hls
                    obtain ⟨ti, hi1, hi2, hi3, hi4⟩ := info_parts chg_info
                    have HI := Lib.hid (And.intro hi1 (And.intro hi2 hi3))
                    clear hi1 hi2 hi3
                    clear hcc hw2
                    go_upto_region 15 with fail
                    go_cut [11, 13, 14, 15] from 10 to 86 (fun s11 s13 s14 s15 wx => s11 = .int .i64 N ∧ s13 = .int .i64 l.cs.length ∧ s14 = .slice da2 ls.length dk2 ∧ ∃ g5 c5, s15 = .slice (some ⟨g5, 0, none⟩) l.cs.length c5 ∧ OwnR cenc 14 75 wx w4.heap.size g5 c5 l.cs ∧ Below w4.heap.size w4 wx)
                    case first =>
                      have l24 := Lib.cell?_alloc_some (.cells #[] 75) k0.c24
                      go_wp2_with (at_builtin; refine wpList_append_own _ rfl _ _ 29 rfl w4.heap.size 75 ti (.agg #[.int .i64 0, .int .i64 0, .int .i64 0, .int .i64 0, .int .i64 0, .int .i64 0, .int .i64 0, .int .i64 0, .int .i64 0, .int .i64 0, .int .i64 0, .int .i64 0, .string .empty, .string .empty]) 14 128 Tryz.underlying29 HI.out.1 HI.out.2.1 HI.out.2.2 hi4 rfl (by decide) _ _ _ rfl (World.ownsRow_made w4 #[] 0 (Nat.le_refl _) (Nat.zero_le _) (by simp)) ⟨b, off, none⟩ l.cs.length ck (flat cenc l.cs) rfl ?qc1 ?qc2 ?qc3 ?qc4 ?qc5 ?qc6 ?_)
                      case qc1 => exact flat_len cenc_len l.cs
                      case qc2 =>
                        intro j u hj
                        obtain ⟨b', off', ha, hc⟩ := hr h0
                        obtain ⟨rfl, rfl⟩ : b = b' ∧ off = off' := by simpa using ha
                        rw [show (⟨b, off, none⟩ : Addr).add j = ⟨b, off + j, none⟩ from Go.WideShapes.add_plain ..]
                        exact Lib.cell?_alloc_some _ (hc j u hj)
                      case qc3 => exact flat_mem cenc_one l.cs
                      case qc4 => rw [Nat.zero_add]; unfold maxLen; omega
                      case qc5 => rw [Nat.zero_add]; omega
                      case qc6 => simp
                      intro v' w1' hown hgrow hnl
                      have hnn : v' ≠ .slice none 0 0 := hnl
                      obtain ⟨g5, c5, rfl, ho⟩ := OwnR.of hown hnn
                      have hb5 : Below w4.heap.size w4 w1' := ((Below.refl _ w4).alloc (Nat.le_refl _) _).grown hgrow (by simp) (by intro k hk; simp [Value.ownBlock] at hk; omega)
                      clear l24
                      go_wp2_with fail
                      go_meet
                      exact ⟨rfl, rfl, rfl, g5, c5, rfl, ho, hb5⟩
                    case rest =>
                      rename World => w6
                      obtain ⟨rfl, rfl, rfl, g5, c5, rfl, ho5, hb5⟩ := hcut
                      have hg4 : w.heap.size + 4 ≤ w4.heap.size := by have := cw4.size; have := kz.lt; omega
                      replace k0 := k0.later hb5
                      replace kt := kt.later hb5
                      replace kz := kz.later hb5
                      have cw6 := bl2 hb5 cw4
                      have HDL := Lib.hid (fun W (hW : Below w4.heap.size w4 W) => hd2.later hW)
                      clear hi hS kc cw4 HI hd2 hd hr
                      have h45 := ho5.1
                      have h46 := hb5.size
                      generalize w4.heap.size = g4 at *
                      have k06 := k0
                      have kt6 := kt
                      have kz6 := kz
                      have ho6 : OwnR cenc 14 75 w6 w.heap.size g5 c5 l.cs := ⟨by have := ho5.1; omega, ho5.2⟩
                      have hb6 := hb5
                      have h6s : g5 < w6.heap.size := ho6.lt
                      clear k0 kt kz ho5 hb5
                      have hv6 := Sr.OwnR.gv cenc_len (by decide) ho6
                      clear ho6
                      have HTM := Lib.hid (tm_range k06)
                      have hs6 : w.heap.size ≤ w6.heap.size := by have := k06.lt; omega
                      have hg6 := h6s
                      clear h6s
                      go_upto_region 17 with (first | (refine wpList_load_mid rfl 23 _ rfl w.heap.size 11 (by first | rfl | simp) [.int .i64 (l.tm).me, .int .i64 (l.tm).pr, .int .i64 (l.tm).ppm, .int .i64 (l.tm).stt, .int .i64 (l.tm).ev, .int .i64 (l.tm).ct, .int .i64 (l.tm).ba, .int .i64 (l.tm).mo, .int .i64 (l.tm).pen, .int .i64 (l.tm).fe, .string (l.tm).cal, .string (l.tm).cur] _ HTM.out Tryz.underlying23 rfl (by kernel_rfl) ?_) | (at_builtin; go_loud (refine Sr.app_gv cenc_len cenc_one (by decide) (by decide) rfl chg_info Tryz.underlying29 ⟨day, N, l.tm⟩ rfl _ _ rfl rfl hv6 rfl (by omega) hs6 ?_; intro v7 w7 hv7 hgr hat; obtain ⟨a7, c7, rfl, hr7, _⟩ := hv7.row; have k07 := Sr.grown_blk k06 hgr (own_ne (by omega)); have kt7 := Sr.grown_blk kt6 hgr (own_ne (by omega)); have kz7 := Sr.grown_blk kz6 hgr (own_ne (by omega)); have cw7 := Sr.grown_below cw6 hv6 hgr; have c24 := k07.c24; have f24 := k07.f24; have hb7 : Below g4 w4 w7 := (hb6.alloc (by omega) _).grown hgr (by simp; omega) (fun j hj => Nat.le_trans h45 (Nat.le_of_eq (Option.some.inj hj))))))
                      have ha7 : ∀ ad, a7 = some ad → g4 ≤ ad.block := fun ad had => by
                        subst had
                        rcases hat with h | h
                        · exact Nat.le_trans h45 (Nat.le_of_eq (Option.some.inj h).symm)
                        · have := Option.some.inj h; omega
                      have hd7 := HDL.out _ hb7
                      clear hb7 hat hgr k06 kt6 kz6 cw6 hb6 HTM hv6 hs6 c24 f24 hv7 HDL
                      have k08 : Bk.Blk (w7.setCell ⟨w.heap.size, 24, none⟩ (.slice a7 (l.cs.length + 1) c7)) w.heap.size #[.int .i64 l.id, .int .i64 l.ac, .int .i64 l.st, .int .i64 l.pp, .int .i64 l.pi, .int .i64 l.fee, .int .i64 l.pen, .int .i64 l.chg, .int .i64 l.prov, .int .i64 l.loss, .int .i64 l.rcv, .int .i64 l.tm.me, .int .i64 l.tm.pr, .int .i64 l.tm.ppm, .int .i64 l.tm.stt, .int .i64 l.tm.ev, .int .i64 l.tm.ct, .int .i64 l.tm.ba, .int .i64 l.tm.mo, .int .i64 l.tm.pen, .int .i64 l.tm.fe, .string l.tm.cal, .string l.tm.cur, .slice da l.ds.length dk, .slice a7 (l.cs.length + 1) c7] 31 := (k07.set_same (i := 24) (u := .slice a7 (l.cs.length + 1) c7)).conv rfl
                      clear k07
                      have kt8 : Bk.Blk (w7.setCell ⟨w.heap.size, 24, none⟩ (.slice a7 (l.cs.length + 1) c7)) (w.heap.size + 1) #[.int .i64 (t).me, .int .i64 (t).pr, .int .i64 (t).ppm, .int .i64 (t).stt, .int .i64 (t).ev, .int .i64 (t).ct, .int .i64 (t).ba, .int .i64 (t).mo, .int .i64 (t).pen, .int .i64 (t).fe, .string (t).cal, .string (t).cur] 23 := kt7.set_ne (by omega)
                      have kz8 : Bk.Blk (w7.setCell ⟨w.heap.size, 24, none⟩ (.slice a7 (l.cs.length + 1) c7)) (w.heap.size + 3) #[.int .i64 0, .int .i64 0, .int .i64 0, .int .i64 0, .int .i64 0, .int .i64 0, .int .i64 0, .int .i64 0, .int .i64 0, .int .i64 0, .int .i64 0, .int .i64 0, .int .i64 0, .int .i64 0, .int .i64 0, .int .i64 0, .int .i64 0, .int .i64 0, .int .i64 0, .int .i64 0, .int .i64 0, .string { data := #[] }, .string { data := #[] }, .slice none 0 0, .slice none 0 0] 31 := kz7.set_ne (by omega)
                      have cw8 : Below w.heap.size w (w7.setCell ⟨w.heap.size, 24, none⟩ (.slice a7 (l.cs.length + 1) c7)) := cw7.setCell (Nat.le_refl _) _
                      clear kt7 kz7 cw7
                      have hd8 : DuesIn (w7.setCell ⟨w.heap.size, 24, none⟩ (.slice a7 (l.cs.length + 1) c7)) da2 ls := dues_of_row hd7.1 (row_put hd7.row (fun ad had => by have := hf2 ad had; show ad.block ≠ w.heap.size; omega))
                      have hr8 : RowIn cenc (w7.setCell ⟨w.heap.size, 24, none⟩ (.slice a7 (l.cs.length + 1) c7)) a7 (l.cs ++ [(⟨day, N, l.tm⟩ : Ch)]) := row_put hr7 (fun ad had => by have := ha7 ad had; show ad.block ≠ w.heap.size; omega)
                      clear hd7 hr7
                      generalize (w7.setCell ⟨w.heap.size, 24, none⟩ (.slice a7 (l.cs.length + 1) c7)) = w8 at *
                      have k09 : Bk.Blk (w8.setRow w.heap.size #[.int .i64 l.id, .int .i64 l.ac, .int .i64 l.st, .int .i64 l.pp, .int .i64 l.pi, .int .i64 l.fee, .int .i64 l.pen, .int .i64 l.chg, .int .i64 l.prov, .int .i64 l.loss, .int .i64 l.rcv, .int .i64 t.me, .int .i64 t.pr, .int .i64 t.ppm, .int .i64 t.stt, .int .i64 t.ev, .int .i64 t.ct, .int .i64 t.ba, .int .i64 t.mo, .int .i64 t.pen, .int .i64 t.fe, .string t.cal, .string t.cur, .slice da l.ds.length dk, .slice a7 (l.cs.length + 1) c7]) w.heap.size #[.int .i64 l.id, .int .i64 l.ac, .int .i64 l.st, .int .i64 l.pp, .int .i64 l.pi, .int .i64 l.fee, .int .i64 l.pen, .int .i64 l.chg, .int .i64 l.prov, .int .i64 l.loss, .int .i64 l.rcv, .int .i64 t.me, .int .i64 t.pr, .int .i64 t.ppm, .int .i64 t.stt, .int .i64 t.ev, .int .i64 t.ct, .int .i64 t.ba, .int .i64 t.mo, .int .i64 t.pen, .int .i64 t.fe, .string t.cal, .string t.cur, .slice da l.ds.length dk, .slice a7 (l.cs.length + 1) c7] 31 := Blk_setRow_same k08
                      have kt9 : Bk.Blk (w8.setRow w.heap.size #[.int .i64 l.id, .int .i64 l.ac, .int .i64 l.st, .int .i64 l.pp, .int .i64 l.pi, .int .i64 l.fee, .int .i64 l.pen, .int .i64 l.chg, .int .i64 l.prov, .int .i64 l.loss, .int .i64 l.rcv, .int .i64 t.me, .int .i64 t.pr, .int .i64 t.ppm, .int .i64 t.stt, .int .i64 t.ev, .int .i64 t.ct, .int .i64 t.ba, .int .i64 t.mo, .int .i64 t.pen, .int .i64 t.fe, .string t.cal, .string t.cur, .slice da l.ds.length dk, .slice a7 (l.cs.length + 1) c7]) (w.heap.size + 1) #[.int .i64 (t).me, .int .i64 (t).pr, .int .i64 (t).ppm, .int .i64 (t).stt, .int .i64 (t).ev, .int .i64 (t).ct, .int .i64 (t).ba, .int .i64 (t).mo, .int .i64 (t).pen, .int .i64 (t).fe, .string (t).cal, .string (t).cur] 23 := Blk_setRow_ne kt8 (by omega)
                      have kz9 : Bk.Blk (w8.setRow w.heap.size #[.int .i64 l.id, .int .i64 l.ac, .int .i64 l.st, .int .i64 l.pp, .int .i64 l.pi, .int .i64 l.fee, .int .i64 l.pen, .int .i64 l.chg, .int .i64 l.prov, .int .i64 l.loss, .int .i64 l.rcv, .int .i64 t.me, .int .i64 t.pr, .int .i64 t.ppm, .int .i64 t.stt, .int .i64 t.ev, .int .i64 t.ct, .int .i64 t.ba, .int .i64 t.mo, .int .i64 t.pen, .int .i64 t.fe, .string t.cal, .string t.cur, .slice da l.ds.length dk, .slice a7 (l.cs.length + 1) c7]) (w.heap.size + 3) #[.int .i64 0, .int .i64 0, .int .i64 0, .int .i64 0, .int .i64 0, .int .i64 0, .int .i64 0, .int .i64 0, .int .i64 0, .int .i64 0, .int .i64 0, .int .i64 0, .int .i64 0, .int .i64 0, .int .i64 0, .int .i64 0, .int .i64 0, .int .i64 0, .int .i64 0, .int .i64 0, .int .i64 0, .string { data := #[] }, .string { data := #[] }, .slice none 0 0, .slice none 0 0] 31 := Blk_setRow_ne kz8 (by omega)
                      have cw9 : Below w.heap.size w (w8.setRow w.heap.size #[.int .i64 l.id, .int .i64 l.ac, .int .i64 l.st, .int .i64 l.pp, .int .i64 l.pi, .int .i64 l.fee, .int .i64 l.pen, .int .i64 l.chg, .int .i64 l.prov, .int .i64 l.loss, .int .i64 l.rcv, .int .i64 t.me, .int .i64 t.pr, .int .i64 t.ppm, .int .i64 t.stt, .int .i64 t.ev, .int .i64 t.ct, .int .i64 t.ba, .int .i64 t.mo, .int .i64 t.pen, .int .i64 t.fe, .string t.cal, .string t.cur, .slice da l.ds.length dk, .slice a7 (l.cs.length + 1) c7]) := Below_setRow cw8 (Nat.le_refl _) _
                      have hd9 : DuesIn (w8.setRow w.heap.size #[.int .i64 l.id, .int .i64 l.ac, .int .i64 l.st, .int .i64 l.pp, .int .i64 l.pi, .int .i64 l.fee, .int .i64 l.pen, .int .i64 l.chg, .int .i64 l.prov, .int .i64 l.loss, .int .i64 l.rcv, .int .i64 t.me, .int .i64 t.pr, .int .i64 t.ppm, .int .i64 t.stt, .int .i64 t.ev, .int .i64 t.ct, .int .i64 t.ba, .int .i64 t.mo, .int .i64 t.pen, .int .i64 t.fe, .string t.cal, .string t.cur, .slice da l.ds.length dk, .slice a7 (l.cs.length + 1) c7]) da2 ls := dues_setRow hd8 (fun ad had => by have := hf2 ad had; omega)
                      have hr9 : RowIn cenc (w8.setRow w.heap.size #[.int .i64 l.id, .int .i64 l.ac, .int .i64 l.st, .int .i64 l.pp, .int .i64 l.pi, .int .i64 l.fee, .int .i64 l.pen, .int .i64 l.chg, .int .i64 l.prov, .int .i64 l.loss, .int .i64 l.rcv, .int .i64 t.me, .int .i64 t.pr, .int .i64 t.ppm, .int .i64 t.stt, .int .i64 t.ev, .int .i64 t.ct, .int .i64 t.ba, .int .i64 t.mo, .int .i64 t.pen, .int .i64 t.fe, .string t.cal, .string t.cur, .slice da l.ds.length dk, .slice a7 (l.cs.length + 1) c7]) a7 (l.cs ++ [(⟨day, N, l.tm⟩ : Ch)]) := row_row hr8 (fun ad had => by have := ha7 ad had; omega)
                      clear hd8 hr8 cw8
                      have c23 := k09.c23
                      have f23 := k09.f23
                      go_upto_region 18 with (first | (refine wpList_load_row rfl 23 _ rfl _ rfl _ _ _ _ kt8 Tryz.underlying23 rfl (by kernel_rfl) ?_) | (refine wpList_store_in rfl 23 _ _ rfl w.heap.size 11 #[.int .i64 (t).me, .int .i64 (t).pr, .int .i64 (t).ppm, .int .i64 (t).stt, .int .i64 (t).ev, .int .i64 (t).ct, .int .i64 (t).ba, .int .i64 (t).mo, .int .i64 (t).pen, .int .i64 (t).fe, .string (t).cal, .string (t).cur] (by first | rfl | simp) rfl 31 _ k08 (by kernel_rfl) (show 11 + 12 ≤ 25 by decide) (by simp [Value.oneCell']) #[.int .i64 l.id, .int .i64 l.ac, .int .i64 l.st, .int .i64 l.pp, .int .i64 l.pi, .int .i64 l.fee, .int .i64 l.pen, .int .i64 l.chg, .int .i64 l.prov, .int .i64 l.loss, .int .i64 l.rcv, .int .i64 t.me, .int .i64 t.pr, .int .i64 t.ppm, .int .i64 t.stt, .int .i64 t.ev, .int .i64 t.ct, .int .i64 t.ba, .int .i64 t.mo, .int .i64 t.pen, .int .i64 t.fe, .string t.cal, .string t.cur, .slice da l.ds.length dk, .slice a7 (l.cs.length + 1) c7] rfl ?_))
                      clear c23 f23
                      clear k08 kt8 kz8
                      generalize (w8.setRow w.heap.size #[.int .i64 l.id, .int .i64 l.ac, .int .i64 l.st, .int .i64 l.pp, .int .i64 l.pi, .int .i64 l.fee, .int .i64 l.pen, .int .i64 l.chg, .int .i64 l.prov, .int .i64 l.loss, .int .i64 l.rcv, .int .i64 t.me, .int .i64 t.pr, .int .i64 t.ppm, .int .i64 t.stt, .int .i64 t.ev, .int .i64 t.ct, .int .i64 t.ba, .int .i64 t.mo, .int .i64 t.pen, .int .i64 t.fe, .string t.cal, .string t.cur, .slice da l.ds.length dk, .slice a7 (l.cs.length + 1) c7]) = w9 at *
                      have k010 : Bk.Blk (w9.setCell ⟨w.heap.size, 23, none⟩ (.slice da2 ls.length dk2)) w.heap.size #[.int .i64 l.id, .int .i64 l.ac, .int .i64 l.st, .int .i64 l.pp, .int .i64 l.pi, .int .i64 l.fee, .int .i64 l.pen, .int .i64 l.chg, .int .i64 l.prov, .int .i64 l.loss, .int .i64 l.rcv, .int .i64 t.me, .int .i64 t.pr, .int .i64 t.ppm, .int .i64 t.stt, .int .i64 t.ev, .int .i64 t.ct, .int .i64 t.ba, .int .i64 t.mo, .int .i64 t.pen, .int .i64 t.fe, .string t.cal, .string t.cur, .slice da2 ls.length dk2, .slice a7 (l.cs.length + 1) c7] 31 := (k09.set_same (i := 23) (u := .slice da2 ls.length dk2)).conv rfl
                      clear k09
                      have kt10 : Bk.Blk (w9.setCell ⟨w.heap.size, 23, none⟩ (.slice da2 ls.length dk2)) (w.heap.size + 1) #[.int .i64 (t).me, .int .i64 (t).pr, .int .i64 (t).ppm, .int .i64 (t).stt, .int .i64 (t).ev, .int .i64 (t).ct, .int .i64 (t).ba, .int .i64 (t).mo, .int .i64 (t).pen, .int .i64 (t).fe, .string (t).cal, .string (t).cur] 23 := kt9.set_ne (by omega)
                      have kz10 : Bk.Blk (w9.setCell ⟨w.heap.size, 23, none⟩ (.slice da2 ls.length dk2)) (w.heap.size + 3) #[.int .i64 0, .int .i64 0, .int .i64 0, .int .i64 0, .int .i64 0, .int .i64 0, .int .i64 0, .int .i64 0, .int .i64 0, .int .i64 0, .int .i64 0, .int .i64 0, .int .i64 0, .int .i64 0, .int .i64 0, .int .i64 0, .int .i64 0, .int .i64 0, .int .i64 0, .int .i64 0, .int .i64 0, .string { data := #[] }, .string { data := #[] }, .slice none 0 0, .slice none 0 0] 31 := kz9.set_ne (by omega)
                      have cw10 : Below w.heap.size w (w9.setCell ⟨w.heap.size, 23, none⟩ (.slice da2 ls.length dk2)) := cw9.setCell (Nat.le_refl _) _
                      clear kt9 kz9 cw9
                      have hd10 : DuesIn (w9.setCell ⟨w.heap.size, 23, none⟩ (.slice da2 ls.length dk2)) da2 ls := dues_of_row hd9.1 (row_put hd9.row (fun ad had => by have := hf2 ad had; show ad.block ≠ w.heap.size; omega))
                      have hr10 : RowIn cenc (w9.setCell ⟨w.heap.size, 23, none⟩ (.slice da2 ls.length dk2)) a7 (l.cs ++ [(⟨day, N, l.tm⟩ : Ch)]) := row_put hr9 (fun ad had => by have := ha7 ad had; show ad.block ≠ w.heap.size; omega)
                      clear hd9 hr9
                      generalize (w9.setCell ⟨w.heap.size, 23, none⟩ (.slice da2 ls.length dk2)) = w10 at *
                      have c3 := k010.c3
                      have f3 := k010.f3
                      have c4 := k010.c4
                      have f4 := k010.f4
                      have c5 := k010.c5
                      have f5 := k010.f5
                      have c6 := k010.c6
                      have f6 := k010.f6
                      go_upto_region 19 with fail
                      clear c3 f3 c4 f4 c5 f5 c6 f6
                      have k011 : Bk.Blk (w10.setCell ⟨w.heap.size, 3, none⟩ (.int .i64 0)) w.heap.size #[.int .i64 l.id, .int .i64 l.ac, .int .i64 l.st, .int .i64 0, .int .i64 l.pi, .int .i64 l.fee, .int .i64 l.pen, .int .i64 l.chg, .int .i64 l.prov, .int .i64 l.loss, .int .i64 l.rcv, .int .i64 t.me, .int .i64 t.pr, .int .i64 t.ppm, .int .i64 t.stt, .int .i64 t.ev, .int .i64 t.ct, .int .i64 t.ba, .int .i64 t.mo, .int .i64 t.pen, .int .i64 t.fe, .string t.cal, .string t.cur, .slice da2 ls.length dk2, .slice a7 (l.cs.length + 1) c7] 31 := (k010.set_same (i := 3) (u := .int .i64 0)).conv rfl
                      clear k010
                      have kt11 : Bk.Blk (w10.setCell ⟨w.heap.size, 3, none⟩ (.int .i64 0)) (w.heap.size + 1) #[.int .i64 (t).me, .int .i64 (t).pr, .int .i64 (t).ppm, .int .i64 (t).stt, .int .i64 (t).ev, .int .i64 (t).ct, .int .i64 (t).ba, .int .i64 (t).mo, .int .i64 (t).pen, .int .i64 (t).fe, .string (t).cal, .string (t).cur] 23 := kt10.set_ne (by omega)
                      have kz11 : Bk.Blk (w10.setCell ⟨w.heap.size, 3, none⟩ (.int .i64 0)) (w.heap.size + 3) #[.int .i64 0, .int .i64 0, .int .i64 0, .int .i64 0, .int .i64 0, .int .i64 0, .int .i64 0, .int .i64 0, .int .i64 0, .int .i64 0, .int .i64 0, .int .i64 0, .int .i64 0, .int .i64 0, .int .i64 0, .int .i64 0, .int .i64 0, .int .i64 0, .int .i64 0, .int .i64 0, .int .i64 0, .string { data := #[] }, .string { data := #[] }, .slice none 0 0, .slice none 0 0] 31 := kz10.set_ne (by omega)
                      have cw11 : Below w.heap.size w (w10.setCell ⟨w.heap.size, 3, none⟩ (.int .i64 0)) := cw10.setCell (Nat.le_refl _) _
                      clear kt10 kz10 cw10
                      have hd11 : DuesIn (w10.setCell ⟨w.heap.size, 3, none⟩ (.int .i64 0)) da2 ls := dues_of_row hd10.1 (row_put hd10.row (fun ad had => by have := hf2 ad had; show ad.block ≠ w.heap.size; omega))
                      have hr11 : RowIn cenc (w10.setCell ⟨w.heap.size, 3, none⟩ (.int .i64 0)) a7 (l.cs ++ [(⟨day, N, l.tm⟩ : Ch)]) := row_put hr10 (fun ad had => by have := ha7 ad had; show ad.block ≠ w.heap.size; omega)
                      clear hd10 hr10
                      generalize (w10.setCell ⟨w.heap.size, 3, none⟩ (.int .i64 0)) = w11 at *
                      have k012 : Bk.Blk (w11.setCell ⟨w.heap.size, 4, none⟩ (.int .i64 0)) w.heap.size #[.int .i64 l.id, .int .i64 l.ac, .int .i64 l.st, .int .i64 0, .int .i64 0, .int .i64 l.fee, .int .i64 l.pen, .int .i64 l.chg, .int .i64 l.prov, .int .i64 l.loss, .int .i64 l.rcv, .int .i64 t.me, .int .i64 t.pr, .int .i64 t.ppm, .int .i64 t.stt, .int .i64 t.ev, .int .i64 t.ct, .int .i64 t.ba, .int .i64 t.mo, .int .i64 t.pen, .int .i64 t.fe, .string t.cal, .string t.cur, .slice da2 ls.length dk2, .slice a7 (l.cs.length + 1) c7] 31 := (k011.set_same (i := 4) (u := .int .i64 0)).conv rfl
                      clear k011
                      have kt12 : Bk.Blk (w11.setCell ⟨w.heap.size, 4, none⟩ (.int .i64 0)) (w.heap.size + 1) #[.int .i64 (t).me, .int .i64 (t).pr, .int .i64 (t).ppm, .int .i64 (t).stt, .int .i64 (t).ev, .int .i64 (t).ct, .int .i64 (t).ba, .int .i64 (t).mo, .int .i64 (t).pen, .int .i64 (t).fe, .string (t).cal, .string (t).cur] 23 := kt11.set_ne (by omega)
                      have kz12 : Bk.Blk (w11.setCell ⟨w.heap.size, 4, none⟩ (.int .i64 0)) (w.heap.size + 3) #[.int .i64 0, .int .i64 0, .int .i64 0, .int .i64 0, .int .i64 0, .int .i64 0, .int .i64 0, .int .i64 0, .int .i64 0, .int .i64 0, .int .i64 0, .int .i64 0, .int .i64 0, .int .i64 0, .int .i64 0, .int .i64 0, .int .i64 0, .int .i64 0, .int .i64 0, .int .i64 0, .int .i64 0, .string { data := #[] }, .string { data := #[] }, .slice none 0 0, .slice none 0 0] 31 := kz11.set_ne (by omega)
                      have cw12 : Below w.heap.size w (w11.setCell ⟨w.heap.size, 4, none⟩ (.int .i64 0)) := cw11.setCell (Nat.le_refl _) _
                      clear kt11 kz11 cw11
                      have hd12 : DuesIn (w11.setCell ⟨w.heap.size, 4, none⟩ (.int .i64 0)) da2 ls := dues_of_row hd11.1 (row_put hd11.row (fun ad had => by have := hf2 ad had; show ad.block ≠ w.heap.size; omega))
                      have hr12 : RowIn cenc (w11.setCell ⟨w.heap.size, 4, none⟩ (.int .i64 0)) a7 (l.cs ++ [(⟨day, N, l.tm⟩ : Ch)]) := row_put hr11 (fun ad had => by have := ha7 ad had; show ad.block ≠ w.heap.size; omega)
                      clear hd11 hr11
                      generalize (w11.setCell ⟨w.heap.size, 4, none⟩ (.int .i64 0)) = w12 at *
                      have k013 : Bk.Blk (w12.setCell ⟨w.heap.size, 5, none⟩ (.int .i64 0)) w.heap.size #[.int .i64 l.id, .int .i64 l.ac, .int .i64 l.st, .int .i64 0, .int .i64 0, .int .i64 0, .int .i64 l.pen, .int .i64 l.chg, .int .i64 l.prov, .int .i64 l.loss, .int .i64 l.rcv, .int .i64 t.me, .int .i64 t.pr, .int .i64 t.ppm, .int .i64 t.stt, .int .i64 t.ev, .int .i64 t.ct, .int .i64 t.ba, .int .i64 t.mo, .int .i64 t.pen, .int .i64 t.fe, .string t.cal, .string t.cur, .slice da2 ls.length dk2, .slice a7 (l.cs.length + 1) c7] 31 := (k012.set_same (i := 5) (u := .int .i64 0)).conv rfl
                      clear k012
                      have kt13 : Bk.Blk (w12.setCell ⟨w.heap.size, 5, none⟩ (.int .i64 0)) (w.heap.size + 1) #[.int .i64 (t).me, .int .i64 (t).pr, .int .i64 (t).ppm, .int .i64 (t).stt, .int .i64 (t).ev, .int .i64 (t).ct, .int .i64 (t).ba, .int .i64 (t).mo, .int .i64 (t).pen, .int .i64 (t).fe, .string (t).cal, .string (t).cur] 23 := kt12.set_ne (by omega)
                      have kz13 : Bk.Blk (w12.setCell ⟨w.heap.size, 5, none⟩ (.int .i64 0)) (w.heap.size + 3) #[.int .i64 0, .int .i64 0, .int .i64 0, .int .i64 0, .int .i64 0, .int .i64 0, .int .i64 0, .int .i64 0, .int .i64 0, .int .i64 0, .int .i64 0, .int .i64 0, .int .i64 0, .int .i64 0, .int .i64 0, .int .i64 0, .int .i64 0, .int .i64 0, .int .i64 0, .int .i64 0, .int .i64 0, .string { data := #[] }, .string { data := #[] }, .slice none 0 0, .slice none 0 0] 31 := kz12.set_ne (by omega)
                      have cw13 : Below w.heap.size w (w12.setCell ⟨w.heap.size, 5, none⟩ (.int .i64 0)) := cw12.setCell (Nat.le_refl _) _
                      clear kt12 kz12 cw12
                      have hd13 : DuesIn (w12.setCell ⟨w.heap.size, 5, none⟩ (.int .i64 0)) da2 ls := dues_of_row hd12.1 (row_put hd12.row (fun ad had => by have := hf2 ad had; show ad.block ≠ w.heap.size; omega))
                      have hr13 : RowIn cenc (w12.setCell ⟨w.heap.size, 5, none⟩ (.int .i64 0)) a7 (l.cs ++ [(⟨day, N, l.tm⟩ : Ch)]) := row_put hr12 (fun ad had => by have := ha7 ad had; show ad.block ≠ w.heap.size; omega)
                      clear hd12 hr12
                      generalize (w12.setCell ⟨w.heap.size, 5, none⟩ (.int .i64 0)) = w13 at *
                      have k014 : Bk.Blk (w13.setCell ⟨w.heap.size, 6, none⟩ (.int .i64 0)) w.heap.size #[.int .i64 l.id, .int .i64 l.ac, .int .i64 l.st, .int .i64 0, .int .i64 0, .int .i64 0, .int .i64 0, .int .i64 l.chg, .int .i64 l.prov, .int .i64 l.loss, .int .i64 l.rcv, .int .i64 t.me, .int .i64 t.pr, .int .i64 t.ppm, .int .i64 t.stt, .int .i64 t.ev, .int .i64 t.ct, .int .i64 t.ba, .int .i64 t.mo, .int .i64 t.pen, .int .i64 t.fe, .string t.cal, .string t.cur, .slice da2 ls.length dk2, .slice a7 (l.cs.length + 1) c7] 31 := (k013.set_same (i := 6) (u := .int .i64 0)).conv rfl
                      clear k013
                      have kt14 : Bk.Blk (w13.setCell ⟨w.heap.size, 6, none⟩ (.int .i64 0)) (w.heap.size + 1) #[.int .i64 (t).me, .int .i64 (t).pr, .int .i64 (t).ppm, .int .i64 (t).stt, .int .i64 (t).ev, .int .i64 (t).ct, .int .i64 (t).ba, .int .i64 (t).mo, .int .i64 (t).pen, .int .i64 (t).fe, .string (t).cal, .string (t).cur] 23 := kt13.set_ne (by omega)
                      have kz14 : Bk.Blk (w13.setCell ⟨w.heap.size, 6, none⟩ (.int .i64 0)) (w.heap.size + 3) #[.int .i64 0, .int .i64 0, .int .i64 0, .int .i64 0, .int .i64 0, .int .i64 0, .int .i64 0, .int .i64 0, .int .i64 0, .int .i64 0, .int .i64 0, .int .i64 0, .int .i64 0, .int .i64 0, .int .i64 0, .int .i64 0, .int .i64 0, .int .i64 0, .int .i64 0, .int .i64 0, .int .i64 0, .string { data := #[] }, .string { data := #[] }, .slice none 0 0, .slice none 0 0] 31 := kz13.set_ne (by omega)
                      have cw14 : Below w.heap.size w (w13.setCell ⟨w.heap.size, 6, none⟩ (.int .i64 0)) := cw13.setCell (Nat.le_refl _) _
                      clear kt13 kz13 cw13
                      have hd14 : DuesIn (w13.setCell ⟨w.heap.size, 6, none⟩ (.int .i64 0)) da2 ls := dues_of_row hd13.1 (row_put hd13.row (fun ad had => by have := hf2 ad had; show ad.block ≠ w.heap.size; omega))
                      have hr14 : RowIn cenc (w13.setCell ⟨w.heap.size, 6, none⟩ (.int .i64 0)) a7 (l.cs ++ [(⟨day, N, l.tm⟩ : Ch)]) := row_put hr13 (fun ad had => by have := ha7 ad had; show ad.block ≠ w.heap.size; omega)
                      clear hd13 hr13
                      generalize (w13.setCell ⟨w.heap.size, 6, none⟩ (.int .i64 0)) = w14 at *
                      have c7 := k014.c7
                      have f7 := k014.f7
                      go_upto_region 20 with fail
                      clear c7 f7
                      have k015 : Bk.Blk (w14.setCell ⟨w.heap.size, 7, none⟩ (.int .i64 (max l.chg day))) w.heap.size #[.int .i64 l.id, .int .i64 l.ac, .int .i64 l.st, .int .i64 0, .int .i64 0, .int .i64 0, .int .i64 0, .int .i64 (max l.chg day), .int .i64 l.prov, .int .i64 l.loss, .int .i64 l.rcv, .int .i64 t.me, .int .i64 t.pr, .int .i64 t.ppm, .int .i64 t.stt, .int .i64 t.ev, .int .i64 t.ct, .int .i64 t.ba, .int .i64 t.mo, .int .i64 t.pen, .int .i64 t.fe, .string t.cal, .string t.cur, .slice da2 ls.length dk2, .slice a7 (l.cs.length + 1) c7] 31 := (k014.set_same (i := 7) (u := .int .i64 (max l.chg day))).conv rfl
                      clear k014
                      have kt15 : Bk.Blk (w14.setCell ⟨w.heap.size, 7, none⟩ (.int .i64 (max l.chg day))) (w.heap.size + 1) #[.int .i64 (t).me, .int .i64 (t).pr, .int .i64 (t).ppm, .int .i64 (t).stt, .int .i64 (t).ev, .int .i64 (t).ct, .int .i64 (t).ba, .int .i64 (t).mo, .int .i64 (t).pen, .int .i64 (t).fe, .string (t).cal, .string (t).cur] 23 := kt14.set_ne (by omega)
                      have kz15 : Bk.Blk (w14.setCell ⟨w.heap.size, 7, none⟩ (.int .i64 (max l.chg day))) (w.heap.size + 3) #[.int .i64 0, .int .i64 0, .int .i64 0, .int .i64 0, .int .i64 0, .int .i64 0, .int .i64 0, .int .i64 0, .int .i64 0, .int .i64 0, .int .i64 0, .int .i64 0, .int .i64 0, .int .i64 0, .int .i64 0, .int .i64 0, .int .i64 0, .int .i64 0, .int .i64 0, .int .i64 0, .int .i64 0, .string { data := #[] }, .string { data := #[] }, .slice none 0 0, .slice none 0 0] 31 := kz14.set_ne (by omega)
                      have cw15 : Below w.heap.size w (w14.setCell ⟨w.heap.size, 7, none⟩ (.int .i64 (max l.chg day))) := cw14.setCell (Nat.le_refl _) _
                      clear kt14 kz14 cw14
                      have hd15 : DuesIn (w14.setCell ⟨w.heap.size, 7, none⟩ (.int .i64 (max l.chg day))) da2 ls := dues_of_row hd14.1 (row_put hd14.row (fun ad had => by have := hf2 ad had; show ad.block ≠ w.heap.size; omega))
                      have hr15 : RowIn cenc (w14.setCell ⟨w.heap.size, 7, none⟩ (.int .i64 (max l.chg day))) a7 (l.cs ++ [(⟨day, N, l.tm⟩ : Ch)]) := row_put hr14 (fun ad had => by have := ha7 ad had; show ad.block ≠ w.heap.size; omega)
                      clear hd14 hr14
                      generalize (w14.setCell ⟨w.heap.size, 7, none⟩ (.int .i64 (max l.chg day))) = w15 at *
                      go_wp2_with (first | (refine wpList_load_row rfl 31 _ rfl _ rfl _ _ _ _ k015 Tryz.underlying31 rfl (by kernel_rfl) ?_) | (refine wpList_store_row rfl 31 _ _ rfl _ _ rfl rfl _ _ kz15 (by kernel_rfl) rfl (by simp [Value.oneCell']) ?_))
                      (try simp only [Exit.inBlock, Exit.then])
                      refine bodyPost_ret (results2_cell Tryz.results52 _ _ _ _ _ _ _ rfl (Blk_setRow_same kz15) Tryz.underlying31 rfl (by kernel_rfl)) rfl ?_
                      exact chOut_ok HE3.out HLS.out HN.out (dues_setRow hd15 (fun ad had => by have := hf2 ad had; omega)) (row_row hr15 (fun ad had => by have := ha7 ad had; omega)) ⟨fun ad had => by have := hf2 ad had; omega, fun ad had => by have := ha7 ad had; omega⟩ (Below_setRow cw15 (by omega) _)
            · have HB := Lib.hid (bad_0 (l := l) b1 (b2.trans HN.out) b3 (fun h => absurd h h0))
              clear b1 b2 b3
              have h5 : ¬ 64 ≤ l.cs.length := by omega
              have HF5 := Lib.hid (chE_5 (c := c) H1.out H2.out HB.out h5)
              go_wp2_with fail
              clear l0 l1 l2 l3 l4 l5 l6 l7 l8 l9 l10 l11 m0 m1 m2
              clear l22 l24
              have hz3 := kz.lt
              refine (Kl.rbuild_any t c wa ha wc hc _ hi hcu hS).mono ?_
              rintro e w4 ⟨da2, dk2, rfl, hd2, hf2, hb⟩
              replace k0 := k0.later hb
              replace kt := kt.later hb
              replace kc := kc.later hb
              replace kz := kz.later hb
              replace hi := hi.later hb
              replace hS := hS.of hb
              replace hd := hd.later hb
              replace hr := hr.later hb
              have cw4 := bl2 hb cw3
              clear hb cw3
              by_cases he3 : blE t c ≠ 0
              · have HF := Lib.hid HF5.out
                have HN3 := Lib.hid he3
                have g3 : (blE t c != 0) = true := by simpa using he3
                clear he3 hd2 hf2
                generalize blE t c = E3 at HF HN3 g3 ⊢
                go_wp2_with (refine wpList_store_row rfl 31 _ _ rfl _ _ rfl rfl _ _ kz (by kernel_rfl) rfl (by simp [Value.oneCell']) ?_)
                (try simp only [Exit.inBlock, Exit.then])
                refine bodyPost_ret (results2_cell Tryz.results52 _ _ _ _ _ _ _ rfl (Blk_setRow_same kz) Tryz.underlying31 rfl (by kernel_rfl)) rfl ?_
                exact chOut_no HF.out HN3.out (Below_setRow cw4 (by omega) _)
              · have g3 : (blE t c != 0) = false := by simpa using he3
                have he30 : blE t c = 0 := Classical.byContradiction he3
                have HE3 := Lib.hid (show chE l t day c = 0 from HF5.out.trans he30)
                clear he3 he30 HF5
                generalize blE t c = E3 at g3 ⊢
                obtain ⟨ls, hls⟩ : ∃ ls, ls = blV t c := ⟨_, rfl⟩
                rw [← hls] at hd2 ⊢
                have HLS := Lib.hid hls
                clear hls
                obtain ⟨ti, hi1, hi2, hi3, hi4⟩ := info_parts chg_info
                have HI := Lib.hid (And.intro hi1 (And.intro hi2 hi3))
                clear hi1 hi2 hi3
                go_upto_region 15 with fail
                go_cut [11, 13, 14, 15] from 10 to 86 (fun s11 s13 s14 s15 wx => s11 = .int .i64 N ∧ s13 = .int .i64 l.cs.length ∧ s14 = .slice da2 ls.length dk2 ∧ ∃ g5 c5, s15 = .slice (some ⟨g5, 0, none⟩) l.cs.length c5 ∧ OwnR cenc 14 75 wx w4.heap.size g5 c5 l.cs ∧ Below w4.heap.size w4 wx)
                case first =>
                  have l24 := Lib.cell?_alloc_some (.cells #[] 75) k0.c24
                  have hz0 : l.cs.length = 0 := by omega
                  have HZ0 := Lib.hid hz0
                  clear hz0
                  go_wp2_with (at_builtin; refine wpList_append_0 rfl _ _ 29 rfl 75 ti Tryz.underlying29 HI.out.1 w4.heap.size 0 0 (Nat.le_refl _) ca ck rfl (congrArg (fun n => Value.slice ca n ck) HZ0.out) ?_)
                  go_meet
                  exact ⟨rfl, rfl, rfl, w4.heap.size, 0, congrArg (fun n => Value.slice (some ⟨w4.heap.size, 0, none⟩) n 0) HZ0.out.symm, ⟨Nat.le_refl _, Nat.zero_le _, [], by rw [HZ0.out]; rfl, by rw [List.length_eq_zero_iff.1 HZ0.out]; exact Bk.Blk.nw10⟩, (Below.refl _ _).alloc (Nat.le_refl _) _⟩
                case rest =>
                  rename World => w6
                  obtain ⟨rfl, rfl, rfl, g5, c5, rfl, ho5, hb5⟩ := hcut
                  have hg4 : w.heap.size + 4 ≤ w4.heap.size := by have := cw4.size; have := kz.lt; omega
                  replace k0 := k0.later hb5
                  replace kt := kt.later hb5
                  replace kz := kz.later hb5
                  have cw6 := bl2 hb5 cw4
                  have HDL := Lib.hid (fun W (hW : Below w4.heap.size w4 W) => hd2.later hW)
                  clear hi hS kc cw4 HI hd2 hd hr
                  have h45 := ho5.1
                  have h46 := hb5.size
                  generalize w4.heap.size = g4 at *
                  have k06 := k0
                  have kt6 := kt
                  have kz6 := kz
                  have ho6 : OwnR cenc 14 75 w6 w.heap.size g5 c5 l.cs := ⟨by have := ho5.1; omega, ho5.2⟩
                  have hb6 := hb5
                  have h6s : g5 < w6.heap.size := ho6.lt
                  clear k0 kt kz ho5 hb5
                  have hv6 := Sr.OwnR.gv cenc_len (by decide) ho6
                  clear ho6
                  have HTM := Lib.hid (tm_range k06)
                  have hs6 : w.heap.size ≤ w6.heap.size := by have := k06.lt; omega
                  have hg6 := h6s
                  clear h6s
                  go_upto_region 17 with (first | (refine wpList_load_mid rfl 23 _ rfl w.heap.size 11 (by first | rfl | simp) [.int .i64 (l.tm).me, .int .i64 (l.tm).pr, .int .i64 (l.tm).ppm, .int .i64 (l.tm).stt, .int .i64 (l.tm).ev, .int .i64 (l.tm).ct, .int .i64 (l.tm).ba, .int .i64 (l.tm).mo, .int .i64 (l.tm).pen, .int .i64 (l.tm).fe, .string (l.tm).cal, .string (l.tm).cur] _ HTM.out Tryz.underlying23 rfl (by kernel_rfl) ?_) | (at_builtin; go_loud (refine Sr.app_gv cenc_len cenc_one (by decide) (by decide) rfl chg_info Tryz.underlying29 ⟨day, N, l.tm⟩ rfl _ _ rfl rfl hv6 rfl (by omega) hs6 ?_; intro v7 w7 hv7 hgr hat; obtain ⟨a7, c7, rfl, hr7, _⟩ := hv7.row; have k07 := Sr.grown_blk k06 hgr (own_ne (by omega)); have kt7 := Sr.grown_blk kt6 hgr (own_ne (by omega)); have kz7 := Sr.grown_blk kz6 hgr (own_ne (by omega)); have cw7 := Sr.grown_below cw6 hv6 hgr; have c24 := k07.c24; have f24 := k07.f24; have hb7 : Below g4 w4 w7 := (hb6.alloc (by omega) _).grown hgr (by simp; omega) (fun j hj => Nat.le_trans h45 (Nat.le_of_eq (Option.some.inj hj))))))
                  have ha7 : ∀ ad, a7 = some ad → g4 ≤ ad.block := fun ad had => by
                    subst had
                    rcases hat with h | h
                    · exact Nat.le_trans h45 (Nat.le_of_eq (Option.some.inj h).symm)
                    · have := Option.some.inj h; omega
                  have hd7 := HDL.out _ hb7
                  clear hb7 hat hgr k06 kt6 kz6 cw6 hb6 HTM hv6 hs6 c24 f24 hv7 HDL
                  have k08 : Bk.Blk (w7.setCell ⟨w.heap.size, 24, none⟩ (.slice a7 (l.cs.length + 1) c7)) w.heap.size #[.int .i64 l.id, .int .i64 l.ac, .int .i64 l.st, .int .i64 l.pp, .int .i64 l.pi, .int .i64 l.fee, .int .i64 l.pen, .int .i64 l.chg, .int .i64 l.prov, .int .i64 l.loss, .int .i64 l.rcv, .int .i64 l.tm.me, .int .i64 l.tm.pr, .int .i64 l.tm.ppm, .int .i64 l.tm.stt, .int .i64 l.tm.ev, .int .i64 l.tm.ct, .int .i64 l.tm.ba, .int .i64 l.tm.mo, .int .i64 l.tm.pen, .int .i64 l.tm.fe, .string l.tm.cal, .string l.tm.cur, .slice da l.ds.length dk, .slice a7 (l.cs.length + 1) c7] 31 := (k07.set_same (i := 24) (u := .slice a7 (l.cs.length + 1) c7)).conv rfl
                  clear k07
                  have kt8 : Bk.Blk (w7.setCell ⟨w.heap.size, 24, none⟩ (.slice a7 (l.cs.length + 1) c7)) (w.heap.size + 1) #[.int .i64 (t).me, .int .i64 (t).pr, .int .i64 (t).ppm, .int .i64 (t).stt, .int .i64 (t).ev, .int .i64 (t).ct, .int .i64 (t).ba, .int .i64 (t).mo, .int .i64 (t).pen, .int .i64 (t).fe, .string (t).cal, .string (t).cur] 23 := kt7.set_ne (by omega)
                  have kz8 : Bk.Blk (w7.setCell ⟨w.heap.size, 24, none⟩ (.slice a7 (l.cs.length + 1) c7)) (w.heap.size + 3) #[.int .i64 0, .int .i64 0, .int .i64 0, .int .i64 0, .int .i64 0, .int .i64 0, .int .i64 0, .int .i64 0, .int .i64 0, .int .i64 0, .int .i64 0, .int .i64 0, .int .i64 0, .int .i64 0, .int .i64 0, .int .i64 0, .int .i64 0, .int .i64 0, .int .i64 0, .int .i64 0, .int .i64 0, .string { data := #[] }, .string { data := #[] }, .slice none 0 0, .slice none 0 0] 31 := kz7.set_ne (by omega)
                  have cw8 : Below w.heap.size w (w7.setCell ⟨w.heap.size, 24, none⟩ (.slice a7 (l.cs.length + 1) c7)) := cw7.setCell (Nat.le_refl _) _
                  clear kt7 kz7 cw7
                  have hd8 : DuesIn (w7.setCell ⟨w.heap.size, 24, none⟩ (.slice a7 (l.cs.length + 1) c7)) da2 ls := dues_of_row hd7.1 (row_put hd7.row (fun ad had => by have := hf2 ad had; show ad.block ≠ w.heap.size; omega))
                  have hr8 : RowIn cenc (w7.setCell ⟨w.heap.size, 24, none⟩ (.slice a7 (l.cs.length + 1) c7)) a7 (l.cs ++ [(⟨day, N, l.tm⟩ : Ch)]) := row_put hr7 (fun ad had => by have := ha7 ad had; show ad.block ≠ w.heap.size; omega)
                  clear hd7 hr7
                  generalize (w7.setCell ⟨w.heap.size, 24, none⟩ (.slice a7 (l.cs.length + 1) c7)) = w8 at *
                  have k09 : Bk.Blk (w8.setRow w.heap.size #[.int .i64 l.id, .int .i64 l.ac, .int .i64 l.st, .int .i64 l.pp, .int .i64 l.pi, .int .i64 l.fee, .int .i64 l.pen, .int .i64 l.chg, .int .i64 l.prov, .int .i64 l.loss, .int .i64 l.rcv, .int .i64 t.me, .int .i64 t.pr, .int .i64 t.ppm, .int .i64 t.stt, .int .i64 t.ev, .int .i64 t.ct, .int .i64 t.ba, .int .i64 t.mo, .int .i64 t.pen, .int .i64 t.fe, .string t.cal, .string t.cur, .slice da l.ds.length dk, .slice a7 (l.cs.length + 1) c7]) w.heap.size #[.int .i64 l.id, .int .i64 l.ac, .int .i64 l.st, .int .i64 l.pp, .int .i64 l.pi, .int .i64 l.fee, .int .i64 l.pen, .int .i64 l.chg, .int .i64 l.prov, .int .i64 l.loss, .int .i64 l.rcv, .int .i64 t.me, .int .i64 t.pr, .int .i64 t.ppm, .int .i64 t.stt, .int .i64 t.ev, .int .i64 t.ct, .int .i64 t.ba, .int .i64 t.mo, .int .i64 t.pen, .int .i64 t.fe, .string t.cal, .string t.cur, .slice da l.ds.length dk, .slice a7 (l.cs.length + 1) c7] 31 := Blk_setRow_same k08
                  have kt9 : Bk.Blk (w8.setRow w.heap.size #[.int .i64 l.id, .int .i64 l.ac, .int .i64 l.st, .int .i64 l.pp, .int .i64 l.pi, .int .i64 l.fee, .int .i64 l.pen, .int .i64 l.chg, .int .i64 l.prov, .int .i64 l.loss, .int .i64 l.rcv, .int .i64 t.me, .int .i64 t.pr, .int .i64 t.ppm, .int .i64 t.stt, .int .i64 t.ev, .int .i64 t.ct, .int .i64 t.ba, .int .i64 t.mo, .int .i64 t.pen, .int .i64 t.fe, .string t.cal, .string t.cur, .slice da l.ds.length dk, .slice a7 (l.cs.length + 1) c7]) (w.heap.size + 1) #[.int .i64 (t).me, .int .i64 (t).pr, .int .i64 (t).ppm, .int .i64 (t).stt, .int .i64 (t).ev, .int .i64 (t).ct, .int .i64 (t).ba, .int .i64 (t).mo, .int .i64 (t).pen, .int .i64 (t).fe, .string (t).cal, .string (t).cur] 23 := Blk_setRow_ne kt8 (by omega)
                  have kz9 : Bk.Blk (w8.setRow w.heap.size #[.int .i64 l.id, .int .i64 l.ac, .int .i64 l.st, .int .i64 l.pp, .int .i64 l.pi, .int .i64 l.fee, .int .i64 l.pen, .int .i64 l.chg, .int .i64 l.prov, .int .i64 l.loss, .int .i64 l.rcv, .int .i64 t.me, .int .i64 t.pr, .int .i64 t.ppm, .int .i64 t.stt, .int .i64 t.ev, .int .i64 t.ct, .int .i64 t.ba, .int .i64 t.mo, .int .i64 t.pen, .int .i64 t.fe, .string t.cal, .string t.cur, .slice da l.ds.length dk, .slice a7 (l.cs.length + 1) c7]) (w.heap.size + 3) #[.int .i64 0, .int .i64 0, .int .i64 0, .int .i64 0, .int .i64 0, .int .i64 0, .int .i64 0, .int .i64 0, .int .i64 0, .int .i64 0, .int .i64 0, .int .i64 0, .int .i64 0, .int .i64 0, .int .i64 0, .int .i64 0, .int .i64 0, .int .i64 0, .int .i64 0, .int .i64 0, .int .i64 0, .string { data := #[] }, .string { data := #[] }, .slice none 0 0, .slice none 0 0] 31 := Blk_setRow_ne kz8 (by omega)
                  have cw9 : Below w.heap.size w (w8.setRow w.heap.size #[.int .i64 l.id, .int .i64 l.ac, .int .i64 l.st, .int .i64 l.pp, .int .i64 l.pi, .int .i64 l.fee, .int .i64 l.pen, .int .i64 l.chg, .int .i64 l.prov, .int .i64 l.loss, .int .i64 l.rcv, .int .i64 t.me, .int .i64 t.pr, .int .i64 t.ppm, .int .i64 t.stt, .int .i64 t.ev, .int .i64 t.ct, .int .i64 t.ba, .int .i64 t.mo, .int .i64 t.pen, .int .i64 t.fe, .string t.cal, .string t.cur, .slice da l.ds.length dk, .slice a7 (l.cs.length + 1) c7]) := Below_setRow cw8 (Nat.le_refl _) _
                  have hd9 : DuesIn (w8.setRow w.heap.size #[.int .i64 l.id, .int .i64 l.ac, .int .i64 l.st, .int .i64 l.pp, .int .i64 l.pi, .int .i64 l.fee, .int .i64 l.pen, .int .i64 l.chg, .int .i64 l.prov, .int .i64 l.loss, .int .i64 l.rcv, .int .i64 t.me, .int .i64 t.pr, .int .i64 t.ppm, .int .i64 t.stt, .int .i64 t.ev, .int .i64 t.ct, .int .i64 t.ba, .int .i64 t.mo, .int .i64 t.pen, .int .i64 t.fe, .string t.cal, .string t.cur, .slice da l.ds.length dk, .slice a7 (l.cs.length + 1) c7]) da2 ls := dues_setRow hd8 (fun ad had => by have := hf2 ad had; omega)
                  have hr9 : RowIn cenc (w8.setRow w.heap.size #[.int .i64 l.id, .int .i64 l.ac, .int .i64 l.st, .int .i64 l.pp, .int .i64 l.pi, .int .i64 l.fee, .int .i64 l.pen, .int .i64 l.chg, .int .i64 l.prov, .int .i64 l.loss, .int .i64 l.rcv, .int .i64 t.me, .int .i64 t.pr, .int .i64 t.ppm, .int .i64 t.stt, .int .i64 t.ev, .int .i64 t.ct, .int .i64 t.ba, .int .i64 t.mo, .int .i64 t.pen, .int .i64 t.fe, .string t.cal, .string t.cur, .slice da l.ds.length dk, .slice a7 (l.cs.length + 1) c7]) a7 (l.cs ++ [(⟨day, N, l.tm⟩ : Ch)]) := row_row hr8 (fun ad had => by have := ha7 ad had; omega)
                  clear hd8 hr8 cw8
                  have c23 := k09.c23
                  have f23 := k09.f23
                  go_upto_region 18 with (first | (refine wpList_load_row rfl 23 _ rfl _ rfl _ _ _ _ kt8 Tryz.underlying23 rfl (by kernel_rfl) ?_) | (refine wpList_store_in rfl 23 _ _ rfl w.heap.size 11 #[.int .i64 (t).me, .int .i64 (t).pr, .int .i64 (t).ppm, .int .i64 (t).stt, .int .i64 (t).ev, .int .i64 (t).ct, .int .i64 (t).ba, .int .i64 (t).mo, .int .i64 (t).pen, .int .i64 (t).fe, .string (t).cal, .string (t).cur] (by first | rfl | simp) rfl 31 _ k08 (by kernel_rfl) (show 11 + 12 ≤ 25 by decide) (by simp [Value.oneCell']) #[.int .i64 l.id, .int .i64 l.ac, .int .i64 l.st, .int .i64 l.pp, .int .i64 l.pi, .int .i64 l.fee, .int .i64 l.pen, .int .i64 l.chg, .int .i64 l.prov, .int .i64 l.loss, .int .i64 l.rcv, .int .i64 t.me, .int .i64 t.pr, .int .i64 t.ppm, .int .i64 t.stt, .int .i64 t.ev, .int .i64 t.ct, .int .i64 t.ba, .int .i64 t.mo, .int .i64 t.pen, .int .i64 t.fe, .string t.cal, .string t.cur, .slice da l.ds.length dk, .slice a7 (l.cs.length + 1) c7] rfl ?_))
                  clear c23 f23
                  clear k08 kt8 kz8
                  generalize (w8.setRow w.heap.size #[.int .i64 l.id, .int .i64 l.ac, .int .i64 l.st, .int .i64 l.pp, .int .i64 l.pi, .int .i64 l.fee, .int .i64 l.pen, .int .i64 l.chg, .int .i64 l.prov, .int .i64 l.loss, .int .i64 l.rcv, .int .i64 t.me, .int .i64 t.pr, .int .i64 t.ppm, .int .i64 t.stt, .int .i64 t.ev, .int .i64 t.ct, .int .i64 t.ba, .int .i64 t.mo, .int .i64 t.pen, .int .i64 t.fe, .string t.cal, .string t.cur, .slice da l.ds.length dk, .slice a7 (l.cs.length + 1) c7]) = w9 at *
                  have k010 : Bk.Blk (w9.setCell ⟨w.heap.size, 23, none⟩ (.slice da2 ls.length dk2)) w.heap.size #[.int .i64 l.id, .int .i64 l.ac, .int .i64 l.st, .int .i64 l.pp, .int .i64 l.pi, .int .i64 l.fee, .int .i64 l.pen, .int .i64 l.chg, .int .i64 l.prov, .int .i64 l.loss, .int .i64 l.rcv, .int .i64 t.me, .int .i64 t.pr, .int .i64 t.ppm, .int .i64 t.stt, .int .i64 t.ev, .int .i64 t.ct, .int .i64 t.ba, .int .i64 t.mo, .int .i64 t.pen, .int .i64 t.fe, .string t.cal, .string t.cur, .slice da2 ls.length dk2, .slice a7 (l.cs.length + 1) c7] 31 := (k09.set_same (i := 23) (u := .slice da2 ls.length dk2)).conv rfl
                  clear k09
                  have kt10 : Bk.Blk (w9.setCell ⟨w.heap.size, 23, none⟩ (.slice da2 ls.length dk2)) (w.heap.size + 1) #[.int .i64 (t).me, .int .i64 (t).pr, .int .i64 (t).ppm, .int .i64 (t).stt, .int .i64 (t).ev, .int .i64 (t).ct, .int .i64 (t).ba, .int .i64 (t).mo, .int .i64 (t).pen, .int .i64 (t).fe, .string (t).cal, .string (t).cur] 23 := kt9.set_ne (by omega)
                  have kz10 : Bk.Blk (w9.setCell ⟨w.heap.size, 23, none⟩ (.slice da2 ls.length dk2)) (w.heap.size + 3) #[.int .i64 0, .int .i64 0, .int .i64 0, .int .i64 0, .int .i64 0, .int .i64 0, .int .i64 0, .int .i64 0, .int .i64 0, .int .i64 0, .int .i64 0, .int .i64 0, .int .i64 0, .int .i64 0, .int .i64 0, .int .i64 0, .int .i64 0, .int .i64 0, .int .i64 0, .int .i64 0, .int .i64 0, .string { data := #[] }, .string { data := #[] }, .slice none 0 0, .slice none 0 0] 31 := kz9.set_ne (by omega)
                  have cw10 : Below w.heap.size w (w9.setCell ⟨w.heap.size, 23, none⟩ (.slice da2 ls.length dk2)) := cw9.setCell (Nat.le_refl _) _
                  clear kt9 kz9 cw9
                  have hd10 : DuesIn (w9.setCell ⟨w.heap.size, 23, none⟩ (.slice da2 ls.length dk2)) da2 ls := dues_of_row hd9.1 (row_put hd9.row (fun ad had => by have := hf2 ad had; show ad.block ≠ w.heap.size; omega))
                  have hr10 : RowIn cenc (w9.setCell ⟨w.heap.size, 23, none⟩ (.slice da2 ls.length dk2)) a7 (l.cs ++ [(⟨day, N, l.tm⟩ : Ch)]) := row_put hr9 (fun ad had => by have := ha7 ad had; show ad.block ≠ w.heap.size; omega)
                  clear hd9 hr9
                  generalize (w9.setCell ⟨w.heap.size, 23, none⟩ (.slice da2 ls.length dk2)) = w10 at *
                  have c3 := k010.c3
                  have f3 := k010.f3
                  have c4 := k010.c4
                  have f4 := k010.f4
                  have c5 := k010.c5
                  have f5 := k010.f5
                  have c6 := k010.c6
                  have f6 := k010.f6
                  go_upto_region 19 with fail
                  clear c3 f3 c4 f4 c5 f5 c6 f6
                  have k011 : Bk.Blk (w10.setCell ⟨w.heap.size, 3, none⟩ (.int .i64 0)) w.heap.size #[.int .i64 l.id, .int .i64 l.ac, .int .i64 l.st, .int .i64 0, .int .i64 l.pi, .int .i64 l.fee, .int .i64 l.pen, .int .i64 l.chg, .int .i64 l.prov, .int .i64 l.loss, .int .i64 l.rcv, .int .i64 t.me, .int .i64 t.pr, .int .i64 t.ppm, .int .i64 t.stt, .int .i64 t.ev, .int .i64 t.ct, .int .i64 t.ba, .int .i64 t.mo, .int .i64 t.pen, .int .i64 t.fe, .string t.cal, .string t.cur, .slice da2 ls.length dk2, .slice a7 (l.cs.length + 1) c7] 31 := (k010.set_same (i := 3) (u := .int .i64 0)).conv rfl
                  clear k010
                  have kt11 : Bk.Blk (w10.setCell ⟨w.heap.size, 3, none⟩ (.int .i64 0)) (w.heap.size + 1) #[.int .i64 (t).me, .int .i64 (t).pr, .int .i64 (t).ppm, .int .i64 (t).stt, .int .i64 (t).ev, .int .i64 (t).ct, .int .i64 (t).ba, .int .i64 (t).mo, .int .i64 (t).pen, .int .i64 (t).fe, .string (t).cal, .string (t).cur] 23 := kt10.set_ne (by omega)
                  have kz11 : Bk.Blk (w10.setCell ⟨w.heap.size, 3, none⟩ (.int .i64 0)) (w.heap.size + 3) #[.int .i64 0, .int .i64 0, .int .i64 0, .int .i64 0, .int .i64 0, .int .i64 0, .int .i64 0, .int .i64 0, .int .i64 0, .int .i64 0, .int .i64 0, .int .i64 0, .int .i64 0, .int .i64 0, .int .i64 0, .int .i64 0, .int .i64 0, .int .i64 0, .int .i64 0, .int .i64 0, .int .i64 0, .string { data := #[] }, .string { data := #[] }, .slice none 0 0, .slice none 0 0] 31 := kz10.set_ne (by omega)
                  have cw11 : Below w.heap.size w (w10.setCell ⟨w.heap.size, 3, none⟩ (.int .i64 0)) := cw10.setCell (Nat.le_refl _) _
                  clear kt10 kz10 cw10
                  have hd11 : DuesIn (w10.setCell ⟨w.heap.size, 3, none⟩ (.int .i64 0)) da2 ls := dues_of_row hd10.1 (row_put hd10.row (fun ad had => by have := hf2 ad had; show ad.block ≠ w.heap.size; omega))
                  have hr11 : RowIn cenc (w10.setCell ⟨w.heap.size, 3, none⟩ (.int .i64 0)) a7 (l.cs ++ [(⟨day, N, l.tm⟩ : Ch)]) := row_put hr10 (fun ad had => by have := ha7 ad had; show ad.block ≠ w.heap.size; omega)
                  clear hd10 hr10
                  generalize (w10.setCell ⟨w.heap.size, 3, none⟩ (.int .i64 0)) = w11 at *
                  have k012 : Bk.Blk (w11.setCell ⟨w.heap.size, 4, none⟩ (.int .i64 0)) w.heap.size #[.int .i64 l.id, .int .i64 l.ac, .int .i64 l.st, .int .i64 0, .int .i64 0, .int .i64 l.fee, .int .i64 l.pen, .int .i64 l.chg, .int .i64 l.prov, .int .i64 l.loss, .int .i64 l.rcv, .int .i64 t.me, .int .i64 t.pr, .int .i64 t.ppm, .int .i64 t.stt, .int .i64 t.ev, .int .i64 t.ct, .int .i64 t.ba, .int .i64 t.mo, .int .i64 t.pen, .int .i64 t.fe, .string t.cal, .string t.cur, .slice da2 ls.length dk2, .slice a7 (l.cs.length + 1) c7] 31 := (k011.set_same (i := 4) (u := .int .i64 0)).conv rfl
                  clear k011
                  have kt12 : Bk.Blk (w11.setCell ⟨w.heap.size, 4, none⟩ (.int .i64 0)) (w.heap.size + 1) #[.int .i64 (t).me, .int .i64 (t).pr, .int .i64 (t).ppm, .int .i64 (t).stt, .int .i64 (t).ev, .int .i64 (t).ct, .int .i64 (t).ba, .int .i64 (t).mo, .int .i64 (t).pen, .int .i64 (t).fe, .string (t).cal, .string (t).cur] 23 := kt11.set_ne (by omega)
                  have kz12 : Bk.Blk (w11.setCell ⟨w.heap.size, 4, none⟩ (.int .i64 0)) (w.heap.size + 3) #[.int .i64 0, .int .i64 0, .int .i64 0, .int .i64 0, .int .i64 0, .int .i64 0, .int .i64 0, .int .i64 0, .int .i64 0, .int .i64 0, .int .i64 0, .int .i64 0, .int .i64 0, .int .i64 0, .int .i64 0, .int .i64 0, .int .i64 0, .int .i64 0, .int .i64 0, .int .i64 0, .int .i64 0, .string { data := #[] }, .string { data := #[] }, .slice none 0 0, .slice none 0 0] 31 := kz11.set_ne (by omega)
                  have cw12 : Below w.heap.size w (w11.setCell ⟨w.heap.size, 4, none⟩ (.int .i64 0)) := cw11.setCell (Nat.le_refl _) _
                  clear kt11 kz11 cw11
                  have hd12 : DuesIn (w11.setCell ⟨w.heap.size, 4, none⟩ (.int .i64 0)) da2 ls := dues_of_row hd11.1 (row_put hd11.row (fun ad had => by have := hf2 ad had; show ad.block ≠ w.heap.size; omega))
                  have hr12 : RowIn cenc (w11.setCell ⟨w.heap.size, 4, none⟩ (.int .i64 0)) a7 (l.cs ++ [(⟨day, N, l.tm⟩ : Ch)]) := row_put hr11 (fun ad had => by have := ha7 ad had; show ad.block ≠ w.heap.size; omega)
                  clear hd11 hr11
                  generalize (w11.setCell ⟨w.heap.size, 4, none⟩ (.int .i64 0)) = w12 at *
                  have k013 : Bk.Blk (w12.setCell ⟨w.heap.size, 5, none⟩ (.int .i64 0)) w.heap.size #[.int .i64 l.id, .int .i64 l.ac, .int .i64 l.st, .int .i64 0, .int .i64 0, .int .i64 0, .int .i64 l.pen, .int .i64 l.chg, .int .i64 l.prov, .int .i64 l.loss, .int .i64 l.rcv, .int .i64 t.me, .int .i64 t.pr, .int .i64 t.ppm, .int .i64 t.stt, .int .i64 t.ev, .int .i64 t.ct, .int .i64 t.ba, .int .i64 t.mo, .int .i64 t.pen, .int .i64 t.fe, .string t.cal, .string t.cur, .slice da2 ls.length dk2, .slice a7 (l.cs.length + 1) c7] 31 := (k012.set_same (i := 5) (u := .int .i64 0)).conv rfl
                  clear k012
                  have kt13 : Bk.Blk (w12.setCell ⟨w.heap.size, 5, none⟩ (.int .i64 0)) (w.heap.size + 1) #[.int .i64 (t).me, .int .i64 (t).pr, .int .i64 (t).ppm, .int .i64 (t).stt, .int .i64 (t).ev, .int .i64 (t).ct, .int .i64 (t).ba, .int .i64 (t).mo, .int .i64 (t).pen, .int .i64 (t).fe, .string (t).cal, .string (t).cur] 23 := kt12.set_ne (by omega)
                  have kz13 : Bk.Blk (w12.setCell ⟨w.heap.size, 5, none⟩ (.int .i64 0)) (w.heap.size + 3) #[.int .i64 0, .int .i64 0, .int .i64 0, .int .i64 0, .int .i64 0, .int .i64 0, .int .i64 0, .int .i64 0, .int .i64 0, .int .i64 0, .int .i64 0, .int .i64 0, .int .i64 0, .int .i64 0, .int .i64 0, .int .i64 0, .int .i64 0, .int .i64 0, .int .i64 0, .int .i64 0, .int .i64 0, .string { data := #[] }, .string { data := #[] }, .slice none 0 0, .slice none 0 0] 31 := kz12.set_ne (by omega)
                  have cw13 : Below w.heap.size w (w12.setCell ⟨w.heap.size, 5, none⟩ (.int .i64 0)) := cw12.setCell (Nat.le_refl _) _
                  clear kt12 kz12 cw12
                  have hd13 : DuesIn (w12.setCell ⟨w.heap.size, 5, none⟩ (.int .i64 0)) da2 ls := dues_of_row hd12.1 (row_put hd12.row (fun ad had => by have := hf2 ad had; show ad.block ≠ w.heap.size; omega))
                  have hr13 : RowIn cenc (w12.setCell ⟨w.heap.size, 5, none⟩ (.int .i64 0)) a7 (l.cs ++ [(⟨day, N, l.tm⟩ : Ch)]) := row_put hr12 (fun ad had => by have := ha7 ad had; show ad.block ≠ w.heap.size; omega)
                  clear hd12 hr12
                  generalize (w12.setCell ⟨w.heap.size, 5, none⟩ (.int .i64 0)) = w13 at *
                  have k014 : Bk.Blk (w13.setCell ⟨w.heap.size, 6, none⟩ (.int .i64 0)) w.heap.size #[.int .i64 l.id, .int .i64 l.ac, .int .i64 l.st, .int .i64 0, .int .i64 0, .int .i64 0, .int .i64 0, .int .i64 l.chg, .int .i64 l.prov, .int .i64 l.loss, .int .i64 l.rcv, .int .i64 t.me, .int .i64 t.pr, .int .i64 t.ppm, .int .i64 t.stt, .int .i64 t.ev, .int .i64 t.ct, .int .i64 t.ba, .int .i64 t.mo, .int .i64 t.pen, .int .i64 t.fe, .string t.cal, .string t.cur, .slice da2 ls.length dk2, .slice a7 (l.cs.length + 1) c7] 31 := (k013.set_same (i := 6) (u := .int .i64 0)).conv rfl
                  clear k013
                  have kt14 : Bk.Blk (w13.setCell ⟨w.heap.size, 6, none⟩ (.int .i64 0)) (w.heap.size + 1) #[.int .i64 (t).me, .int .i64 (t).pr, .int .i64 (t).ppm, .int .i64 (t).stt, .int .i64 (t).ev, .int .i64 (t).ct, .int .i64 (t).ba, .int .i64 (t).mo, .int .i64 (t).pen, .int .i64 (t).fe, .string (t).cal, .string (t).cur] 23 := kt13.set_ne (by omega)
                  have kz14 : Bk.Blk (w13.setCell ⟨w.heap.size, 6, none⟩ (.int .i64 0)) (w.heap.size + 3) #[.int .i64 0, .int .i64 0, .int .i64 0, .int .i64 0, .int .i64 0, .int .i64 0, .int .i64 0, .int .i64 0, .int .i64 0, .int .i64 0, .int .i64 0, .int .i64 0, .int .i64 0, .int .i64 0, .int .i64 0, .int .i64 0, .int .i64 0, .int .i64 0, .int .i64 0, .int .i64 0, .int .i64 0, .string { data := #[] }, .string { data := #[] }, .slice none 0 0, .slice none 0 0] 31 := kz13.set_ne (by omega)
                  have cw14 : Below w.heap.size w (w13.setCell ⟨w.heap.size, 6, none⟩ (.int .i64 0)) := cw13.setCell (Nat.le_refl _) _
                  clear kt13 kz13 cw13
                  have hd14 : DuesIn (w13.setCell ⟨w.heap.size, 6, none⟩ (.int .i64 0)) da2 ls := dues_of_row hd13.1 (row_put hd13.row (fun ad had => by have := hf2 ad had; show ad.block ≠ w.heap.size; omega))
                  have hr14 : RowIn cenc (w13.setCell ⟨w.heap.size, 6, none⟩ (.int .i64 0)) a7 (l.cs ++ [(⟨day, N, l.tm⟩ : Ch)]) := row_put hr13 (fun ad had => by have := ha7 ad had; show ad.block ≠ w.heap.size; omega)
                  clear hd13 hr13
                  generalize (w13.setCell ⟨w.heap.size, 6, none⟩ (.int .i64 0)) = w14 at *
                  have c7 := k014.c7
                  have f7 := k014.f7
                  go_upto_region 20 with fail
                  clear c7 f7
                  have k015 : Bk.Blk (w14.setCell ⟨w.heap.size, 7, none⟩ (.int .i64 (max l.chg day))) w.heap.size #[.int .i64 l.id, .int .i64 l.ac, .int .i64 l.st, .int .i64 0, .int .i64 0, .int .i64 0, .int .i64 0, .int .i64 (max l.chg day), .int .i64 l.prov, .int .i64 l.loss, .int .i64 l.rcv, .int .i64 t.me, .int .i64 t.pr, .int .i64 t.ppm, .int .i64 t.stt, .int .i64 t.ev, .int .i64 t.ct, .int .i64 t.ba, .int .i64 t.mo, .int .i64 t.pen, .int .i64 t.fe, .string t.cal, .string t.cur, .slice da2 ls.length dk2, .slice a7 (l.cs.length + 1) c7] 31 := (k014.set_same (i := 7) (u := .int .i64 (max l.chg day))).conv rfl
                  clear k014
                  have kt15 : Bk.Blk (w14.setCell ⟨w.heap.size, 7, none⟩ (.int .i64 (max l.chg day))) (w.heap.size + 1) #[.int .i64 (t).me, .int .i64 (t).pr, .int .i64 (t).ppm, .int .i64 (t).stt, .int .i64 (t).ev, .int .i64 (t).ct, .int .i64 (t).ba, .int .i64 (t).mo, .int .i64 (t).pen, .int .i64 (t).fe, .string (t).cal, .string (t).cur] 23 := kt14.set_ne (by omega)
                  have kz15 : Bk.Blk (w14.setCell ⟨w.heap.size, 7, none⟩ (.int .i64 (max l.chg day))) (w.heap.size + 3) #[.int .i64 0, .int .i64 0, .int .i64 0, .int .i64 0, .int .i64 0, .int .i64 0, .int .i64 0, .int .i64 0, .int .i64 0, .int .i64 0, .int .i64 0, .int .i64 0, .int .i64 0, .int .i64 0, .int .i64 0, .int .i64 0, .int .i64 0, .int .i64 0, .int .i64 0, .int .i64 0, .int .i64 0, .string { data := #[] }, .string { data := #[] }, .slice none 0 0, .slice none 0 0] 31 := kz14.set_ne (by omega)
                  have cw15 : Below w.heap.size w (w14.setCell ⟨w.heap.size, 7, none⟩ (.int .i64 (max l.chg day))) := cw14.setCell (Nat.le_refl _) _
                  clear kt14 kz14 cw14
                  have hd15 : DuesIn (w14.setCell ⟨w.heap.size, 7, none⟩ (.int .i64 (max l.chg day))) da2 ls := dues_of_row hd14.1 (row_put hd14.row (fun ad had => by have := hf2 ad had; show ad.block ≠ w.heap.size; omega))
                  have hr15 : RowIn cenc (w14.setCell ⟨w.heap.size, 7, none⟩ (.int .i64 (max l.chg day))) a7 (l.cs ++ [(⟨day, N, l.tm⟩ : Ch)]) := row_put hr14 (fun ad had => by have := ha7 ad had; show ad.block ≠ w.heap.size; omega)
                  clear hd14 hr14
                  generalize (w14.setCell ⟨w.heap.size, 7, none⟩ (.int .i64 (max l.chg day))) = w15 at *
                  go_wp2_with (first | (refine wpList_load_row rfl 31 _ rfl _ rfl _ _ _ _ k015 Tryz.underlying31 rfl (by kernel_rfl) ?_) | (refine wpList_store_row rfl 31 _ _ rfl _ _ rfl rfl _ _ kz15 (by kernel_rfl) rfl (by simp [Value.oneCell']) ?_))
                  (try simp only [Exit.inBlock, Exit.then])
                  refine bodyPost_ret (results2_cell Tryz.results52 _ _ _ _ _ _ _ rfl (Blk_setRow_same kz15) Tryz.underlying31 rfl (by kernel_rfl)) rfl ?_
                  exact chOut_ok HE3.out HLS.out HN.out (dues_setRow hd15 (fun ad had => by have := hf2 ad had; omega)) (row_row hr15 (fun ad had => by have := ha7 ad had; omega)) ⟨fun ad had => by have := hf2 ad had; omega, fun ad had => by have := ha7 ad had; omega⟩ (Below_setRow cw15 (by omega) _)
          · have s3 : (t.cur.toList == l.tm.cur.toList) = false := beq_eq_false_iff_ne.2 (fun e => b3 (ls_inj e))
            have HF := Lib.hid (chE_3 (c := c) H1.out H2.out (bad_3 b3))
            go_wp2_with (refine wpList_store_row rfl 31 _ _ rfl _ _ rfl rfl _ _ kz (by kernel_rfl) rfl (by simp [Value.oneCell']) ?_)
            (try simp only [Exit.inBlock, Exit.then])
            refine bodyPost_ret (results2_cell Tryz.results52 _ _ _ _ _ _ _ rfl (Blk_setRow_same kz) Tryz.underlying31 rfl (by kernel_rfl)) rfl ?_
            exact chOut_no HF.out (by decide) (Below_setRow cw3 (by omega) _)
        · have s2 : (t.pr != N) = true := by simpa using b2
          have HF := Lib.hid (chE_3 (c := c) H1.out H2.out (bad_2 (fun e => b2 (e.trans HN.out.symm))))
          go_wp2_with (refine wpList_store_row rfl 31 _ _ rfl _ _ rfl rfl _ _ kz (by kernel_rfl) rfl (by simp [Value.oneCell']) ?_)
          (try simp only [Exit.inBlock, Exit.then])
          refine bodyPost_ret (results2_cell Tryz.results52 _ _ _ _ _ _ _ rfl (Blk_setRow_same kz) Tryz.underlying31 rfl (by kernel_rfl)) rfl ?_
          exact chOut_no HF.out (by decide) (Below_setRow cw3 (by omega) _)
      · have s1 : (t.stt != day) = true := by simpa using b1
        have HF := Lib.hid (chE_3 (c := c) H1.out H2.out (bad_1 b1))
        go_wp2_with (refine wpList_store_row rfl 31 _ _ rfl _ _ rfl rfl _ _ kz (by kernel_rfl) rfl (by simp [Value.oneCell']) ?_)
        (try simp only [Exit.inBlock, Exit.then])
        refine bodyPost_ret (results2_cell Tryz.results52 _ _ _ _ _ _ _ rfl (Blk_setRow_same kz) Tryz.underlying31 rfl (by kernel_rfl)) rfl ?_
        exact chOut_no HF.out (by decide) (Below_setRow cw3 (by omega) _)
end Go.Proofs.YtfiplppdmedhkaaGreatDoor.Ln
