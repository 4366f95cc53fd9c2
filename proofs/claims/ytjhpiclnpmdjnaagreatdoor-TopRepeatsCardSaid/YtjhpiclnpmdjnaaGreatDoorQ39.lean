/-
  Parts of the proof: Y21.
-/
import Derived.Test.YtjhpiclnpmdjnaaGreatDoorQ38
namespace Go.Proofs.YtjhpiclnpmdjnaaGreatDoor.Bm
open Go Go.RowKit
open Go.Proofs.YtjhpiclnpmdjnaaGreatDoor
open Go.Proofs.YtjhpiclnpmdjnaaGreatDoor.Kl (byt byt_get)
open Go.Proofs.YtjhpiclnpmdjnaaGreatDoor.Ln (yields_load_row SB tk ts z0 z1 z3 z4 z5 take_at call_at flat flat_len flat_get flat_mem RowIn OwnR Idx bl2 results2_cell Blk_setRow_same Blk_setRow_ne Below_setRow)
set_option linter.unusedSimpArgs false
set_option linter.unusedVariables false
set_option maxRecDepth 100000
set_option maxHeartbeats 64000000 in
theorem rleg26_any (B : Bo) (x : Lg) (bo : Int) (w : World) (h : BkIn w B) : Calls Tryz.prog 78 #[(.agg #[.slice (B).ua (B).us.length (B).uk, .slice (B).ka (B).kn (B).kk, .slice (B).ga (B).gs.length (B).gk, .int .i64 ((B).pl).p0, .int .i64 ((B).pl).p1, .int .i64 ((B).pl).p2, .int .i64 ((B).pl).p3, .int .i64 ((B).pl).p4, .int .i64 ((B).pl).p5, .int .i64 ((B).pl).p6, .int .i64 ((B).pl).p7, .int .i64 ((B).pl).p8, .int .i64 ((B).pl).p9, .int .i64 ((B).pl).p10, .int .i64 ((B).pl).p11, .int .i64 ((B).pl).p12, .int .i64 ((B).pl).p13, .slice (B).pa (B).ps.length (B).pk, .slice (B).aa (B).as.length (B).ak, .slice (B).ja (B).js.length (B).jk, .slice (B).ha (B).hn (B).hk, .slice (B).ba (B).bn (B).bk]), (.agg #[.int .i64 (x).ac, .int .i64 (x).am, .string (x).cu]), .int .i64 bo] w fun r w' => IsN r ∧ Below w.heap.size w w' := by
 have H1 := Lib.hid (fun (W : World) (hW : Below w.heap.size w W) => rmfind_any B.ua B.uk B.us x.cu W h.u.2.1 (h.u.1.later hW))
 have H2 := Lib.hid (fun (W : World) (hW : Below w.heap.size w W) => rcfind_any B.ga B.gk B.gs x.ac W h.g.2.1 (h.g.1.later hW))
 have H3 := Lib.hid (fun (W : World) (hW : Below w.heap.size w W) => rpar26_any B.ga B.gk B.gs x.ac W h.g.2.1 (h.g.1.later hW))
 have H4 := Lib.hid (fun (W : World) (hW : Below w.heap.size w W) => rafind_any B x.ac W h.a.2.1 (h.a.1.later hW))
 have H5 := Lib.hid (fun (nm : ByteArray) (d : Int) (W : World) (hW : Below w.heap.size w W) => rat17_any B.pa B.pk B.ps nm d W h.p.2.1 (h.p.1.later hW))
 have H6 := Lib.hid (fun (W : World) (hW : Below w.heap.size w W) => ract24_any B x.ac bo W h.a.2.1 (h.a.1.later hW))
 clear h
 have cw : Below w.heap.size w ((w.alloc (.cells #[.slice (B).ua (B).us.length (B).uk, .slice (B).ka (B).kn (B).kk, .slice (B).ga (B).gs.length (B).gk, .int .i64 ((B).pl).p0, .int .i64 ((B).pl).p1, .int .i64 ((B).pl).p2, .int .i64 ((B).pl).p3, .int .i64 ((B).pl).p4, .int .i64 ((B).pl).p5, .int .i64 ((B).pl).p6, .int .i64 ((B).pl).p7, .int .i64 ((B).pl).p8, .int .i64 ((B).pl).p9, .int .i64 ((B).pl).p10, .int .i64 ((B).pl).p11, .int .i64 ((B).pl).p12, .int .i64 ((B).pl).p13, .slice (B).pa (B).ps.length (B).pk, .slice (B).aa (B).as.length (B).ak, .slice (B).ja (B).js.length (B).jk, .slice (B).ha (B).hn (B).hk, .slice (B).ba (B).bn (B).bk] 33)).alloc (.cells #[.int .i64 (x).ac, .int .i64 (x).am, .string (x).cu] 50)) := Bk.be
 have kb : Bk.Blk ((w.alloc (.cells #[.slice (B).ua (B).us.length (B).uk, .slice (B).ka (B).kn (B).kk, .slice (B).ga (B).gs.length (B).gk, .int .i64 ((B).pl).p0, .int .i64 ((B).pl).p1, .int .i64 ((B).pl).p2, .int .i64 ((B).pl).p3, .int .i64 ((B).pl).p4, .int .i64 ((B).pl).p5, .int .i64 ((B).pl).p6, .int .i64 ((B).pl).p7, .int .i64 ((B).pl).p8, .int .i64 ((B).pl).p9, .int .i64 ((B).pl).p10, .int .i64 ((B).pl).p11, .int .i64 ((B).pl).p12, .int .i64 ((B).pl).p13, .slice (B).pa (B).ps.length (B).pk, .slice (B).aa (B).as.length (B).ak, .slice (B).ja (B).js.length (B).jk, .slice (B).ha (B).hn (B).hk, .slice (B).ba (B).bn (B).bk] 33)).alloc (.cells #[.int .i64 (x).ac, .int .i64 (x).am, .string (x).cu] 50)) w.heap.size _ 33 := Bk.Blk.nw20
 have kx : Bk.Blk ((w.alloc (.cells #[.slice (B).ua (B).us.length (B).uk, .slice (B).ka (B).kn (B).kk, .slice (B).ga (B).gs.length (B).gk, .int .i64 ((B).pl).p0, .int .i64 ((B).pl).p1, .int .i64 ((B).pl).p2, .int .i64 ((B).pl).p3, .int .i64 ((B).pl).p4, .int .i64 ((B).pl).p5, .int .i64 ((B).pl).p6, .int .i64 ((B).pl).p7, .int .i64 ((B).pl).p8, .int .i64 ((B).pl).p9, .int .i64 ((B).pl).p10, .int .i64 ((B).pl).p11, .int .i64 ((B).pl).p12, .int .i64 ((B).pl).p13, .slice (B).pa (B).ps.length (B).pk, .slice (B).aa (B).as.length (B).ak, .slice (B).ja (B).js.length (B).jk, .slice (B).ha (B).hn (B).hk, .slice (B).ba (B).bn (B).bk] 33)).alloc (.cells #[.int .i64 (x).ac, .int .i64 (x).am, .string (x).cu] 50)) (w.heap.size + 1) _ 50 := Bk.Blk.nw21
 go_enter Tryz.func78, Tryz.ntmps78
 go_upto_region 1 with fail
 generalize ((w.alloc (.cells _ 33)).alloc (.cells _ 50)) = w1 at *
 have b0 := kb.c0
 have x2 := kx.c2
 go_wp2_with fail
 refine (H1.out _ cw).mono ?_
 rintro r w2 ⟨⟨u, kn, rfl⟩, hb0⟩
 have hbw2 := bl2 hb0 cw
 replace kb := kb.later hb0
 replace kx := kx.later hb0
 clear hb0 cw
 clear b0 x2
 go_upto_region 2 with ((refine wpList_store_row rfl 62 _ _ rfl _ _ rfl rfl _ _ (Bk.Blk.nw10) (by kernel_rfl) rfl (by simp [Value.oneCell']) ?_))
 have cx : Below w2.heap.size w2 ((w2.alloc (.cells #[.string { data := #[] }, .int .i64 0] 62)).setRow w2.heap.size #[.string (u).cd, .int .i64 (u).dg]) := Below_setRow ((Below.refl _ _).alloc (Nat.le_refl _) _) (Nat.le_refl _) _
 have ku : Bk.Blk ((w2.alloc (.cells #[.string { data := #[] }, .int .i64 0] 62)).setRow w2.heap.size #[.string (u).cd, .int .i64 (u).dg]) w2.heap.size #[.string (u).cd, .int .i64 (u).dg] 62 := Blk_setRow_same Bk.Blk.nw10
 have c3 := bl2 cx hbw2
 replace kb := kb.later cx
 replace kx := kx.later cx
 clear cx hbw2
 (try simp only [Act.put])
 generalize ((w2.alloc (.cells #[.string { data := #[] }, .int .i64 0] 62)).setRow w2.heap.size #[.string (u).cd, .int .i64 (u).dg]) = w3 at *
 generalize w2.heap.size = gw3 at *
 clear ku
 have x0 := kx.c0
 have b2 := kb.c2
 by_cases h1 : x.ac < 1000
 ·go_wp2_with fail
  refine (H2.out _ c3).mono ?_
  rintro r w4 ⟨⟨g, q, rfl⟩, hb0⟩
  have hbw4 := bl2 hb0 c3
  replace kb := kb.later hb0
  replace kx := kx.later hb0
  clear hb0 c3
  clear x0 b2 h1
  go_upto_region 4 with ((refine wpList_store_row rfl 64 _ _ rfl _ _ rfl rfl _ _ (Bk.Blk.nw10) (by kernel_rfl) rfl (by simp [Value.oneCell']) ?_))
  have cx : Below w4.heap.size w4 ((w4.alloc (.cells #[.int .i64 0, .int .i64 0, .int .i64 0, .string { data := #[] }] 64)).setRow w4.heap.size #[.int .i64 (g).id, .int .i64 (g).pa, .int .i64 (g).ki, .string (g).nm]) := Below_setRow ((Below.refl _ _).alloc (Nat.le_refl _) _) (Nat.le_refl _) _
  have kg : Bk.Blk ((w4.alloc (.cells #[.int .i64 0, .int .i64 0, .int .i64 0, .string { data := #[] }] 64)).setRow w4.heap.size #[.int .i64 (g).id, .int .i64 (g).pa, .int .i64 (g).ki, .string (g).nm]) w4.heap.size _ 64 := Blk_setRow_same Bk.Blk.nw10
  have c5 := bl2 cx hbw4
  replace kb := kb.later cx
  replace kx := kx.later cx
  clear cx hbw4
  (try simp only [Act.put])
  generalize ((w4.alloc (.cells _ 64)).setRow w4.heap.size _) = w5 at *
  generalize w4.heap.size = gw5 at *
  clear kg
  have x0 := kx.c0
  have b2 := kb.c2
  cases q
  ·go_wp2_with fail
   (go_ret; exact ⟨⟨_, rfl⟩, c5⟩)
  go_wp2_with fail
  refine (H3.out _ c5).mono ?_
  rintro r w' ⟨⟨q, rfl⟩, rfl⟩
  cases q
  all_goals cases kn
  all_goals go_wp2_with fail
  all_goals (go_ret; exact ⟨⟨_, rfl⟩, c5⟩)
 ·go_wp2_with ((refine wpList_load_row rfl 33 _ rfl _ rfl _ _ _ _ (kb) Tryz.underlying33 rfl (by kernel_rfl) ?_))
  refine (H4.out _ c3).mono ?_
  rintro r w4 ⟨⟨a, q, rfl⟩, hb0⟩
  have hbw4 := bl2 hb0 c3
  replace kb := kb.later hb0
  replace kx := kx.later hb0
  clear hb0 c3
  clear x0 b2 h1
  go_upto_region 10 with ((refine wpList_store_row rfl 76 _ _ rfl _ _ rfl rfl _ _ (Bk.Blk.nw10) (by kernel_rfl) rfl (by simp [Value.oneCell']) ?_))
  have cx : Below w4.heap.size w4 ((w4.alloc (.cells #[.int .i64 0, .int .i64 0, .int .i64 0, .int .i64 0, .string { data := #[] }, .string { data := #[] }, .string { data := #[] }] 76)).setRow w4.heap.size #[.int .i64 (a).id, .int .i64 (a).op, .int .i64 (a).cl, .int .i64 (a).ex, .string (a).ow, .string (a).pr, .string (a).nu]) := Below_setRow ((Below.refl _ _).alloc (Nat.le_refl _) _) (Nat.le_refl _) _
  have ka : Bk.Blk ((w4.alloc (.cells #[.int .i64 0, .int .i64 0, .int .i64 0, .int .i64 0, .string { data := #[] }, .string { data := #[] }, .string { data := #[] }] 76)).setRow w4.heap.size #[.int .i64 (a).id, .int .i64 (a).op, .int .i64 (a).cl, .int .i64 (a).ex, .string (a).ow, .string (a).pr, .string (a).nu]) w4.heap.size _ 76 := Blk_setRow_same Bk.Blk.nw10
  have c5 := bl2 cx hbw4
  replace kb := kb.later cx
  replace kx := kx.later cx
  clear cx hbw4
  (try simp only [Act.put])
  generalize ((w4.alloc (.cells _ 76)).setRow w4.heap.size _) = w5 at *
  generalize w4.heap.size = gw5 at *
  cases q
  ·go_wp2_with fail
   (go_ret; exact ⟨⟨_, rfl⟩, c5⟩)
  have b17 := kb.c17
  have a5 := ka.c5
  have a1 := ka.c1
  go_wp2_with fail
  refine (H5.out _ _ _ c5).mono ?_
  rintro r w6 ⟨⟨p, q, rfl⟩, hb0⟩
  have hbw6 := bl2 hb0 c5
  replace kb := kb.later hb0
  replace kx := kx.later hb0
  clear hb0 c5
  clear b17 a5 a1 ka
  go_upto_region 13 with ((refine wpList_store_row rfl 73 _ _ rfl _ _ rfl rfl _ _ (Bk.Blk.nw10) (by kernel_rfl) rfl (by simp [Value.oneCell']) ?_))
  have cx : Below w6.heap.size w6 ((w6.alloc (.cells #[.string { data := #[] }, .string { data := #[] }, .string { data := #[] }, .int .i64 0, .int .i64 0, .int .i64 0, .int .i64 0, .slice none 0 0, .bool false, .int .i64 0, .int .i64 0, .bool false, .slice none 0 0, .bool false, .int .i64 0, .int .i64 0, .bool false, .slice none 0 0, .slice none 0 0] 73)).setRow w6.heap.size #[.string (p).nm, .string (p).cu, .string (p).ca, .int .i64 (p).fr, .int .i64 (p).ev, .int .i64 (p).ov, .int .i64 (p).tx, .slice ((p).ci).ta ((p).ci).tn ((p).ci).tk, .bool ((p).ci).mg, .int .i64 ((p).ci).ba, .int .i64 ((p).ci).mo, .bool ((p).ci).kp, .slice ((p).di).ta ((p).di).tn ((p).di).tk, .bool ((p).di).mg, .int .i64 ((p).di).ba, .int .i64 ((p).di).mo, .bool ((p).di).kp, .slice (p).fa (p).fn (p).fk, .slice (p).ra (p).rn (p).rk]) := Below_setRow ((Below.refl _ _).alloc (Nat.le_refl _) _) (Nat.le_refl _) _
  have kp : Bk.Blk ((w6.alloc (.cells #[.string { data := #[] }, .string { data := #[] }, .string { data := #[] }, .int .i64 0, .int .i64 0, .int .i64 0, .int .i64 0, .slice none 0 0, .bool false, .int .i64 0, .int .i64 0, .bool false, .slice none 0 0, .bool false, .int .i64 0, .int .i64 0, .bool false, .slice none 0 0, .slice none 0 0] 73)).setRow w6.heap.size #[.string (p).nm, .string (p).cu, .string (p).ca, .int .i64 (p).fr, .int .i64 (p).ev, .int .i64 (p).ov, .int .i64 (p).tx, .slice ((p).ci).ta ((p).ci).tn ((p).ci).tk, .bool ((p).ci).mg, .int .i64 ((p).ci).ba, .int .i64 ((p).ci).mo, .bool ((p).ci).kp, .slice ((p).di).ta ((p).di).tn ((p).di).tk, .bool ((p).di).mg, .int .i64 ((p).di).ba, .int .i64 ((p).di).mo, .bool ((p).di).kp, .slice (p).fa (p).fn (p).fk, .slice (p).ra (p).rn (p).rk]) w6.heap.size _ 73 := Blk_setRow_same Bk.Blk.nw10
  have c7 := bl2 cx hbw6
  replace kb := kb.later cx
  replace kx := kx.later cx
  clear cx hbw6
  (try simp only [Act.put])
  generalize ((w6.alloc (.cells _ 73)).setRow w6.heap.size _) = w7 at *
  generalize w6.heap.size = gw7 at *
  cases kn
  ·go_wp2_with fail
   (go_ret; exact ⟨⟨_, rfl⟩, c7⟩)
  cases q
  ·go_wp2_with fail
   (go_ret; exact ⟨⟨_, rfl⟩, c7⟩)
  have p1 := kp.c1
  have x2 := kx.c2
  cases bq : (p.cu.toList == x.cu.toList)
  ·have bq' : (p.cu.toList != x.cu.toList) = true := by show (!(p.cu.toList == x.cu.toList)) = true; rw [bq]; rfl
   go_wp2_with fail
   (go_ret; exact ⟨⟨_, rfl⟩, c7⟩)
  ·have bq' : (p.cu.toList != x.cu.toList) = false := by show (!(p.cu.toList == x.cu.toList)) = false; rw [bq]; rfl
   have x0 := kx.c0
   go_wp2_with ((refine wpList_load_row rfl 33 _ rfl _ rfl _ _ _ _ (kb) Tryz.underlying33 rfl (by kernel_rfl) ?_))
   refine (H6.out _ c7).mono ?_
   rintro r w8 ⟨⟨q, rfl⟩, hb⟩
   have c8 := bl2 hb c7
   clear hb bq bq' x0 x2 p1
   cases q
   all_goals go_wp2_with fail
   all_goals (go_ret; exact ⟨⟨_, rfl⟩, c8⟩)
def L26R (w : World) (B : Bo) (e : En) (g : Nat) (s : Value) (W : World) : Prop := ∃ k : Nat, k + g = e.lg.length ∧ s = .int .i64 k ∧ Bk.Blk W w.heap.size #[.slice (B).ua (B).us.length (B).uk, .slice (B).ka (B).kn (B).kk, .slice (B).ga (B).gs.length (B).gk, .int .i64 ((B).pl).p0, .int .i64 ((B).pl).p1, .int .i64 ((B).pl).p2, .int .i64 ((B).pl).p3, .int .i64 ((B).pl).p4, .int .i64 ((B).pl).p5, .int .i64 ((B).pl).p6, .int .i64 ((B).pl).p7, .int .i64 ((B).pl).p8, .int .i64 ((B).pl).p9, .int .i64 ((B).pl).p10, .int .i64 ((B).pl).p11, .int .i64 ((B).pl).p12, .int .i64 ((B).pl).p13, .slice (B).pa (B).ps.length (B).pk, .slice (B).aa (B).as.length (B).ak, .slice (B).ja (B).js.length (B).jk, .slice (B).ha (B).hn (B).hk, .slice (B).ba (B).bn (B).bk] 33 ∧ Bk.Blk W (w.heap.size + 1) #[.int .i64 (e).id, .int .i64 (e).bo, .int .i64 (e).va, .int .i64 (e).ki, .int .i64 (e).au, .int .i64 (e).pe, .string (e).ke, .string (e).tx, .slice (e).la (e).lg.length (e).lk, .int .u64 (e).ch] 39 ∧ Below w.heap.size w W
set_option maxHeartbeats 64000000 in
theorem rlegs26_any (B : Bo) (e : En) (w : World) (h : BkIn w B) (he : EnIn w e) : Calls Tryz.prog 41 #[(.agg #[.slice (B).ua (B).us.length (B).uk, .slice (B).ka (B).kn (B).kk, .slice (B).ga (B).gs.length (B).gk, .int .i64 ((B).pl).p0, .int .i64 ((B).pl).p1, .int .i64 ((B).pl).p2, .int .i64 ((B).pl).p3, .int .i64 ((B).pl).p4, .int .i64 ((B).pl).p5, .int .i64 ((B).pl).p6, .int .i64 ((B).pl).p7, .int .i64 ((B).pl).p8, .int .i64 ((B).pl).p9, .int .i64 ((B).pl).p10, .int .i64 ((B).pl).p11, .int .i64 ((B).pl).p12, .int .i64 ((B).pl).p13, .slice (B).pa (B).ps.length (B).pk, .slice (B).aa (B).as.length (B).ak, .slice (B).ja (B).js.length (B).jk, .slice (B).ha (B).hn (B).hk, .slice (B).ba (B).bn (B).bk]), (.agg #[.int .i64 (e).id, .int .i64 (e).bo, .int .i64 (e).va, .int .i64 (e).ki, .int .i64 (e).au, .int .i64 (e).pe, .string (e).ke, .string (e).tx, .slice (e).la (e).lg.length (e).lk, .int .u64 (e).ch])] w fun r w' => IsN r ∧ Below w.heap.size w w' := by
 have HLG := Lib.hid (fun (x : Lg) (W : World) (hW : Below w.heap.size w W) => rleg26_any B x e.bo W (h.later hW))
 have HR := Lib.hid he.l
 have hml : e.lg.length ≤ 9223372036854775807 := by have := he.m.2.2.1; unfold maxLen at this; omega
 clear h he
 have cw : Below w.heap.size w ((w.alloc (.cells #[.slice (B).ua (B).us.length (B).uk, .slice (B).ka (B).kn (B).kk, .slice (B).ga (B).gs.length (B).gk, .int .i64 ((B).pl).p0, .int .i64 ((B).pl).p1, .int .i64 ((B).pl).p2, .int .i64 ((B).pl).p3, .int .i64 ((B).pl).p4, .int .i64 ((B).pl).p5, .int .i64 ((B).pl).p6, .int .i64 ((B).pl).p7, .int .i64 ((B).pl).p8, .int .i64 ((B).pl).p9, .int .i64 ((B).pl).p10, .int .i64 ((B).pl).p11, .int .i64 ((B).pl).p12, .int .i64 ((B).pl).p13, .slice (B).pa (B).ps.length (B).pk, .slice (B).aa (B).as.length (B).ak, .slice (B).ja (B).js.length (B).jk, .slice (B).ha (B).hn (B).hk, .slice (B).ba (B).bn (B).bk] 33)).alloc (.cells #[.int .i64 (e).id, .int .i64 (e).bo, .int .i64 (e).va, .int .i64 (e).ki, .int .i64 (e).au, .int .i64 (e).pe, .string (e).ke, .string (e).tx, .slice (e).la (e).lg.length (e).lk, .int .u64 (e).ch] 39)) := Bk.be
 have kb : Bk.Blk ((w.alloc (.cells #[.slice (B).ua (B).us.length (B).uk, .slice (B).ka (B).kn (B).kk, .slice (B).ga (B).gs.length (B).gk, .int .i64 ((B).pl).p0, .int .i64 ((B).pl).p1, .int .i64 ((B).pl).p2, .int .i64 ((B).pl).p3, .int .i64 ((B).pl).p4, .int .i64 ((B).pl).p5, .int .i64 ((B).pl).p6, .int .i64 ((B).pl).p7, .int .i64 ((B).pl).p8, .int .i64 ((B).pl).p9, .int .i64 ((B).pl).p10, .int .i64 ((B).pl).p11, .int .i64 ((B).pl).p12, .int .i64 ((B).pl).p13, .slice (B).pa (B).ps.length (B).pk, .slice (B).aa (B).as.length (B).ak, .slice (B).ja (B).js.length (B).jk, .slice (B).ha (B).hn (B).hk, .slice (B).ba (B).bn (B).bk] 33)).alloc (.cells #[.int .i64 (e).id, .int .i64 (e).bo, .int .i64 (e).va, .int .i64 (e).ki, .int .i64 (e).au, .int .i64 (e).pe, .string (e).ke, .string (e).tx, .slice (e).la (e).lg.length (e).lk, .int .u64 (e).ch] 39)) w.heap.size _ 33 := Bk.Blk.nw20
 have ke : Bk.Blk ((w.alloc (.cells #[.slice (B).ua (B).us.length (B).uk, .slice (B).ka (B).kn (B).kk, .slice (B).ga (B).gs.length (B).gk, .int .i64 ((B).pl).p0, .int .i64 ((B).pl).p1, .int .i64 ((B).pl).p2, .int .i64 ((B).pl).p3, .int .i64 ((B).pl).p4, .int .i64 ((B).pl).p5, .int .i64 ((B).pl).p6, .int .i64 ((B).pl).p7, .int .i64 ((B).pl).p8, .int .i64 ((B).pl).p9, .int .i64 ((B).pl).p10, .int .i64 ((B).pl).p11, .int .i64 ((B).pl).p12, .int .i64 ((B).pl).p13, .slice (B).pa (B).ps.length (B).pk, .slice (B).aa (B).as.length (B).ak, .slice (B).ja (B).js.length (B).jk, .slice (B).ha (B).hn (B).hk, .slice (B).ba (B).bn (B).bk] 33)).alloc (.cells #[.int .i64 (e).id, .int .i64 (e).bo, .int .i64 (e).va, .int .i64 (e).ki, .int .i64 (e).au, .int .i64 (e).pe, .string (e).ke, .string (e).tx, .slice (e).la (e).lg.length (e).lk, .int .u64 (e).ch] 39)) (w.heap.size + 1) _ 39 := Bk.Blk.nw21
 go_enter Tryz.func41, Tryz.ntmps41
 go_upto_region 1 with fail
 generalize ((w.alloc (.cells _ 33)).alloc (.cells _ 39)) = w1 at *
 go_wp2_with fail
 go_loopg [5] e.lg.length (L26R w B e)
 case atStart => exact ⟨0, by omega, rfl, kb, ke, cw⟩
 case round =>
  clear kb ke cw
  obtain ⟨k, hk, rfl, kb, ke, hbr⟩ := hrel
  have e8 := ke.c8
  by_cases hlt : k < e.lg.length
  ·obtain ⟨b, off, ha, hc⟩ := rowat lgenc_len HR.out (by omega)
   have hm1 := range_later hbr (hc k hlt)
   clear hc
   obtain ⟨d, hd⟩ : ∃ d, d = e.lg[k]! := ⟨_, rfl⟩
   rw [← hd] at hm1
   have HAA := Lib.hid ha
   clear hd ha
   go_upto_region 4 with fail
   clear e8
   have hS0 : SB wr wr.drew := (Below.refl _ _).drew
   refine wp_region_held_drew (S := SB wr) (by kernel_rfl) hS0 (fun hS => ?_)
   clear hS0
   refine take_at 0 (by decide) (by kernel_rfl) (by kernel_rfl) (by kernel_rfl) (fun _ _ _ h => h) hS (yields_load_row (by rfl) 33 (.tmp 2) rfl w.heap.size rfl _ _ _ _ (fun W hW => kb.later hW) Tryz.underlying33 rfl (by kernel_rfl)) ?_
   simp only [z0, z1, Act.put, z3, z4, z5]
   refine tk 1 (by decide) ?_ hS (by kernel_rfl) (by kernel_rfl) (by kernel_rfl) (by rfl) (fun _ _ _ h => h) ?_ ?_
   rotate_left
   ·intro W hW
    clear hW
    simp only [z0, z1]
    go_simp
    first | done | with_reducible rfl
   simp only [z0, z1, Act.put, z3, z4, z5]
   refine tk 2 (by decide) ?_ hS (by kernel_rfl) (by kernel_rfl) (by kernel_rfl) (by rfl) (fun _ _ _ h => h) ?_ ?_
   rotate_left
   ·intro W hW
    have q8 := (ke.later hW).c8; rw [HAA.out] at q8; have q1 := (ke.later hW).c1
    clear hW
    simp only [z0, z1]
    go_simp
    first | done | with_reducible rfl
   simp only [z0, z1, Act.put, z3, z4, z5]
   refine tk 3 (by decide) ?_ hS (by kernel_rfl) (by kernel_rfl) (by kernel_rfl) (by rfl) (fun _ _ _ h => h) ?_ ?_
   rotate_left
   ·intro W hW
    clear hW
    simp only [z0, z1]
    go_simp
    first | done | with_reducible rfl
   simp only [z0, z1, Act.put, z3, z4, z5]
   refine tk 4 (by decide) ?_ hS (by kernel_rfl) (by kernel_rfl) (by kernel_rfl) (by rfl) (fun _ _ _ h => h) ?_ ?_
   rotate_left
   ·intro W hW
    clear hW
    simp only [z0, z1]
    go_simp
    first | done | with_reducible rfl
   simp only [z0, z1, Act.put, z3, z4, z5]
   refine take_at 5 (by decide) (by kernel_rfl) (by kernel_rfl) (by kernel_rfl) (fun _ _ _ h => h) hS (yieldsIf_load_mid (by rfl) 50 (.tmp 18) rfl _ _ rfl [.int .i64 (d).ac, .int .i64 (d).am, .string (d).cu] _ (fun W hW => range_later hW hm1) Tryz.underlying50 rfl (by kernel_rfl)) ?_
   simp only [z0, z1, Act.put, z3, z4, z5]
   refine tk 6 (by decide) ?_ hS (by kernel_rfl) (by kernel_rfl) (by kernel_rfl) (by rfl) (fun _ _ _ h => h) ?_ ?_
   rotate_left
   ·intro W hW
    clear hW
    simp only [z0, z1]
    go_simp
    first | done | with_reducible rfl
   simp only [z0, z1, Act.put, z3, z4, z5]
   refine tk 7 (by decide) ?_ hS (by kernel_rfl) (by kernel_rfl) (by kernel_rfl) (by rfl) (fun _ _ _ h => h) ?_ ?_
   rotate_left
   ·intro W hW
    have q8 := (ke.later hW).c8; rw [HAA.out] at q8; have q1 := (ke.later hW).c1
    clear hW
    simp only [z0, z1]
    go_simp
    first | done | with_reducible rfl
   simp only [z0, z1, Act.put, z3, z4, z5]
   refine call_at 8 (by decide) (Pi := fun v _ => ∃ q : Int, v = .int .i64 q) (by kernel_rfl) (by rfl) (by simp only [z0, z1]; go_simp; first | done | rfl | exact ⟨rfl, rfl⟩ | exact ⟨rfl, rfl, rfl⟩ | exact ⟨rfl, rfl, rfl, rfl⟩) (call_isn hS (HLG.out d _ (bl2 hS hbr))) ?_
   clear hS
   rintro w9 u hS ⟨n, rfl⟩
   simp only [z0, z1, Act.put, z3, z4, z5]
   refine tk 9 (by decide) ?_ hS (by kernel_rfl) (by kernel_rfl) (by kernel_rfl) (by rfl) (fun _ _ _ h => h) ?_ ?_
   rotate_left
   ·intro W hW
    clear hW
    simp only [z0, z1]
    go_simp
    first | done | with_reducible rfl
   simp only [z0, z1, Act.put, z3, z4, z5]
   refine wpAnyH_done (by kernel_rfl) ?_ _
   have c9 := bl2 hS hbr
   replace kb := kb.later hS
   replace ke := ke.later hS
   clear hS hbr hm1
   by_cases h0 : n = 0
   ·have g0 : (n != 0) = false := by rw [h0]; rfl
    clear h0
    go_wp2_with fail
    go_roundg (gk - 1)
    case measure => omega
    case rel => exact ⟨k + 1, by omega, by go_num, kb, ke, c9⟩
   ·have g0 : (n != 0) = true := bne_iff_ne.2 h0
    clear h0
    go_wp2_with fail
    (go_ret; exact ⟨⟨_, rfl⟩, c9⟩)
  ·go_wp2_with fail
   (go_ret; exact ⟨⟨_, rfl⟩, hbr⟩)
set_option maxHeartbeats 64000000 in
theorem rents26_any (B : Bo) (w : World) (h : BkIn w B) (hn : B.js.length ≤ 100000) : Calls Tryz.prog 18 #[(.agg #[.slice (B).ua (B).us.length (B).uk, .slice (B).ka (B).kn (B).kk, .slice (B).ga (B).gs.length (B).gk, .int .i64 ((B).pl).p0, .int .i64 ((B).pl).p1, .int .i64 ((B).pl).p2, .int .i64 ((B).pl).p3, .int .i64 ((B).pl).p4, .int .i64 ((B).pl).p5, .int .i64 ((B).pl).p6, .int .i64 ((B).pl).p7, .int .i64 ((B).pl).p8, .int .i64 ((B).pl).p9, .int .i64 ((B).pl).p10, .int .i64 ((B).pl).p11, .int .i64 ((B).pl).p12, .int .i64 ((B).pl).p13, .slice (B).pa (B).ps.length (B).pk, .slice (B).aa (B).as.length (B).ak, .slice (B).ja (B).js.length (B).jk, .slice (B).ha (B).hn (B).hk, .slice (B).ba (B).bn (B).bk])] w fun r w' => IsN r ∧ Below w.heap.size w w' := by
 have HLG := Lib.hid (fun (e : En) (he : EnIn w e) (W : World) (hW : Below w.heap.size w W) => rlegs26_any B e W (h.later hW) (he.later hW))
 have HVR := Lib.hid (fun (W : World) (hW : Below w.heap.size w W) => rverify20_any B.ja B.jk B.js W hn h.c.2.1 (h.j.1.later hW) (fun x hx => (h.j.2.2 x hx).later hW))
 have HR := Lib.hid h.j.1
 have HE := Lib.hid h.j.2.2
 clear h
 have cw : Below w.heap.size w (w.alloc (.cells #[.slice (B).ua (B).us.length (B).uk, .slice (B).ka (B).kn (B).kk, .slice (B).ga (B).gs.length (B).gk, .int .i64 ((B).pl).p0, .int .i64 ((B).pl).p1, .int .i64 ((B).pl).p2, .int .i64 ((B).pl).p3, .int .i64 ((B).pl).p4, .int .i64 ((B).pl).p5, .int .i64 ((B).pl).p6, .int .i64 ((B).pl).p7, .int .i64 ((B).pl).p8, .int .i64 ((B).pl).p9, .int .i64 ((B).pl).p10, .int .i64 ((B).pl).p11, .int .i64 ((B).pl).p12, .int .i64 ((B).pl).p13, .slice (B).pa (B).ps.length (B).pk, .slice (B).aa (B).as.length (B).ak, .slice (B).ja (B).js.length (B).jk, .slice (B).ha (B).hn (B).hk, .slice (B).ba (B).bn (B).bk] 33)) := Bk.be
 have kb : Bk.Blk (w.alloc (.cells #[.slice (B).ua (B).us.length (B).uk, .slice (B).ka (B).kn (B).kk, .slice (B).ga (B).gs.length (B).gk, .int .i64 ((B).pl).p0, .int .i64 ((B).pl).p1, .int .i64 ((B).pl).p2, .int .i64 ((B).pl).p3, .int .i64 ((B).pl).p4, .int .i64 ((B).pl).p5, .int .i64 ((B).pl).p6, .int .i64 ((B).pl).p7, .int .i64 ((B).pl).p8, .int .i64 ((B).pl).p9, .int .i64 ((B).pl).p10, .int .i64 ((B).pl).p11, .int .i64 ((B).pl).p12, .int .i64 ((B).pl).p13, .slice (B).pa (B).ps.length (B).pk, .slice (B).aa (B).as.length (B).ak, .slice (B).ja (B).js.length (B).jk, .slice (B).ha (B).hn (B).hk, .slice (B).ba (B).bn (B).bk] 33)) w.heap.size _ 33 := Bk.Blk.nw10
 go_enter Tryz.func18, Tryz.ntmps18
 go_upto_region 1 with fail
 generalize (w.alloc (.cells _ 33)) = w1 at *
 have b19 := kb.c19
 go_wp2_with fail
 refine (HVR.out _ cw).mono ?_
 rintro r w2 ⟨⟨n, rfl⟩, hb⟩
 have c2 := bl2 hb cw
 replace kb := kb.later hb
 clear hb cw b19
 by_cases h0 : n = -1
 rotate_left
 ·have g0 : (n != -1) = true := bne_iff_ne.2 h0
  clear h0
  go_wp2_with fail
  (go_ret; exact ⟨⟨_, rfl⟩, c2⟩)
 have g0 : (n != -1) = false := by rw [h0]; rfl
 clear h0
 go_wp2_with fail
 clear g0
 go_loopg [3] B.js.length (CkR w B B.js.length)
 case atStart => exact ⟨0, by omega, rfl, kb, c2⟩
 case round =>
  clear kb c2
  obtain ⟨k, hk, rfl, kb, hbr⟩ := hrel
  have b19 := kb.c19
  by_cases hlt : k < B.js.length
  ·obtain ⟨b, off, ha, hc⟩ := rowat enenc_len HR.out (by omega)
   have hm1 := range_later hbr (hc k hlt)
   have hed := HE.out B.js[k]! (by rw [getElem!_pos B.js k hlt]; exact List.getElem_mem hlt)
   clear hc
   obtain ⟨d, hd⟩ : ∃ d, d = B.js[k]! := ⟨_, rfl⟩
   rw [← hd] at hm1 hed
   have HAA := Lib.hid ha
   have HED := Lib.hid hed
   clear hd ha hed
   go_upto_region 6 with fail
   clear b19
   have hS0 : SB wr wr.drew := (Below.refl _ _).drew
   refine wp_region_held_drew (S := SB wr) (by kernel_rfl) hS0 (fun hS => ?_)
   clear hS0
   refine take_at 0 (by decide) (by kernel_rfl) (by kernel_rfl) (by kernel_rfl) (fun _ _ _ h => h) hS (yields_load_row (by rfl) 33 (.tmp 1) rfl w.heap.size rfl _ _ _ _ (fun W hW => kb.later hW) Tryz.underlying33 rfl (by kernel_rfl)) ?_
   simp only [z0, z1, Act.put, z3, z4, z5]
   refine tk 1 (by decide) ?_ hS (by kernel_rfl) (by kernel_rfl) (by kernel_rfl) (by rfl) (fun _ _ _ h => h) ?_ ?_
   rotate_left
   ·intro W hW
    clear hW
    simp only [z0, z1]
    go_simp
    first | done | with_reducible rfl
   simp only [z0, z1, Act.put, z3, z4, z5]
   refine tk 2 (by decide) ?_ hS (by kernel_rfl) (by kernel_rfl) (by kernel_rfl) (by rfl) (fun _ _ _ h => h) ?_ ?_
   rotate_left
   ·intro W hW
    have q19 := (kb.later hW).c19; rw [HAA.out] at q19
    clear hW
    simp only [z0, z1]
    go_simp
    first | done | with_reducible rfl
   simp only [z0, z1, Act.put, z3, z4, z5]
   refine tk 3 (by decide) ?_ hS (by kernel_rfl) (by kernel_rfl) (by kernel_rfl) (by rfl) (fun _ _ _ h => h) ?_ ?_
   rotate_left
   ·intro W hW
    clear hW
    simp only [z0, z1]
    go_simp
    first | done | with_reducible rfl
   simp only [z0, z1, Act.put, z3, z4, z5]
   refine tk 4 (by decide) ?_ hS (by kernel_rfl) (by kernel_rfl) (by kernel_rfl) (by rfl) (fun _ _ _ h => h) ?_ ?_
   rotate_left
   ·intro W hW
    clear hW
    simp only [z0, z1]
    go_simp
    first | done | with_reducible rfl
   simp only [z0, z1, Act.put, z3, z4, z5]
   refine take_at 5 (by decide) (by kernel_rfl) (by kernel_rfl) (by kernel_rfl) (fun _ _ _ h => h) hS (yieldsIf_load_mid (by rfl) 39 (.tmp 19) rfl _ _ rfl [.int .i64 (d).id, .int .i64 (d).bo, .int .i64 (d).va, .int .i64 (d).ki, .int .i64 (d).au, .int .i64 (d).pe, .string (d).ke, .string (d).tx, .slice (d).la (d).lg.length (d).lk, .int .u64 (d).ch] _ (fun W hW => range_later hW hm1) Tryz.underlying39 rfl (by kernel_rfl)) ?_
   simp only [z0, z1, Act.put, z3, z4, z5]
   refine call_at 6 (by decide) (Pi := fun v _ => ∃ q : Int, v = .int .i64 q) (by kernel_rfl) (by rfl) (by simp only [z0, z1]; go_simp; first | done | rfl | exact ⟨rfl, rfl⟩ | exact ⟨rfl, rfl, rfl⟩ | exact ⟨rfl, rfl, rfl, rfl⟩) (call_isn hS (HLG.out d HED.out _ (bl2 hS hbr))) ?_
   clear hS
   rintro w9 u hS ⟨n, rfl⟩
   simp only [z0, z1, Act.put, z3, z4, z5]
   refine tk 7 (by decide) ?_ hS (by kernel_rfl) (by kernel_rfl) (by kernel_rfl) (by rfl) (fun _ _ _ h => h) ?_ ?_
   rotate_left
   ·intro W hW
    clear hW
    simp only [z0, z1]
    go_simp
    first | done | with_reducible rfl
   simp only [z0, z1, Act.put, z3, z4, z5]
   refine wpAnyH_done (by kernel_rfl) ?_ _
   have c9 := bl2 hS hbr
   replace kb := kb.later hS
   clear hS hbr hm1
   by_cases h0 : n = 0
   ·have g0 : (n != 0) = false := by rw [h0]; rfl
    clear h0
    go_wp2_with fail
    go_roundg (gk - 1)
    case measure => omega
    case rel => exact ⟨k + 1, by omega, by go_num, kb, c9⟩
   ·have g0 : (n != 0) = true := bne_iff_ne.2 h0
    clear h0
    go_wp2_with fail
    (go_ret; exact ⟨⟨_, rfl⟩, c9⟩)
  ·go_wp2_with fail
   (go_ret; exact ⟨⟨_, rfl⟩, hbr⟩)
end Go.Proofs.YtjhpiclnpmdjnaaGreatDoor.Bm
