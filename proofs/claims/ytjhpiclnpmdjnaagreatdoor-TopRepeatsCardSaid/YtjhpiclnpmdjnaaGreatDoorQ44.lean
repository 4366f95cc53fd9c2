/-
  Parts of the proof: Y24.
-/
import Derived.Test.YtjhpiclnpmdjnaaGreatDoorQ41
import Derived.Test.YtjhpiclnpmdjnaaGreatDoorQ25
import Derived.Test.YtjhpiclnpmdjnaaGreatDoorQ43
namespace Go.Proofs.YtjhpiclnpmdjnaaGreatDoor.Bm
open Go Go.RowKit
open Go.Proofs.YtjhpiclnpmdjnaaGreatDoor
open Go.Proofs.YtjhpiclnpmdjnaaGreatDoor.Kl (byt byt_get)
open Go.Proofs.YtjhpiclnpmdjnaaGreatDoor.Ln (SB tk ts z0 z1 z3 z4 z5 take_at call_at flat flat_len flat_get flat_mem RowIn OwnR Idx bl2 results2_cell Blk_setRow_same Blk_setRow_ne Below_setRow)
open Go.Proofs.YtjhpiclnpmdjnaaGreatDoor.Sr (GV ienc ienc_len)
set_option linter.unusedSimpArgs false
set_option linter.unusedVariables false
set_option maxRecDepth 100000
theorem gv_setCell {α : Type} {enc : α → List Value} {k : Nat} {T : TypeId} {W : World} {B : Nat} {v : Value} {xs : List α} {p : Addr} {u : Value} (h : GV enc k T W B v xs) (hg : ∀ j, v.ownBlock = some j → p.block ≠ j) : GV enc k T (W.setCell p u) B v xs := by
 obtain ⟨⟨hl, ho⟩, hs⟩ := h
 refine ⟨⟨hl, ?_⟩, hs⟩
 rcases ho with ho | ⟨g', cap, cur, rfl, h2, h3, h4⟩
 ·exact .inl ho
 ·exact .inr ⟨g', cap, cur, rfl, h2, (Below.heap_setCell _ _ _ _ (fun e => hg g' rfl e.symm)).trans h3, h4⟩
def TrR (w : World) (B : Bo) (l : List En) (g : Nat) (s5 s6 : Value) (W : World) : Prop := ∃ k : Nat, k + g = l.length ∧ s6 = .int .i64 k ∧ EV W (w.heap.size + 1) s5 ((l.take k).map En.rul) ∧ Bk.Blk W w.heap.size #[.slice (B).ua (B).us.length (B).uk, .slice (B).ka (B).kn (B).kk, .slice (B).ga (B).gs.length (B).gk, .int .i64 ((B).pl).p0, .int .i64 ((B).pl).p1, .int .i64 ((B).pl).p2, .int .i64 ((B).pl).p3, .int .i64 ((B).pl).p4, .int .i64 ((B).pl).p5, .int .i64 ((B).pl).p6, .int .i64 ((B).pl).p7, .int .i64 ((B).pl).p8, .int .i64 ((B).pl).p9, .int .i64 ((B).pl).p10, .int .i64 ((B).pl).p11, .int .i64 ((B).pl).p12, .int .i64 ((B).pl).p13, .slice (B).pa (B).ps.length (B).pk, .slice (B).aa (B).as.length (B).ak, .slice (B).ja (B).js.length (B).jk, .slice (B).ha (B).hn (B).hk, .slice (B).ba (B).bn (B).bk] 33 ∧ Below w.heap.size w W
def TcR (w : World) (B1 : Bo) (g8 g10 : Nat) (da : Option Addr) (ds : List Int) (g : Nat) (s : Value) (W : World) : Prop := ∃ k : Nat, k + g = ds.length ∧ s = .int .i64 k ∧ W = w
set_option maxHeartbeats 64000000 in
theorem topRepeats_walk (B : Bo) (a : Option Addr) (cap : Nat) (l : List En) (hl : l.length ≤ maxLen) (w : World) (h : BkIn w B) (hr : RowIn enenc w a l) (he : ∀ e ∈ l, EnIn w e) (ht : Tab w) :
  Calls Tryz.prog 3 #[(.agg #[.slice (B).ua (B).us.length (B).uk, .slice (B).ka (B).kn (B).kk, .slice (B).ga (B).gs.length (B).gk, .int .i64 ((B).pl).p0, .int .i64 ((B).pl).p1, .int .i64 ((B).pl).p2, .int .i64 ((B).pl).p3, .int .i64 ((B).pl).p4, .int .i64 ((B).pl).p5, .int .i64 ((B).pl).p6, .int .i64 ((B).pl).p7, .int .i64 ((B).pl).p8, .int .i64 ((B).pl).p9, .int .i64 ((B).pl).p10, .int .i64 ((B).pl).p11, .int .i64 ((B).pl).p12, .int .i64 ((B).pl).p13, .slice (B).pa (B).ps.length (B).pk, .slice (B).aa (B).as.length (B).ak, .slice (B).ja (B).js.length (B).jk, .slice (B).ha (B).hn (B).hk, .slice (B).ba (B).bn (B).bk]), .slice a l.length cap] w fun e w' => e = .returned (.bool true) ∧ Below w.heap.size w w' := by
 have HSO := Lib.hid (fun (W : World) (hW : Below w.heap.size w W) => sound_any B W (h.later hW))
 have HAL := Lib.hid (fun (W : World) (hW : Below w.heap.size w W) => alive_any W (ht.of hW))
 have HB := Lib.hid h
 have HR := Lib.hid hr
 have HE := Lib.hid (fun (j : Nat) (hj : j < l.length) => he l[j]! (by rw [getElem!_pos l j hj]; exact List.getElem_mem hj))
 have HT := Lib.hid (fun (W : World) (hW : Below w.heap.size w W) => ht.of hW)
 have hm : l.length ≤ 9223372036854775807 := by unfold maxLen at hl; omega
 clear h hl hr he ht
 have cw : Below w.heap.size w (w.alloc (.cells #[.slice (B).ua (B).us.length (B).uk, .slice (B).ka (B).kn (B).kk, .slice (B).ga (B).gs.length (B).gk, .int .i64 ((B).pl).p0, .int .i64 ((B).pl).p1, .int .i64 ((B).pl).p2, .int .i64 ((B).pl).p3, .int .i64 ((B).pl).p4, .int .i64 ((B).pl).p5, .int .i64 ((B).pl).p6, .int .i64 ((B).pl).p7, .int .i64 ((B).pl).p8, .int .i64 ((B).pl).p9, .int .i64 ((B).pl).p10, .int .i64 ((B).pl).p11, .int .i64 ((B).pl).p12, .int .i64 ((B).pl).p13, .slice (B).pa (B).ps.length (B).pk, .slice (B).aa (B).as.length (B).ak, .slice (B).ja (B).js.length (B).jk, .slice (B).ha (B).hn (B).hk, .slice (B).ba (B).bn (B).bk] 33)) := Bk.be
 have kb : Bk.Blk (w.alloc (.cells #[.slice (B).ua (B).us.length (B).uk, .slice (B).ka (B).kn (B).kk, .slice (B).ga (B).gs.length (B).gk, .int .i64 ((B).pl).p0, .int .i64 ((B).pl).p1, .int .i64 ((B).pl).p2, .int .i64 ((B).pl).p3, .int .i64 ((B).pl).p4, .int .i64 ((B).pl).p5, .int .i64 ((B).pl).p6, .int .i64 ((B).pl).p7, .int .i64 ((B).pl).p8, .int .i64 ((B).pl).p9, .int .i64 ((B).pl).p10, .int .i64 ((B).pl).p11, .int .i64 ((B).pl).p12, .int .i64 ((B).pl).p13, .slice (B).pa (B).ps.length (B).pk, .slice (B).aa (B).as.length (B).ak, .slice (B).ja (B).js.length (B).jk, .slice (B).ha (B).hn (B).hk, .slice (B).ba (B).bn (B).bk] 33)) w.heap.size _ 33 := Bk.Blk.nw10
 go_enter Tryz.func3, Tryz.ntmps3
 go_upto_region 1 with fail
 generalize (w.alloc (.cells _ 33)) = w1 at *
 go_wp2_with ((refine wpList_load_row rfl 33 _ rfl _ rfl _ _ _ _ (kb) Tryz.underlying33 rfl (by kernel_rfl) ?_))
 refine (HSO.out _ cw).mono ?_
 rintro e w2 ⟨⟨q, rfl, hq⟩, hb⟩
 have c2 := bl2 hb cw
 replace kb := kb.later hb
 have HQ := Lib.hid hq
 clear hb cw hq HSO
 cases q
 ·go_wp2_with fail
  refine (HAL.out _ c2).mono ?_
  rintro e wy ⟨rfl, hb⟩
  have cy := bl2 hb c2
  go_wp2_with fail
  go_ret
  exact ⟨rfl, cy⟩
 have HFB := Lib.hid (HQ.out (by first | rfl | trivial))
 clear HQ
 by_cases h20 : 20 < l.length
 ·go_wp2_with fail
  refine (HAL.out _ c2).mono ?_
  rintro e wy ⟨rfl, hb⟩
  have cy := bl2 hb c2
  go_wp2_with fail
  go_ret
  exact ⟨rfl, cy⟩
 go_wp2_with fail
 go_loopg [5, 6] l.length (TrR w B l)
 case atStart => exact ⟨0, by omega, rfl, GV.nil _ _, kb, c2⟩
 case round =>
  clear kb c2
  obtain ⟨k, hk, rfl, hv, kb, hbr⟩ := hrel
  by_cases hlt : k < l.length
  ·have HV := Lib.hid hv
   clear hv
   obtain ⟨b, off, rfl, hc⟩ := rowat enenc_len HR.out (by omega)
   have hm1 := range_later hbr (hc k hlt)
   clear hc
   have HTK := Lib.hid (show (l.take k).map En.rul ++ [(l[k]!).rul] = (l.take (k + 1)).map En.rul by rw [Ln.take_succ' hlt, List.map_append]; rfl)
   have HLK := Lib.hid (show ((l.take k).map En.rul).length = k by rw [List.length_map, List.length_take]; omega)
   obtain ⟨d, hd⟩ : ∃ d, d = l[k]! := ⟨_, rfl⟩
   rw [← hd] at hm1 HTK
   clear hd
   have hgb := kb.lt
   go_upto_region 8 with (first | (refine wpList_load_mid rfl 39 _ rfl _ (off + k * 10) (by first | rfl | simp) ([.int .i64 (d).id, .int .i64 (d).bo, .int .i64 (d).va, .int .i64 (d).ki, .int .i64 (d).au, .int .i64 (d).pe, .string (d).ke, .string (d).tx, .slice (d).la (d).lg.length (d).lk, .int .u64 (d).ch]) _ (hm1) Tryz.underlying39 rfl (by kernel_rfl) ?_) | (refine wpList_store_row rfl 39 _ _ rfl _ _ rfl rfl _ _ (Bk.Blk.nw10) (by kernel_rfl) rfl (by simp [Value.oneCell']) ?_))
   have cx : Below wr.heap.size wr ((wr.alloc (.cells #[.int .i64 0, .int .i64 0, .int .i64 0, .int .i64 0, .int .i64 0, .int .i64 0, .string { data := #[] }, .string { data := #[] }, .slice none 0 0, .int .u64 0] 39)).setRow wr.heap.size #[.int .i64 (d).id, .int .i64 (d).bo, .int .i64 (d).va, .int .i64 (d).ki, .int .i64 (d).au, .int .i64 (d).pe, .string (d).ke, .string (d).tx, .slice (d).la (d).lg.length (d).lk, .int .u64 (d).ch]) := Below_setRow ((Below.refl _ _).alloc (Nat.le_refl _) _) (Nat.le_refl _) _
   have kx : Bk.Blk ((wr.alloc (.cells #[.int .i64 0, .int .i64 0, .int .i64 0, .int .i64 0, .int .i64 0, .int .i64 0, .string { data := #[] }, .string { data := #[] }, .slice none 0 0, .int .u64 0] 39)).setRow wr.heap.size #[.int .i64 (d).id, .int .i64 (d).bo, .int .i64 (d).va, .int .i64 (d).ki, .int .i64 (d).au, .int .i64 (d).pe, .string (d).ke, .string (d).tx, .slice (d).la (d).lg.length (d).lk, .int .u64 (d).ch]) wr.heap.size _ 39 := Blk_setRow_same Bk.Blk.nw10
   have c3 := bl2 cx hbr
   replace kb := kb.later cx
   have HV3 := Lib.hid (HV.out.later cx)
   have hwg : w.heap.size + 1 ≤ wr.heap.size := by omega
   have HOL := Lib.hid (fun (j : Nat) hj => (HV.out.lt j hj).1)
   clear hm1 hgb HV
   clear cx hbr
   (try simp only [Act.put])
   generalize ((wr.alloc (.cells _ 39)).setRow wr.heap.size _) = w3 at *
   generalize wr.heap.size = gw3 at *
   have x4 := kx.c4
   have xf4 : w3.frozen? ⟨gw3, 4, none⟩ = false := Bk.Blk.free kx 4
   go_upto_region 9 with fail
   have c4 : Below w.heap.size w (w3.setCell ⟨gw3, 4, none⟩ (.int .i64 1)) := Below.setCell c3 (show w.heap.size ≤ gw3 by omega) _
   replace kx : Bk.Blk (w3.setCell ⟨gw3, 4, none⟩ (.int .i64 1)) gw3 #[.int .i64 (d.rul).id, .int .i64 (d.rul).bo, .int .i64 (d.rul).va, .int .i64 (d.rul).ki, .int .i64 (d.rul).au, .int .i64 (d.rul).pe, .string (d.rul).ke, .string (d.rul).tx, .slice (d.rul).la (d.rul).lg.length (d.rul).lk, .int .u64 (d.rul).ch] 39 := (Bk.Blk.set_same kx).conv (by rfl)
   replace kb : Bk.Blk (w3.setCell ⟨gw3, 4, none⟩ (.int .i64 1)) w.heap.size #[.slice (B).ua (B).us.length (B).uk, .slice (B).ka (B).kn (B).kk, .slice (B).ga (B).gs.length (B).gk, .int .i64 ((B).pl).p0, .int .i64 ((B).pl).p1, .int .i64 ((B).pl).p2, .int .i64 ((B).pl).p3, .int .i64 ((B).pl).p4, .int .i64 ((B).pl).p5, .int .i64 ((B).pl).p6, .int .i64 ((B).pl).p7, .int .i64 ((B).pl).p8, .int .i64 ((B).pl).p9, .int .i64 ((B).pl).p10, .int .i64 ((B).pl).p11, .int .i64 ((B).pl).p12, .int .i64 ((B).pl).p13, .slice (B).pa (B).ps.length (B).pk, .slice (B).aa (B).as.length (B).ak, .slice (B).ja (B).js.length (B).jk, .slice (B).ha (B).hn (B).hk, .slice (B).ba (B).bn (B).bk] 33 := Bk.Blk.set_ne kb (by omega)
   have HV4 := Lib.hid (show EV (w3.setCell ⟨gw3, 4, none⟩ (.int .i64 1)) (w.heap.size + 1) _ ((l.take k).map En.rul) from gv_setCell HV3.out (fun j hj => by have := HOL.out j hj; show gw3 ≠ j; omega))
   clear x4 xf4 c3 HV3
   (try simp only [Act.put])
   generalize (w3.setCell ⟨gw3, 4, none⟩ (.int .i64 1)) = w4 at *
   have hz4 := c4.size
   have hgb := kb.lt
   have hx4 := kx.lt
   have HK21 := Lib.hid (show ((l.take k).map En.rul).length ≤ 1000000 by have := HLK.out; omega)
   generalize (l.take k).map En.rul = mk at *
   have hmk := HK21.out
   go_wp2_with (first | (refine wpList_load_row rfl 39 _ rfl _ rfl _ _ _ _ (kx) Tryz.underlying39 rfl (by kernel_rfl) ?_) | (at_builtin; refine app_en d.rul rfl _ _ rfl rfl HV4.out rfl hmk (by omega) ?_))
   intro v' w5 hv' hgr hx1
   clear hx1
   have c5 : Below w.heap.size w w5 := (c4.alloc hz4 _).grown hgr (by simp; omega) (fun j hj => by have := (HV4.out.lt j hj).2; omega)
   have kb5 := Sr.grown_blk kb hgr (fun e => by have := (HV4.out.lt _ e).2; omega)
   have HV5 := Lib.hid (HTK.out ▸ hv' : EV w5 (w.heap.size + 1) v' ((l.take (k + 1)).map En.rul))
   clear hv' hgr c4 hz4 kb kx hgb hx4 hmk
   go_wp2_with fail
   go_roundg (gk - 1)
   case measure => omega
   case rel => exact ⟨k + 1, by omega, by go_num, HV5.out, kb5, c5⟩
  ·have HML := Lib.hid (show (l.take k).map En.rul = l.map En.rul by rw [List.take_of_length_le (by omega)])
   rw [HML.out] at hv
   obtain ⟨m, hmm⟩ : ∃ m, m = l.map En.rul := ⟨_, rfl⟩
   rw [← hmm] at hv
   have HMN := Lib.hid (show m.length = l.length by rw [hmm, List.length_map])
   have HEB := Lib.hid (fun (W : World) (hW : Below w.heap.size w W) (j : Nat) (hj : j < m.length) => show EnB W m[j]! from by
    have hjl : j < l.length := by have := HMN.out; omega
    have e1 : m[j]! = (l[j]!).rul := by rw [getElem!_pos m j hj, getElem!_pos l j hjl]; simp [hmm]
    have hj2 := HE.out j hjl
    rw [e1]
    exact ⟨(hj2.em (by have := hj2.m.2.2.1; unfold maxLen at this; omega)).rul, hj2.w.rul, (show (1 : Int) ≠ 0 by decide), hj2.l.later hW⟩)
   clear hmm HML
   obtain ⟨ma, mc, rfl, hmr, -⟩ := hv.row
   have HMR := Lib.hid hmr
   have hm20 : Hid (m.length ≤ 20) := Lib.hid (by have := HMN.out; omega)
   clear hv hmr
   go_wp2_with ((refine wpList_load_row rfl 33 _ rfl _ rfl _ _ _ _ (kb) Tryz.underlying33 rfl (by kernel_rfl) ?_))
   refine (batch_any B ma mc m _ ((HB.out.bo HFB.out).later hbr) (by have := HFB.out.j; have := hm20.out; omega) HMR.out (HEB.out _ hbr) (HT.out _ hbr)).mono ?_
   rintro e w4 ⟨B1, cs, ca, cc, rfl, -, hbt, hb⟩
   have c4 := bl2 hb hbr
   have HM4 := Lib.hid (HMR.out.later hb)
   have HBT := Lib.hid hbt
   clear hb hbr hbt kb HMR
   go_upto_region 11 with ((refine wpList_store_row rfl 33 _ _ rfl _ _ rfl rfl _ _ (Bk.Blk.nw10) (by kernel_rfl) rfl (by simp [Value.oneCell']) ?_))
   have cx : Below w4.heap.size w4 ((w4.alloc (.cells #[.slice none 0 0, .slice none 0 0, .slice none 0 0, .int .i64 0, .int .i64 0, .int .i64 0, .int .i64 0, .int .i64 0, .int .i64 0, .int .i64 0, .int .i64 0, .int .i64 0, .int .i64 0, .int .i64 0, .int .i64 0, .int .i64 0, .int .i64 0, .slice none 0 0, .slice none 0 0, .slice none 0 0, .slice none 0 0, .slice none 0 0] 33)).setRow w4.heap.size #[.slice (B1).ua (B1).us.length (B1).uk, .slice (B1).ka (B1).kn (B1).kk, .slice (B1).ga (B1).gs.length (B1).gk, .int .i64 ((B1).pl).p0, .int .i64 ((B1).pl).p1, .int .i64 ((B1).pl).p2, .int .i64 ((B1).pl).p3, .int .i64 ((B1).pl).p4, .int .i64 ((B1).pl).p5, .int .i64 ((B1).pl).p6, .int .i64 ((B1).pl).p7, .int .i64 ((B1).pl).p8, .int .i64 ((B1).pl).p9, .int .i64 ((B1).pl).p10, .int .i64 ((B1).pl).p11, .int .i64 ((B1).pl).p12, .int .i64 ((B1).pl).p13, .slice (B1).pa (B1).ps.length (B1).pk, .slice (B1).aa (B1).as.length (B1).ak, .slice (B1).ja (B1).js.length (B1).jk, .slice (B1).ha (B1).hn (B1).hk, .slice (B1).ba (B1).bn (B1).bk]) := Below_setRow ((Below.refl _ _).alloc (Nat.le_refl _) _) (Nat.le_refl _) _
   have k8 : Bk.Blk ((w4.alloc (.cells #[.slice none 0 0, .slice none 0 0, .slice none 0 0, .int .i64 0, .int .i64 0, .int .i64 0, .int .i64 0, .int .i64 0, .int .i64 0, .int .i64 0, .int .i64 0, .int .i64 0, .int .i64 0, .int .i64 0, .int .i64 0, .int .i64 0, .int .i64 0, .slice none 0 0, .slice none 0 0, .slice none 0 0, .slice none 0 0, .slice none 0 0] 33)).setRow w4.heap.size #[.slice (B1).ua (B1).us.length (B1).uk, .slice (B1).ka (B1).kn (B1).kk, .slice (B1).ga (B1).gs.length (B1).gk, .int .i64 ((B1).pl).p0, .int .i64 ((B1).pl).p1, .int .i64 ((B1).pl).p2, .int .i64 ((B1).pl).p3, .int .i64 ((B1).pl).p4, .int .i64 ((B1).pl).p5, .int .i64 ((B1).pl).p6, .int .i64 ((B1).pl).p7, .int .i64 ((B1).pl).p8, .int .i64 ((B1).pl).p9, .int .i64 ((B1).pl).p10, .int .i64 ((B1).pl).p11, .int .i64 ((B1).pl).p12, .int .i64 ((B1).pl).p13, .slice (B1).pa (B1).ps.length (B1).pk, .slice (B1).aa (B1).as.length (B1).ak, .slice (B1).ja (B1).js.length (B1).jk, .slice (B1).ha (B1).hn (B1).hk, .slice (B1).ba (B1).bn (B1).bk]) w4.heap.size _ 33 := Blk_setRow_same Bk.Blk.nw10
   have c5 := bl2 cx c4
   have HM5 := Lib.hid (HM4.out.later cx)
   have HBT5 := Lib.hid (HBT.out.later cx)
   clear HM4 HBT
   clear cx c4
   (try simp only [Act.put])
   generalize ((w4.alloc (.cells _ 33)).setRow w4.heap.size _) = w5 at *
   generalize w4.heap.size = gw5 at *
   go_wp2_with ((refine wpList_load_row rfl 33 _ rfl _ rfl _ _ _ _ (k8) Tryz.underlying33 rfl (by kernel_rfl) ?_))
   refine (batch_any B1 ma mc m _ HBT5.out.bo (by have := HBT5.out.ln; have := HFB.out.j; have := hm20.out; omega) HM5.out (HEB.out _ c5) (HT.out _ c5)).mono ?_
   rintro e w6 ⟨B2, ds, da, dc, rfl, hdr, hbt, hb⟩
   obtain ⟨h21, hdl, hdn⟩ := HBT5.out.again hbt
   subst h21
   have c6 := bl2 hb c5
   replace k8 := k8.later hb
   have HDR := Lib.hid hdr
   have HDN := Lib.hid hdn
   have HDL := Lib.hid (hdl.trans HMN.out)
   have hd20 : ds.length ≤ 9223372036854775807 := by have := hm20.out; omega
   clear hb c5 hbt HBT5 HM5 hdr hdn hdl
   go_upto_region 12 with ((refine wpList_store_row rfl 33 _ _ rfl _ _ rfl rfl _ _ (Bk.Blk.nw10) (by kernel_rfl) rfl (by simp [Value.oneCell']) ?_))
   have cx : Below w6.heap.size w6 ((w6.alloc (.cells #[.slice none 0 0, .slice none 0 0, .slice none 0 0, .int .i64 0, .int .i64 0, .int .i64 0, .int .i64 0, .int .i64 0, .int .i64 0, .int .i64 0, .int .i64 0, .int .i64 0, .int .i64 0, .int .i64 0, .int .i64 0, .int .i64 0, .int .i64 0, .slice none 0 0, .slice none 0 0, .slice none 0 0, .slice none 0 0, .slice none 0 0] 33)).setRow w6.heap.size #[.slice (B2).ua (B2).us.length (B2).uk, .slice (B2).ka (B2).kn (B2).kk, .slice (B2).ga (B2).gs.length (B2).gk, .int .i64 ((B2).pl).p0, .int .i64 ((B2).pl).p1, .int .i64 ((B2).pl).p2, .int .i64 ((B2).pl).p3, .int .i64 ((B2).pl).p4, .int .i64 ((B2).pl).p5, .int .i64 ((B2).pl).p6, .int .i64 ((B2).pl).p7, .int .i64 ((B2).pl).p8, .int .i64 ((B2).pl).p9, .int .i64 ((B2).pl).p10, .int .i64 ((B2).pl).p11, .int .i64 ((B2).pl).p12, .int .i64 ((B2).pl).p13, .slice (B2).pa (B2).ps.length (B2).pk, .slice (B2).aa (B2).as.length (B2).ak, .slice (B2).ja (B2).js.length (B2).jk, .slice (B2).ha (B2).hn (B2).hk, .slice (B2).ba (B2).bn (B2).bk]) := Below_setRow ((Below.refl _ _).alloc (Nat.le_refl _) _) (Nat.le_refl _) _
   have k10 : Bk.Blk ((w6.alloc (.cells #[.slice none 0 0, .slice none 0 0, .slice none 0 0, .int .i64 0, .int .i64 0, .int .i64 0, .int .i64 0, .int .i64 0, .int .i64 0, .int .i64 0, .int .i64 0, .int .i64 0, .int .i64 0, .int .i64 0, .int .i64 0, .int .i64 0, .int .i64 0, .slice none 0 0, .slice none 0 0, .slice none 0 0, .slice none 0 0, .slice none 0 0] 33)).setRow w6.heap.size #[.slice (B2).ua (B2).us.length (B2).uk, .slice (B2).ka (B2).kn (B2).kk, .slice (B2).ga (B2).gs.length (B2).gk, .int .i64 ((B2).pl).p0, .int .i64 ((B2).pl).p1, .int .i64 ((B2).pl).p2, .int .i64 ((B2).pl).p3, .int .i64 ((B2).pl).p4, .int .i64 ((B2).pl).p5, .int .i64 ((B2).pl).p6, .int .i64 ((B2).pl).p7, .int .i64 ((B2).pl).p8, .int .i64 ((B2).pl).p9, .int .i64 ((B2).pl).p10, .int .i64 ((B2).pl).p11, .int .i64 ((B2).pl).p12, .int .i64 ((B2).pl).p13, .slice (B2).pa (B2).ps.length (B2).pk, .slice (B2).aa (B2).as.length (B2).ak, .slice (B2).ja (B2).js.length (B2).jk, .slice (B2).ha (B2).hn (B2).hk, .slice (B2).ba (B2).bn (B2).bk]) w6.heap.size _ 33 := Blk_setRow_same Bk.Blk.nw10
   have c7 := bl2 cx c6
   replace k8 := k8.later cx
   have HD7 := Lib.hid (HDR.out.later cx)
   clear HDR
   clear cx c6
   (try simp only [Act.put])
   generalize ((w6.alloc (.cells _ 33)).setRow w6.heap.size _) = w7 at *
   generalize w6.heap.size = gw7 at *
   go_wp2_with fail
   go_loopg [12] ds.length (CntS ds.length w7)
   case atStart => exact ⟨0, by omega, rfl, rfl⟩
   case round =>
    obtain ⟨i, hi, rfl, rfl⟩ := hrel
    by_cases hlt2 : i < ds.length
    ·obtain ⟨b2, off2, rfl, hc2⟩ := rowat ienc_len HD7.out (by omega)
     have m0 : w7.cell? ⟨b2, off2 + i, none⟩ = some (.int .i64 ds[i]!) := by
      rw [show off2 + i = off2 + i * 1 + 0 by omega]
      exact hc2 i hlt2 0 _ rfl
     have hdi := HDN.out i hlt2
     clear hc2
     obtain ⟨x, hx⟩ : ∃ x, x = ds[i]! := ⟨_, rfl⟩
     rw [← hx] at m0 hdi
     have gx : (x == 0) = false := beq_eq_false_iff_ne.2 hdi
     clear hx hdi
     go_wp2_with fail
     go_roundg (gk - 1)
     case measure => omega
     case rel => exact ⟨i + 1, by omega, by go_num, rfl⟩
    ·have d19 := k10.c19
     have c19 := k8.c19
     have g1 : (((ds.length : Int)) == (l.length : Int)) = true := by rw [HDL.out]; exact beq_self_eq_true _
     have g2 : (((B2.js.length : Int)) == (B2.js.length : Int)) = true := beq_self_eq_true _
     go_wp2_with fail
     refine (HAL.out _ c7).mono ?_
     rintro e wy ⟨rfl, hb⟩
     have cy := bl2 hb c7
     go_wp2_with fail
     go_ret
     exact ⟨rfl, cy⟩
end Go.Proofs.YtjhpiclnpmdjnaaGreatDoor.Bm
