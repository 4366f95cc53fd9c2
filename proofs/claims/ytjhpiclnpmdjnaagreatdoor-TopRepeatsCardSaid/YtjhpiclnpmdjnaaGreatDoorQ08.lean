/-
  Parts of the proof: B4, B5.
-/
import Derived.Test.YtjhpiclnpmdjnaaGreatDoorQ07
import Derived.Test.YtjhpiclnpmdjnaaGreatDoorQ06
import Derived.Deep.MidRow
namespace Go.Proofs.YtjhpiclnpmdjnaaGreatDoor.Bm
open Go Go.RowKit
open Go.Proofs.YtjhpiclnpmdjnaaGreatDoor
open Go.Proofs.YtjhpiclnpmdjnaaGreatDoor.Ln (flat flat_len flat_get flat_mem RowIn OwnR Idx bl2 results2_cell Blk_setRow_same Blk_setRow_ne Below_setRow)
set_option linter.unusedSimpArgs false
set_option linter.unusedVariables false
set_option maxRecDepth 100000

def lgsE (B : Bo) (bo : Int) : List Lg → Int
 | [] => 0
 | x :: t => if legE B x bo = 0 then lgsE B bo t else legE B x bo
theorem lgs_all {B : Bo} {bo : Int} : ∀ {l : List Lg}, (∀ j, j < l.length → legE B l[j]! bo = 0) → lgsE B bo l = 0
 | [], _ => rfl
 | x :: t, h => by
  have h0 := h 0 (by simp)
  simp only [List.getElem!_cons_zero] at h0
  rw [lgsE, if_pos h0]
  exact lgs_all fun j hj => by have := h (j + 1) (by simpa using hj); simpa using this
theorem lgs_at {B : Bo} {bo : Int} : ∀ {l : List Lg} {k : Nat}, k < l.length → (∀ j, j < k → legE B l[j]! bo = 0) → legE B l[k]! bo ≠ 0 → lgsE B bo l = legE B l[k]! bo
 | [], k, h, _, _ => absurd h (Nat.not_lt_zero _)
 | x :: t, 0, _, _, h1 => by
  simp only [List.getElem!_cons_zero] at h1 ⊢
  rw [lgsE, if_neg h1]
 | x :: t, k + 1, h, h1, h2 => by
  have h0 := h1 0 (by omega)
  simp only [List.getElem!_cons_zero] at h0
  rw [lgsE, if_pos h0, lgs_at (k := k) (by simpa using h) (fun j hj => by have := h1 (j + 1) (by omega); simpa using this) (by simpa using h2)]
  simp
set_option maxHeartbeats 8000000 in
theorem customer_any (B : Bo) (x : Lg) (bo : Int) (w : World) (h : BoIn w B) :
  Calls Tryz.prog 55 #[(.agg #[.slice (B).ua (B).us.length (B).uk, .slice (B).ka (B).kn (B).kk, .slice (B).ga (B).gs.length (B).gk, .int .i64 ((B).pl).p0, .int .i64 ((B).pl).p1, .int .i64 ((B).pl).p2, .int .i64 ((B).pl).p3, .int .i64 ((B).pl).p4, .int .i64 ((B).pl).p5, .int .i64 ((B).pl).p6, .int .i64 ((B).pl).p7, .int .i64 ((B).pl).p8, .int .i64 ((B).pl).p9, .int .i64 ((B).pl).p10, .int .i64 ((B).pl).p11, .int .i64 ((B).pl).p12, .int .i64 ((B).pl).p13, .slice (B).pa (B).ps.length (B).pk, .slice (B).aa (B).as.length (B).ak, .slice (B).ja (B).js.length (B).jk, .slice (B).ha (B).hn (B).hk, .slice (B).ba (B).bn (B).bk]), (.agg #[.int .i64 (x).ac, .int .i64 (x).am, .string (x).cu]), .int .i64 bo] w fun e w' => e = .returned (.int .i64 (cusE B x bo)) ∧ Below w.heap.size w w' := by
 have cw : Below w.heap.size w ((w.alloc (.cells #[.slice (B).ua (B).us.length (B).uk, .slice (B).ka (B).kn (B).kk, .slice (B).ga (B).gs.length (B).gk, .int .i64 ((B).pl).p0, .int .i64 ((B).pl).p1, .int .i64 ((B).pl).p2, .int .i64 ((B).pl).p3, .int .i64 ((B).pl).p4, .int .i64 ((B).pl).p5, .int .i64 ((B).pl).p6, .int .i64 ((B).pl).p7, .int .i64 ((B).pl).p8, .int .i64 ((B).pl).p9, .int .i64 ((B).pl).p10, .int .i64 ((B).pl).p11, .int .i64 ((B).pl).p12, .int .i64 ((B).pl).p13, .slice (B).pa (B).ps.length (B).pk, .slice (B).aa (B).as.length (B).ak, .slice (B).ja (B).js.length (B).jk, .slice (B).ha (B).hn (B).hk, .slice (B).ba (B).bn (B).bk] 33)).alloc (.cells #[.int .i64 (x).ac, .int .i64 (x).am, .string (x).cu] 50)) := Bk.be
 have kb : Bk.Blk ((w.alloc (.cells #[.slice (B).ua (B).us.length (B).uk, .slice (B).ka (B).kn (B).kk, .slice (B).ga (B).gs.length (B).gk, .int .i64 ((B).pl).p0, .int .i64 ((B).pl).p1, .int .i64 ((B).pl).p2, .int .i64 ((B).pl).p3, .int .i64 ((B).pl).p4, .int .i64 ((B).pl).p5, .int .i64 ((B).pl).p6, .int .i64 ((B).pl).p7, .int .i64 ((B).pl).p8, .int .i64 ((B).pl).p9, .int .i64 ((B).pl).p10, .int .i64 ((B).pl).p11, .int .i64 ((B).pl).p12, .int .i64 ((B).pl).p13, .slice (B).pa (B).ps.length (B).pk, .slice (B).aa (B).as.length (B).ak, .slice (B).ja (B).js.length (B).jk, .slice (B).ha (B).hn (B).hk, .slice (B).ba (B).bn (B).bk] 33)).alloc (.cells #[.int .i64 (x).ac, .int .i64 (x).am, .string (x).cu] 50)) w.heap.size _ 33 := Bk.Blk.nw20
 have kx : Bk.Blk ((w.alloc (.cells #[.slice (B).ua (B).us.length (B).uk, .slice (B).ka (B).kn (B).kk, .slice (B).ga (B).gs.length (B).gk, .int .i64 ((B).pl).p0, .int .i64 ((B).pl).p1, .int .i64 ((B).pl).p2, .int .i64 ((B).pl).p3, .int .i64 ((B).pl).p4, .int .i64 ((B).pl).p5, .int .i64 ((B).pl).p6, .int .i64 ((B).pl).p7, .int .i64 ((B).pl).p8, .int .i64 ((B).pl).p9, .int .i64 ((B).pl).p10, .int .i64 ((B).pl).p11, .int .i64 ((B).pl).p12, .int .i64 ((B).pl).p13, .slice (B).pa (B).ps.length (B).pk, .slice (B).aa (B).as.length (B).ak, .slice (B).ja (B).js.length (B).jk, .slice (B).ha (B).hn (B).hk, .slice (B).ba (B).bn (B).bk] 33)).alloc (.cells #[.int .i64 (x).ac, .int .i64 (x).am, .string (x).cu] 50)) (w.heap.size + 1) _ 50 := Bk.Blk.nw21
 have hr := h.later cw
 have HN := Lib.hid h.n
 clear h
 go_enter Tryz.func55, Tryz.ntmps55
 go_upto_region 1 with fail
 generalize ((w.alloc (.cells _ 33)).alloc (.cells _ 50)) = w1 at *
 have x0 := kx.c0
 go_wp2_with ((refine wpList_load_row rfl 33 _ rfl _ rfl _ _ _ _ (kb) Tryz.underlying33 rfl (by kernel_rfl) ?_))
 refine (afind_any B x.ac _ HN.out.2.2.2.1 hr.a).mono ?_
 rintro e w2 ⟨rfl, hb⟩
 have c2 := bl2 hb cw
 have z2 := Below.size c2
 replace kb := kb.later hb
 replace kx := kx.later hb
 replace hr := hr.later hb
 clear hb cw x0
 obtain ⟨a, ha⟩ : ∃ a, a = aF B x.ac := ⟨_, rfl⟩
 rw [← ha]
 have HA := Lib.hid ha
 clear ha
 cases ho : aO B x.ac
 ·have HO := Lib.hid ho
  clear ho
  go_wp2_with fail
  go_ret
  exact ⟨by unfold cusE; rw [HO.out]; rfl, c2.alloc z2 _⟩
 ·have HO := Lib.hid ho
  clear ho
  have cx : Below w2.heap.size w2 (w2.alloc (.cells #[.int .i64 (a).id, .int .i64 (a).op, .int .i64 (a).cl, .int .i64 (a).ex, .string (a).ow, .string (a).pr, .string (a).nu] 76)) := Bk.be
  have ka : Bk.Blk (w2.alloc (.cells #[.int .i64 (a).id, .int .i64 (a).op, .int .i64 (a).cl, .int .i64 (a).ex, .string (a).ow, .string (a).pr, .string (a).nu] 76)) w2.heap.size _ 76 := Bk.Blk.nw10
  have c3 := bl2 cx c2
  replace hr := hr.later cx
  replace kx := kx.later cx
  replace kb := kb.later cx
  go_upto_region 4 with fail
  generalize w2.alloc (.cells _ 76) = w3 at *
  generalize w2.heap.size = g2 at *
  clear cx c2
  have l0 := kb.c0
  have x2 := kx.c2
  go_wp2_with fail
  refine (mfind_any B.ua B.uk B.us x.cu _ HN.out.1 hr.u).mono ?_
  rintro e w4 ⟨rfl, hb⟩
  have c4 := bl2 hb c3
  have z4 := Below.size c4
  replace kb := kb.later hb
  replace kx := kx.later hb
  replace ka := ka.later hb
  replace hr := hr.later hb
  clear hb c3 l0 x2
  have e1 : fok (fun u : Cu => u.cd.toList == x.cu.toList) B.us = uO B x.cu := rfl
  rw [e1]
  clear e1
  generalize fst' (fun u : Cu => u.cd.toList == x.cu.toList) B.us = uf at *
  cases hu : uO B x.cu
  ·have HU := Lib.hid hu
   clear hu
   go_wp2_with fail
   go_ret
   exact ⟨by unfold cusE; rw [HO.out, HU.out]; rfl, c4.alloc z4 _⟩
  ·have HU := Lib.hid hu
   clear hu
   have cx : Below w4.heap.size w4 (w4.alloc (.cells #[.string (uf).cd, .int .i64 (uf).dg] 62)) := Bk.be
   have c5 := bl2 cx c4
   replace hr := hr.later cx
   replace kx := kx.later cx
   replace kb := kb.later cx
   replace ka := ka.later cx
   go_upto_region 7 with fail
   generalize w4.alloc (.cells #[.string (uf).cd, .int .i64 (uf).dg] 62) = w5 at *
   clear cx c4 z4
   go_wp2_with (first | (refine wpList_load_row rfl 33 _ rfl _ rfl _ _ _ _ (kb) Tryz.underlying33 rfl (by kernel_rfl) ?_) | (refine wpList_load_row rfl 76 _ rfl _ rfl _ _ _ _ (ka) Tryz.underlying76 rfl (by kernel_rfl) ?_))
   refine (cur_any B a _ HN.out.2.2.1 hr.p).mono ?_
   rintro e w6 ⟨rfl, hb⟩
   have c6 := bl2 hb c5
   replace kb := kb.later hb
   replace kx := kx.later hb
   replace hr := hr.later hb
   clear hb c5 ka
   have x2 := kx.c2
   cases hc : curO B a
   ·have HC := Lib.hid hc
    clear hc
    go_wp2_with fail
    go_ret
    exact ⟨by unfold cusE; rw [HO.out, HU.out, ← HA.out, HC.out]; rfl, c6⟩
   ·have HC := Lib.hid hc
    clear hc
    cases hs : ((curS B a).toList == x.cu.toList)
    ·have hs' : ((curS B a).toList != x.cu.toList) = true := by show (!((curS B a).toList == x.cu.toList)) = true; rw [hs]; rfl
     have HS := Lib.hid hs
     go_wp2_with fail
     go_ret
     exact ⟨by unfold cusE; rw [HO.out, HU.out, ← HA.out, HC.out, HS.out]; rfl, c6⟩
    ·have hs' : ((curS B a).toList != x.cu.toList) = false := by show (!((curS B a).toList == x.cu.toList)) = false; rw [hs]; rfl
     have HS := Lib.hid hs
     have x0 := kx.c0
     go_wp2_with ((refine wpList_load_row rfl 33 _ rfl _ rfl _ _ _ _ (kb) Tryz.underlying33 rfl (by kernel_rfl) ?_))
     refine (active_any B x.ac bo _ HN.out.2.2.2.1 hr.a).mono ?_
     rintro e w7 ⟨rfl, hb⟩
     have c7 := bl2 hb c6
     clear hb c6 x0 x2 kb kx hr hs hs'
     cases ht : actB B x.ac bo
     ·have HT := Lib.hid ht
      clear ht
      go_wp2_with fail
      go_ret
      exact ⟨by unfold cusE; rw [HO.out, HU.out, ← HA.out, HC.out, HS.out, HT.out]; rfl, c7⟩
     ·have HT := Lib.hid ht
      clear ht
      go_wp2_with fail
      go_ret
      exact ⟨by unfold cusE; rw [HO.out, HU.out, ← HA.out, HC.out, HS.out, HT.out]; rfl, c7⟩
def LgR (w : World) (B : Bo) (e0 : En) (g : Nat) (s : Value) (W : World) : Prop := ∃ k : Nat, k + g = e0.lg.length ∧ s = .int .i64 k ∧ (∀ j, j < k → legE B e0.lg[j]! e0.bo = 0) ∧ Bk.Blk W w.heap.size #[.slice (B).ua (B).us.length (B).uk, .slice (B).ka (B).kn (B).kk, .slice (B).ga (B).gs.length (B).gk, .int .i64 ((B).pl).p0, .int .i64 ((B).pl).p1, .int .i64 ((B).pl).p2, .int .i64 ((B).pl).p3, .int .i64 ((B).pl).p4, .int .i64 ((B).pl).p5, .int .i64 ((B).pl).p6, .int .i64 ((B).pl).p7, .int .i64 ((B).pl).p8, .int .i64 ((B).pl).p9, .int .i64 ((B).pl).p10, .int .i64 ((B).pl).p11, .int .i64 ((B).pl).p12, .int .i64 ((B).pl).p13, .slice (B).pa (B).ps.length (B).pk, .slice (B).aa (B).as.length (B).ak, .slice (B).ja (B).js.length (B).jk, .slice (B).ha (B).hn (B).hk, .slice (B).ba (B).bn (B).bk] 33 ∧ Bk.Blk W (w.heap.size + 1) #[.int .i64 (e0).id, .int .i64 (e0).bo, .int .i64 (e0).va, .int .i64 (e0).ki, .int .i64 (e0).au, .int .i64 (e0).pe, .string (e0).ke, .string (e0).tx, .slice (e0).la (e0).lg.length (e0).lk, .int .u64 (e0).ch] 39 ∧ Below w.heap.size w W
set_option maxHeartbeats 8000000 in
theorem legs_any (B : Bo) (e0 : En) (w : World) (h : BoIn w B) (hl : RowIn lgenc w e0.la e0.lg) (hn : e0.lg.length ≤ 100000) :
  Calls Tryz.prog 25 #[(.agg #[.slice (B).ua (B).us.length (B).uk, .slice (B).ka (B).kn (B).kk, .slice (B).ga (B).gs.length (B).gk, .int .i64 ((B).pl).p0, .int .i64 ((B).pl).p1, .int .i64 ((B).pl).p2, .int .i64 ((B).pl).p3, .int .i64 ((B).pl).p4, .int .i64 ((B).pl).p5, .int .i64 ((B).pl).p6, .int .i64 ((B).pl).p7, .int .i64 ((B).pl).p8, .int .i64 ((B).pl).p9, .int .i64 ((B).pl).p10, .int .i64 ((B).pl).p11, .int .i64 ((B).pl).p12, .int .i64 ((B).pl).p13, .slice (B).pa (B).ps.length (B).pk, .slice (B).aa (B).as.length (B).ak, .slice (B).ja (B).js.length (B).jk, .slice (B).ha (B).hn (B).hk, .slice (B).ba (B).bn (B).bk]), (.agg #[.int .i64 (e0).id, .int .i64 (e0).bo, .int .i64 (e0).va, .int .i64 (e0).ki, .int .i64 (e0).au, .int .i64 (e0).pe, .string (e0).ke, .string (e0).tx, .slice (e0).la (e0).lg.length (e0).lk, .int .u64 (e0).ch])] w fun e w' => e = .returned (.int .i64 (lgsE B e0.bo e0.lg)) ∧ Below w.heap.size w w' := by
 have cw : Below w.heap.size w ((w.alloc (.cells #[.slice (B).ua (B).us.length (B).uk, .slice (B).ka (B).kn (B).kk, .slice (B).ga (B).gs.length (B).gk, .int .i64 ((B).pl).p0, .int .i64 ((B).pl).p1, .int .i64 ((B).pl).p2, .int .i64 ((B).pl).p3, .int .i64 ((B).pl).p4, .int .i64 ((B).pl).p5, .int .i64 ((B).pl).p6, .int .i64 ((B).pl).p7, .int .i64 ((B).pl).p8, .int .i64 ((B).pl).p9, .int .i64 ((B).pl).p10, .int .i64 ((B).pl).p11, .int .i64 ((B).pl).p12, .int .i64 ((B).pl).p13, .slice (B).pa (B).ps.length (B).pk, .slice (B).aa (B).as.length (B).ak, .slice (B).ja (B).js.length (B).jk, .slice (B).ha (B).hn (B).hk, .slice (B).ba (B).bn (B).bk] 33)).alloc (.cells #[.int .i64 (e0).id, .int .i64 (e0).bo, .int .i64 (e0).va, .int .i64 (e0).ki, .int .i64 (e0).au, .int .i64 (e0).pe, .string (e0).ke, .string (e0).tx, .slice (e0).la (e0).lg.length (e0).lk, .int .u64 (e0).ch] 39)) := Bk.be
 have kb : Bk.Blk ((w.alloc (.cells #[.slice (B).ua (B).us.length (B).uk, .slice (B).ka (B).kn (B).kk, .slice (B).ga (B).gs.length (B).gk, .int .i64 ((B).pl).p0, .int .i64 ((B).pl).p1, .int .i64 ((B).pl).p2, .int .i64 ((B).pl).p3, .int .i64 ((B).pl).p4, .int .i64 ((B).pl).p5, .int .i64 ((B).pl).p6, .int .i64 ((B).pl).p7, .int .i64 ((B).pl).p8, .int .i64 ((B).pl).p9, .int .i64 ((B).pl).p10, .int .i64 ((B).pl).p11, .int .i64 ((B).pl).p12, .int .i64 ((B).pl).p13, .slice (B).pa (B).ps.length (B).pk, .slice (B).aa (B).as.length (B).ak, .slice (B).ja (B).js.length (B).jk, .slice (B).ha (B).hn (B).hk, .slice (B).ba (B).bn (B).bk] 33)).alloc (.cells #[.int .i64 (e0).id, .int .i64 (e0).bo, .int .i64 (e0).va, .int .i64 (e0).ki, .int .i64 (e0).au, .int .i64 (e0).pe, .string (e0).ke, .string (e0).tx, .slice (e0).la (e0).lg.length (e0).lk, .int .u64 (e0).ch] 39)) w.heap.size _ 33 := Bk.Blk.nw20
 have ke : Bk.Blk ((w.alloc (.cells #[.slice (B).ua (B).us.length (B).uk, .slice (B).ka (B).kn (B).kk, .slice (B).ga (B).gs.length (B).gk, .int .i64 ((B).pl).p0, .int .i64 ((B).pl).p1, .int .i64 ((B).pl).p2, .int .i64 ((B).pl).p3, .int .i64 ((B).pl).p4, .int .i64 ((B).pl).p5, .int .i64 ((B).pl).p6, .int .i64 ((B).pl).p7, .int .i64 ((B).pl).p8, .int .i64 ((B).pl).p9, .int .i64 ((B).pl).p10, .int .i64 ((B).pl).p11, .int .i64 ((B).pl).p12, .int .i64 ((B).pl).p13, .slice (B).pa (B).ps.length (B).pk, .slice (B).aa (B).as.length (B).ak, .slice (B).ja (B).js.length (B).jk, .slice (B).ha (B).hn (B).hk, .slice (B).ba (B).bn (B).bk] 33)).alloc (.cells #[.int .i64 (e0).id, .int .i64 (e0).bo, .int .i64 (e0).va, .int .i64 (e0).ki, .int .i64 (e0).au, .int .i64 (e0).pe, .string (e0).ke, .string (e0).tx, .slice (e0).la (e0).lg.length (e0).lk, .int .u64 (e0).ch] 39)) (w.heap.size + 1) _ 39 := Bk.Blk.nw21
 have HR := Lib.hid (fun (W : World) (hW : Below w.heap.size w W) => h.later hW)
 have HL := Lib.hid hl
 clear h hl
 go_enter Tryz.func25, Tryz.ntmps25
 go_upto_region 1 with fail
 generalize ((w.alloc (.cells _ 33)).alloc (.cells _ 39)) = w1 at *
 have e8 := ke.c8
 go_wp2_with fail
 clear e8
 go_loopg [11] e0.lg.length (LgR w B e0)
 case atStart => exact ⟨0, by omega, rfl, fun j hj => by omega, kb, ke, cw⟩
 case round =>
  clear kb ke cw
  obtain ⟨k, hk, rfl, hall, kb, ke, hbr⟩ := hrel
  have HA := Lib.hid hall
  clear hall
  by_cases hlt : k < e0.lg.length
  ·obtain ⟨b, off, ha, hc⟩ := rowat lgenc_len HL.out (by omega)
   have hm := range_later hbr (hc k hlt)
   clear hc
   obtain ⟨x, hxx⟩ : ∃ x, x = e0.lg[k]! := ⟨_, rfl⟩
   rw [← hxx] at hm
   have HX := Lib.hid hxx
   clear hxx
   have hz1 := Below.size hbr
   have cx : Below wr.heap.size wr (wr.alloc (.cells #[.int .i64 (x).ac, .int .i64 (x).am, .string (x).cu] 50)) := Bk.be
   have kx : Bk.Blk (wr.alloc (.cells #[.int .i64 (x).ac, .int .i64 (x).am, .string (x).cu] 50)) wr.heap.size _ 50 := Bk.Blk.nw10
   have c2 := bl2 cx hbr
   replace kb := kb.later cx
   replace ke := ke.later cx
   rw [ha]
   go_upto_region 4 with ((refine wpList_load_mid rfl 50 _ rfl _ (off + k * 3) (by first | rfl | simp) ([.int .i64 (x).ac, .int .i64 (x).am, .string (x).cu]) _ (hm) Tryz.underlying50 rfl (by kernel_rfl) ?_))
   rw [← ha]
   generalize wr.alloc (.cells _ 50) = w2 at *
   generalize wr.heap.size = g2 at *
   clear cx hbr hm ha
   have x0 := kx.c0
   have e1 := ke.c1
   have hr := HR.out _ c2
   by_cases hx : x.ac < 1000
   ·have dx : decide (x.ac < 1000) = true := decide_eq_true hx
    go_wp2_with (first | (refine wpList_load_row rfl 33 _ rfl _ rfl _ _ _ _ (kb) Tryz.underlying33 rfl (by kernel_rfl) ?_) | (refine wpList_load_row rfl 50 _ rfl _ rfl _ _ _ _ (kx) Tryz.underlying50 rfl (by kernel_rfl) ?_))
    refine (ledger_any B x _ hr).mono ?_
    rintro e w3 ⟨rfl, hb⟩
    have c3 := bl2 hb c2
    replace kb := kb.later hb
    replace ke := ke.later hb
    clear hb c2
    cases hz : (legE B x e0.bo != 0)
    ·have HZ := Lib.hid (show legE B x e0.bo = 0 by simpa using hz)
     rw [show legE B x e0.bo = ledE B x from if_pos hx] at hz
     go_wp2_with fail
     go_roundg (gk - 1)
     case measure => omega
     case rel => exact ⟨k + 1, by omega, by go_num, fun j hj => by
      by_cases e : j = k
      ·subst e; rw [← HX.out]; exact HZ.out
      ·exact HA.out j (by omega), kb, ke, c3⟩
    ·have HZ := Lib.hid (show legE B x e0.bo ≠ 0 by simpa using hz)
     rw [show legE B x e0.bo = ledE B x from if_pos hx] at hz
     go_wp2_with fail
     go_ret
     exact ⟨by rw [lgs_at hlt HA.out (by rw [← HX.out]; exact HZ.out), ← HX.out]; rw [show legE B x e0.bo = ledE B x from if_pos hx]; try rfl, c3⟩
   ·have dx : decide (x.ac < 1000) = false := decide_eq_false hx
    go_wp2_with (first | (refine wpList_load_row rfl 33 _ rfl _ rfl _ _ _ _ (kb) Tryz.underlying33 rfl (by kernel_rfl) ?_) | (refine wpList_load_row rfl 50 _ rfl _ rfl _ _ _ _ (kx) Tryz.underlying50 rfl (by kernel_rfl) ?_))
    refine (customer_any B x e0.bo _ hr).mono ?_
    rintro e w3 ⟨rfl, hb⟩
    have c3 := bl2 hb c2
    replace kb := kb.later hb
    replace ke := ke.later hb
    clear hb c2
    cases hz : (legE B x e0.bo != 0)
    ·have HZ := Lib.hid (show legE B x e0.bo = 0 by simpa using hz)
     rw [show legE B x e0.bo = cusE B x e0.bo from if_neg (by omega)] at hz
     go_wp2_with fail
     go_roundg (gk - 1)
     case measure => omega
     case rel => exact ⟨k + 1, by omega, by go_num, fun j hj => by
      by_cases e : j = k
      ·subst e; rw [← HX.out]; exact HZ.out
      ·exact HA.out j (by omega), kb, ke, c3⟩
    ·have HZ := Lib.hid (show legE B x e0.bo ≠ 0 by simpa using hz)
     rw [show legE B x e0.bo = cusE B x e0.bo from if_neg (by omega)] at hz
     go_wp2_with fail
     go_ret
     exact ⟨by rw [lgs_at hlt HA.out (by rw [← HX.out]; exact HZ.out), ← HX.out]; rw [show legE B x e0.bo = cusE B x e0.bo from if_neg (by omega)]; try rfl, c3⟩
  ·go_wp2_with fail
   go_ret
   exact ⟨by rw [lgs_all fun j hj => HA.out j (by omega)]; try rfl, hbr⟩
set_option maxHeartbeats 8000000 in
theorem jfind_any (a : Option Addr) (cap : Nat) (l : List En) (s : ByteArray) (w : World) (hn : l.length ≤ 100000) (h : RowIn enenc w a l) :
  Calls Tryz.prog 24 #[.slice a l.length cap, .string s] w fun e w' => e = .returned (.tuple #[(.agg #[.int .i64 ((fst' (fun d : En => d.ke.toList == s.toList) l)).id, .int .i64 ((fst' (fun d : En => d.ke.toList == s.toList) l)).bo, .int .i64 ((fst' (fun d : En => d.ke.toList == s.toList) l)).va, .int .i64 ((fst' (fun d : En => d.ke.toList == s.toList) l)).ki, .int .i64 ((fst' (fun d : En => d.ke.toList == s.toList) l)).au, .int .i64 ((fst' (fun d : En => d.ke.toList == s.toList) l)).pe, .string ((fst' (fun d : En => d.ke.toList == s.toList) l)).ke, .string ((fst' (fun d : En => d.ke.toList == s.toList) l)).tx, .slice ((fst' (fun d : En => d.ke.toList == s.toList) l)).la ((fst' (fun d : En => d.ke.toList == s.toList) l)).lg.length ((fst' (fun d : En => d.ke.toList == s.toList) l)).lk, .int .u64 ((fst' (fun d : En => d.ke.toList == s.toList) l)).ch]), .bool (fok (fun d : En => d.ke.toList == s.toList) l)]) ∧ Below w.heap.size w w' := by
 have cw : Below w.heap.size w ((w.alloc (.cells #[.string s] 9)).alloc (.cells #[.int .i64 0, .int .i64 0, .int .i64 0, .int .i64 0, .int .i64 0, .int .i64 0, .string { data := #[] }, .string { data := #[] }, .slice none 0 0, .int .u64 0] 39)) := Bk.be
 have ks : Bk.Blk ((w.alloc (.cells #[.string s] 9)).alloc (.cells #[.int .i64 0, .int .i64 0, .int .i64 0, .int .i64 0, .int .i64 0, .int .i64 0, .string { data := #[] }, .string { data := #[] }, .slice none 0 0, .int .u64 0] 39)) w.heap.size #[.string s] 9 := Bk.Blk.nw20
 have kz : Bk.Blk ((w.alloc (.cells #[.string s] 9)).alloc (.cells #[.int .i64 0, .int .i64 0, .int .i64 0, .int .i64 0, .int .i64 0, .int .i64 0, .string { data := #[] }, .string { data := #[] }, .slice none 0 0, .int .u64 0] 39)) (w.heap.size + 1) _ 39 := Bk.Blk.nw21
 have hr := h.later cw
 clear h
 go_enter Tryz.func24, Tryz.ntmps24
 go_upto_region 1 with fail
 generalize ((w.alloc (.cells #[.string s] 9)).alloc (.cells _ 39)) = w1 at *
 go_wp2_with fail
 refine (ixE_any 53 #[.pointer (some ⟨w.heap.size, 0, none⟩)] (fun d => d.ke.toList == s.toList) a cap l _ hn hr (enters_of Tryz.func53 (by kernel_rfl) rfl) (jfi1_any s _ _ _ ks.lt ks.c0)).mono ?_
 rintro e w2 ⟨r, rfl, hix, hb⟩
 replace kz := kz.later hb
 replace hr := hr.later hb
 have c2 := bl2 hb cw
 clear hb cw ks
 rcases hix with ⟨rfl, hall⟩ | ⟨k, hk, rfl, h1, h2⟩
 ·have HF := Lib.hid (fst_none (p := fun d : En => d.ke.toList == s.toList) (l := l) hall)
  clear hall
  go_wp2_with ((refine wpList_store_row rfl 39 _ _ rfl _ _ rfl rfl _ _ (kz) (by kernel_rfl) rfl (by simp [Value.oneCell']) ?_))
  (try simp only [Exit.inBlock, Exit.then])
  refine bodyPost_ret (results2_cell Tryz.results24 _ _ _ _ _ _ _ rfl (Blk_setRow_same kz) Tryz.underlying39 rfl (by kernel_rfl)) rfl ?_
  exact ⟨by rw [HF.out.1, HF.out.2]; rfl, Below_setRow c2 (by omega) _⟩
 ·have HF := Lib.hid (fst_at (p := fun d : En => d.ke.toList == s.toList) hk h1 h2)
  clear h1 h2
  obtain ⟨b, off, rfl, hc⟩ := rowat enenc_len hr (by omega)
  have hm := hc k hk
  clear hc hr
  obtain ⟨p, hp⟩ : ∃ p, p = l[k]! := ⟨_, rfl⟩
  rw [← hp] at hm
  have HQ := Lib.hid hp
  clear hp
  have o2 : decide ((k : Int) < 0) = false := decide_eq_false (by omega)
  go_wp2_with (first | (refine wpList_load_mid rfl 39 _ rfl _ (off + k * 10) (by first | rfl | simp) ([.int .i64 (p).id, .int .i64 (p).bo, .int .i64 (p).va, .int .i64 (p).ki, .int .i64 (p).au, .int .i64 (p).pe, .string (p).ke, .string (p).tx, .slice (p).la (p).lg.length (p).lk, .int .u64 (p).ch]) _ (hm) Tryz.underlying39 rfl (by kernel_rfl) ?_) | (refine wpList_store_row rfl 39 _ _ rfl _ _ rfl rfl _ _ (kz) (by kernel_rfl) rfl (by simp [Value.oneCell']) ?_))
  (try simp only [Exit.inBlock, Exit.then])
  refine bodyPost_ret (results2_cell Tryz.results24 _ _ _ _ _ _ _ rfl (Blk_setRow_same kz) Tryz.underlying39 rfl (by kernel_rfl)) rfl ?_
  exact ⟨by rw [HF.out.1, HF.out.2, ← HQ.out]; rfl, Below_setRow c2 (by omega) _⟩

def NumR (n : Nat) (w : World) (g : Nat) (s0 s : Value) (W : World) : Prop := ∃ k : Nat, k + g = n ∧ s = .int .i64 k ∧ (∃ h : Int, s0 = .int .u64 h) ∧ W = w
set_option maxHeartbeats 4000000 in
theorem eight_any (h n : Int) (w : World) : Calls Tryz.prog 136 #[.int .u64 h, .int .u64 n] w fun e w' => (∃ r : Int, e = .returned (.int .u64 r)) ∧ w = w' := by
 go_enter Tryz.func136, Tryz.ntmps136
 go_wp2_with fail
 go_loopg [0, 6] 8 (NumR 8 w)
 case atStart => exact ⟨0, by omega, rfl, ⟨h, rfl⟩, rfl⟩
 case round =>
  obtain ⟨k, hk, rfl, ⟨r, rfl⟩, rfl⟩ := hrel
  by_cases hlt : k < 8
  ·have hk1 : (k : Int) < 8 := by omega
   go_wp2_with fail
   go_roundg (gk - 1)
   case measure => omega
   case rel => exact ⟨k + 1, by omega, by go_num, ⟨_, rfl⟩, rfl⟩
  ·go_wp2_with fail
   go_ret
   exact ⟨⟨_, rfl⟩, rfl⟩
set_option maxHeartbeats 4000000 in
theorem extend_any (h : Int) (s : ByteArray) (w : World) (hs : s.size ≤ maxLen) : Calls Tryz.prog 135 #[.int .u64 h, .string s] w fun e w' => (∃ r : Int, e = .returned (.int .u64 r)) ∧ w = w' := by
 have hm : s.size ≤ 9223372036854775807 := by unfold maxLen at hs; omega
 clear hs
 go_enter Tryz.func135, Tryz.ntmps135
 go_wp2_with fail
 go_loopg [0, 8] s.size (NumR s.size w)
 case atStart => exact ⟨0, by omega, rfl, ⟨h, rfl⟩, rfl⟩
 case round =>
  obtain ⟨k, hk, rfl, ⟨r, rfl⟩, rfl⟩ := hrel
  by_cases hlt : k < s.size
  ·go_wp2_with fail
   go_roundg (gk - 1)
   case measure => omega
   case rel => exact ⟨k + 1, by omega, by go_num, ⟨_, rfl⟩, rfl⟩
  ·go_wp2_with fail
   go_ret
   exact ⟨⟨_, rfl⟩, rfl⟩
set_option maxHeartbeats 4000000 in
theorem chain_any (h : Int) (s : ByteArray) (w : World) (hs : s.size ≤ maxLen) : Calls Tryz.prog 102 #[.int .u64 h, .string s] w fun e w' => (∃ r : Int, e = .returned (.int .u64 r)) ∧ w = w' := by
 have HS := Lib.hid hs
 clear hs
 go_enter Tryz.func102, Tryz.ntmps102
 go_wp2_with fail
 refine (eight_any _ _ _).mono ?_
 rintro e w' ⟨⟨r, rfl⟩, rfl⟩
 go_wp2_with fail
 refine (extend_any _ _ _ HS.out).mono ?_
 rintro e w' ⟨⟨r, rfl⟩, rfl⟩
 go_wp2_with fail
 go_ret
 exact ⟨⟨_, rfl⟩, rfl⟩
theorem lg_info : (Tryz.prog.info? 50).map (fun i => (i.zero, i.size, i.bytes)) = some (some (.agg #[.int .i64 0, .int .i64 0, .string .empty]), 3, 32) := by kernel_rfl
set_option maxHeartbeats 2000000 in
theorem clonel_any (a : Option Addr) (cap : Nat) (l : List Lg) (w : World) (h : RowIn lgenc w a l) (hl : l.length ≤ 100000) :
  Calls Tryz.prog 101 #[.slice a l.length cap] w fun e w' => Below w.heap.size w w' ∧ ∃ a' c, e = .returned (.slice a' l.length c) ∧ RowIn lgenc w' a' l ∧ (∀ ad, a' = some ad → w.heap.size ≤ ad.block) := by
 have HR := Lib.hid h
 cases a with
 | none =>
  have h0 : l = [] := by
   rcases Nat.eq_zero_or_pos l.length with h0 | h0
   ·exact List.length_eq_zero_iff.1 h0
   ·obtain ⟨b, off, ha, _⟩ := h h0; cases ha
  subst h0
  clear h hl
  have q24 : ∀ (w : World) (n c n' c' : Nat), (binOp .eql 36 (.slice none n c) (.slice none n' c')).run Tryz.prog w = .ok (.bool true) w := fun w n c n' c' => Lib.run_eql_slice_nil w _ _ none n c n' c' Tryz.underlying36
  go_enter Tryz.func101, Tryz.ntmps101
  go_wp2_with fail
  go_ret
  exact ⟨Below.refl _ _, none, 0, rfl, fun h => absurd h (Nat.not_lt_zero _), fun ad h => by cases h⟩
 | some ad =>
  obtain ⟨i, hi, hzz⟩ := Option.map_eq_some_iff.1 lg_info
  simp only [Prod.mk.injEq] at hzz
  obtain ⟨hz, hsz, hby⟩ := hzz
  have HI := Lib.hid (And.intro hi (And.intro hz (And.intro hsz hby)))
  clear h hi hz hsz hby
  have q24 : ∀ (w : World) (n c n' c' : Nat), (binOp .eql 36 (.slice (some ad) n c) (.slice none n' c')).run Tryz.prog w = .ok (.bool false) w := fun w n c n' c' => Lib.run_eql_slice_nil w _ _ (some ad) n c n' c' Tryz.underlying36
  go_enter Tryz.func101, Tryz.ntmps101
  go_wp2_with (at_builtin; refine wpList_append_own _ rfl _ _ 36 rfl w.heap.size 50 i (.agg #[.int .i64 0, .int .i64 0, .string .empty]) 3 32 Tryz.underlying36 HI.out.1 HI.out.2.1 HI.out.2.2.1 HI.out.2.2.2 rfl (by decide) _ _ _ rfl (World.ownsRow_made w #[] 0 (Nat.le_refl _) (Nat.zero_le _) (by simp)) ad l.length cap (flat lgenc l) rfl ?qc1 ?qc2 ?qc3 ?qc4 ?qc5 ?qc6 ?_)
  case qc1 => exact flat_len lgenc_len l
  case qc2 =>
   intro j u hj
   have h0 : 0 < l.length := by
    rcases Nat.eq_zero_or_pos l.length with h0 | h0
    ·rw [List.length_eq_zero_iff.1 h0] at hj; simp [flat] at hj
    ·exact h0
   obtain ⟨b, off, ha, hc⟩ := HR.out h0
   obtain rfl := Option.some.inj ha
   rw [show (⟨b, off, none⟩ : Addr).add j = ⟨b, off + j, none⟩ from Go.WideShapes.add_plain ..]
   exact Lib.cell?_alloc_some _ (hc j u hj)
  case qc3 => exact flat_mem lgenc_one l
  case qc4 => rw [Nat.zero_add]; unfold maxLen; omega
  case qc5 => rw [Nat.zero_add]; omega
  case qc6 => simp
  intro v' w1 hown hgrow hnl
  have hnn : v' ≠ .slice none 0 0 := hnl
  obtain ⟨g, c, rfl, ho⟩ := OwnR.of hown hnn
  go_wp2_with fail
  go_ret
  exact ⟨((Below.refl _ w).alloc (Nat.le_refl _) _).grown hgrow (by simp) (by intro k hk; simp [Value.ownBlock] at hk; omega), _, c, rfl, ho.row, fun ad h => by cases h; exact ho.1⟩
def lastD (l : List En) : Int := if l.length = 0 then -1 else (l[l.length - 1]!).bo
set_option maxHeartbeats 4000000 in
theorem last_any (a : Option Addr) (cap : Nat) (l : List En) (w : World) (hn : l.length ≤ 100000) (h : RowIn enenc w a l) : Calls Tryz.prog 61 #[.slice a l.length cap] w fun e w' => (∃ r : Int, e = .returned (.tuple #[.int .u64 r, .int .i64 (lastD l)])) ∧ Below w.heap.size w w' := by
 have H := Lib.hid h
 clear h
 by_cases h0 : l.length = 0
 ·have HD := Lib.hid (show lastD l = -1 from if_pos h0)
  have g0 : ((l.length : Int) == 0) = true := by rw [h0]; rfl
  have H0 := Lib.hid h0
  clear h0
  go_enter Tryz.func61, Tryz.ntmps61
  go_wp2_with fail
  go_ret2
  exact ⟨⟨0, by rw [HD.out]; rfl⟩, Below.refl _ _⟩
 ·have HD := Lib.hid (show lastD l = (l[l.length - 1]!).bo from if_neg h0)
  have g0 : ((l.length : Int) == 0) = false := beq_eq_false_iff_ne.2 (by omega)
  have g1 : IntKind.i64.wrap ((l.length : Int) - 1) = (l.length : Int) - 1 := by rw [IntKind.wrap_i64]; omega
  obtain ⟨b, off, rfl, hc⟩ := rowat enenc_len H.out (by omega)
  have hm := hc (l.length - 1) (by omega)
  clear hc
  have q9 : ∀ W', Reg.Cls w W' → W'.cell? ⟨b, off + (l.length - 1) * 10 + 9, none⟩ = some (.int .u64 (l[l.length - 1]!).ch) := fun W' hW => cell_later hW (hm 9 _ rfl)
  have q1 : ∀ W', Reg.Cls w W' → W'.cell? ⟨b, off + (l.length - 1) * 10 + 1, none⟩ = some (.int .i64 (l[l.length - 1]!).bo) := fun W' hW => cell_later hW (hm 1 _ rfl)
  clear hm
  obtain ⟨m, hmm⟩ : ∃ m, m = l.length - 1 := ⟨_, rfl⟩
  have g2 : (l.length : Int) - 1 = (m : Int) := by omega
  have hml : m < l.length := by omega
  rw [← hmm] at q9 q1 HD
  rw [g2] at g1
  have G2 := Lib.hid g2
  clear hmm h0
  generalize l[m]! = p at *
  go_enter Tryz.func61, Tryz.ntmps61
  go_upto_region 3 with fail
  refine Reg.region_quiet (by kernel_rfl) (by kernel_rfl) ?_
  iterate 16 (first | go_big_quiet_skip | (go_big_quiet_want; (first | (go_big_quiet_op; go_big_quiet_on) | (apply Reg.quiet_run; (intro W hW; skip; go_simp; (first | done | rfl | exact ⟨rfl, rfl⟩ )); (simp only [Act.put, List.setIfInBounds_toArray, List.set_cons_zero, List.set_cons_succ]; go_big_quiet_on)) | (apply Reg.quiet_call; (intro W hW; go_simp; (first | done | rfl | exact ⟨rfl, rfl⟩)); (intro W hW; (first | fail)); (simp only [Act.put, List.setIfInBounds_toArray, List.set_cons_zero, List.set_cons_succ]; go_big_quiet_on)))))
  refine wpQuiet_nil ?_
  intro w4 hW
  have c4 : Below w.heap.size w w4 := hW
  clear hW q9 q1
  go_wp2_with fail
  go_ret2
  exact ⟨⟨p.ch, by rw [HD.out]; rfl⟩, c4⟩
end Go.Proofs.YtjhpiclnpmdjnaaGreatDoor.Bm
