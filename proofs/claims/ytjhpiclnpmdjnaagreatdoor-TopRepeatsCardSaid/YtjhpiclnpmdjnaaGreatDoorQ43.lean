/-
  Parts of the proof: B21.
-/
import Derived.Test.YtjhpiclnpmdjnaaGreatDoorQ18
import Derived.Test.YtjhpiclnpmdjnaaGreatDoorQ42
import Derived.Test.YtjhpiclnpmdjnaaGreatDoorQ14
namespace Go.Proofs.YtjhpiclnpmdjnaaGreatDoor.Bm
open Go Go.RowKit
open Go.Proofs.YtjhpiclnpmdjnaaGreatDoor
open Go.Proofs.YtjhpiclnpmdjnaaGreatDoor.Kl (upto upto_yes upto_no upto_iff byt byt_get upB codeB)
open Go.Proofs.YtjhpiclnpmdjnaaGreatDoor.Ln (flat flat_len flat_get flat_mem RowIn OwnR Idx bl2 results2_cell Blk_setRow_same Blk_setRow_ne Below_setRow)
set_option linter.unusedSimpArgs false
set_option linter.unusedVariables false
set_option maxRecDepth 100000

def exL : List Lg := [⟨101, 100000, ⟨#[69, 85, 82]⟩⟩, ⟨1000, -100000, ⟨#[69, 85, 82]⟩⟩]
def exE (la : Option Addr) : En := ⟨0, 9678, 9678, 1, 0, 0, ⟨#[107]⟩, .empty, la, 2, exL, 0⟩
theorem row_set {α : Type} {enc : α → List Value} {W : World} {a : Option Addr} {xs : List α} {gb : Nat} {cs : Array Value} (h : RowIn enc W a xs) (hne : ∀ b off, a = some ⟨b, off, none⟩ → b ≠ gb) : RowIn enc (W.setRow gb cs) a xs := fun h0 => by
 obtain ⟨b, off, ha, hc⟩ := h h0
 exact ⟨b, off, ha, fun j u hj => by rw [cell_setRow_other _ _ _ _ (hne b off ha)]; exact hc j u hj⟩
theorem two {p : Nat → Prop} (h0 : p 0) (h1 : p 1) : ∀ j, j < 2 → p j := fun j hj => by
 rcases (show j = 0 ∨ j = 1 by omega) with rfl | rfl
 ·exact h0
 ·exact h1
theorem ex_g (la : Option Addr) : EnG (exE la) ⟨#[69, 85, 82]⟩ := ⟨by kernel_rfl, by kernel_rfl, (show (0 : Int) ≤ 9678 ∧ (9678 : Int) ≤ 73048 by decide), (show (0 : Int) ≤ 9678 ∧ (9678 : Int) ≤ 73048 by decide), (show (0 : Int) ≤ 0 ∧ (0 : Int) ≤ 73048 by decide), (show (1 : Int) ≤ 1 ∧ (1 : Int) ≤ 14 by decide), (show (0 : Int) ≤ 0 ∧ (0 : Int) ≤ 3 by decide), (show 2 ≤ 2 ∧ 2 ≤ 12 by decide), two (show (1 : Int) ≤ 101 ∧ (100000 : Int) ≠ 0 ∧ (-1000000000000 : Int) ≤ 100000 ∧ (100000 : Int) ≤ 1000000000000 ∧ (⟨#[69, 85, 82]⟩ : ByteArray) = ⟨#[69, 85, 82]⟩ from ⟨by decide, by decide, by decide, by decide, rfl⟩) (show (1 : Int) ≤ 1000 ∧ (-100000 : Int) ≠ 0 ∧ (-1000000000000 : Int) ≤ -100000 ∧ (-100000 : Int) ≤ 1000000000000 ∧ (⟨#[69, 85, 82]⟩ : ByteArray) = ⟨#[69, 85, 82]⟩ from ⟨by decide, by decide, by decide, by decide, rfl⟩), by kernel_rfl, by kernel_rfl⟩
theorem ex_s (la : Option Addr) : EnS (exE la) := ⟨(show wid (0) from by unfold wid; decide), (show wid (9678) from by unfold wid; decide), (show wid (9678) from by unfold wid; decide), (show wid (1) from by unfold wid; decide), (show wid (0) from by unfold wid; decide), (show wid (0) from by unfold wid; decide), (show 1 ≤ 100 by decide), (show 0 ≤ 100 by decide), (show 1 ≤ 2 ∧ 2 ≤ 12 by decide), two ⟨(show wid (101) from by unfold wid; decide), (show wid (100000) from by unfold wid; decide), (show 3 ≤ 100 by decide)⟩ ⟨(show wid (1000) from by unfold wid; decide), (show wid (-100000) from by unfold wid; decide), (show 3 ≤ 100 by decide)⟩⟩
theorem ex_aO {B : Bo} (h : ExB B) : aO B 1000 = true := by
 obtain ⟨n0, n1, ha⟩ := h.a
 unfold aO
 rw [ha]
 kernel_rfl
theorem ex_aF {B : Bo} (h : ExB B) : ∃ n0, aF B 1000 = ⟨1000, 9678, 0, 0, ⟨#[97, 110, 110, 97]⟩, ⟨#[103, 105, 114, 111]⟩, n0⟩ := by
 obtain ⟨n0, n1, ha⟩ := h.a
 refine ⟨n0, ?_⟩
 unfold aF
 rw [ha]
 kernel_rfl
theorem ex_act {B : Bo} (h : ExB B) : actB B 1000 9678 = true := by
 obtain ⟨n0, ha⟩ := ex_aF h
 unfold actB
 rw [ex_aO h, ha]
 kernel_rfl
theorem ex_al {B : Bo} (h : ExB B) (hb : B.ba = none ∧ B.bn = 0 ∧ B.bk = 0) (la : Option Addr) : AlG B (exE la) := by
 refine ⟨hb, rfl, (show 0 < 2 ∧ 2 ≤ 100000 by decide), fun i j hij hj => ?_, two rfl rfl, two (.inl (show (101 : Int) < 1000 by decide)) (.inr ⟨(show (1000 : Int) ≤ 1000 by decide), ex_aO h, ex_act h, (show (-100000 : Int) < 0 by decide)⟩)⟩
 have hj' : j < 2 := hj
 obtain ⟨rfl, rfl⟩ : i = 0 ∧ j = 1 := by omega
 exact (show (101 : Int) < 1000 by decide)
theorem ex_le {B : Bo} (h : ExB B) : lgsE B 9678 exL = 0 := by
 obtain ⟨ua, uk, us, ka, kn, kk, ga, gk, gs, pl, pa, pk, ps, aa, ak, as', ja, jk, js, ha, hn, hk, ba, bn, bk⟩ := B
 obtain ⟨hu, hg, hpl, ⟨ta, hp⟩, ⟨n0, n1, haa⟩, hj, hb⟩ := h
 dsimp only at hu hg hp haa
 subst hu hg hp haa
 kernel_rfl
theorem ex_aO2 {B B2 : Bo} {g : Nat} {e : En} (h : ExB B) (h2 : B2 = B.post g e) : aO B2 1000 = true := by rw [h2]; exact (show aO B 1000 = true from ex_aO h)
theorem ex_aF2 {B B2 : Bo} {g : Nat} {e : En} (h : ExB B) (h2 : B2 = B.post g e) : ∃ n0, aF B2 1000 = ⟨1000, 9678, 0, 0, ⟨#[97, 110, 110, 97]⟩, ⟨#[103, 105, 114, 111]⟩, n0⟩ := by rw [h2]; obtain ⟨n0, h0⟩ := ex_aF h; exact ⟨n0, (show aF B 1000 = _ from h0)⟩
theorem ex_p2 {B B2 : Bo} {g : Nat} {e : En} (h : ExB B) (h2 : B2 = B.post g e) : ∃ ta, B2.ps = [exP ta] := by rw [h2]; exact h.p
theorem ex_at2 {B B2 : Bo} {g : Nat} {e : En} (h : ExB B) (h2 : B2 = B.post g e) : atB B2.ps (aF B2 1000).pr 9678 = true := by
 obtain ⟨n0, ha⟩ := ex_aF2 h h2
 obtain ⟨ta, hp⟩ := ex_p2 h h2
 rw [ha, hp]
 kernel_rfl
theorem ex_ov2 {B B2 : Bo} {g : Nat} {e : En} (h : ExB B) (h2 : B2 = B.post g e) : 0 ≤ (atP B2.ps (aF B2 1000).pr 9678).ov ∧ (atP B2.ps (aF B2 1000).pr 9678).ov ≤ 1000000000000000 := by
 obtain ⟨n0, ha⟩ := ex_aF2 h h2
 obtain ⟨ta, hp⟩ := ex_p2 h h2
 have : (atP B2.ps (aF B2 1000).pr 9678).ov = 500 := by
  rw [ha, hp]
  kernel_rfl
 omega
theorem ex_ex2 {B B2 : Bo} {g : Nat} {e : En} (h : ExB B) (h2 : B2 = B.post g e) : 0 ≤ (aF B2 1000).ex ∧ (aF B2 1000).ex ≤ 1000000000000000 := by
 obtain ⟨n0, ha⟩ := ex_aF2 h h2
 rw [ha]
 exact (show (0 : Int) ≤ 0 ∧ (0 : Int) ≤ 1000000000000000 by decide)
theorem ofv_ex : ofv (mvs exL 1000) = 100000 := by kernel_rfl
set_option maxHeartbeats 16000000 in
theorem alive_any (w : World) (ht : Tab w) : Calls Tryz.prog 5 #[] w fun e w' => e = .returned (.bool true) ∧ Below w.heap.size w w' := by
 have HT := Lib.hid ht
 clear ht
 go_enter Tryz.func5, Tryz.ntmps5
 go_wp2_with fail
 refine (books_any _).mono ?_
 rintro e w1 ⟨⟨B, rfl, hB, hX⟩, c1⟩
 have HX := Lib.hid hX
 clear hX
 go_upto_region 2 with ((refine wpList_store_row rfl 33 _ _ rfl _ _ rfl rfl _ _ (Bk.Blk.nw10) (by kernel_rfl) rfl (by simp [Value.oneCell']) ?_))
 have kb : Bk.Blk ((w1.alloc (.cells #[.slice none 0 0, .slice none 0 0, .slice none 0 0, .int .i64 0, .int .i64 0, .int .i64 0, .int .i64 0, .int .i64 0, .int .i64 0, .int .i64 0, .int .i64 0, .int .i64 0, .int .i64 0, .int .i64 0, .int .i64 0, .int .i64 0, .int .i64 0, .slice none 0 0, .slice none 0 0, .slice none 0 0, .slice none 0 0, .slice none 0 0] 33)).setRow w1.heap.size #[.slice (B).ua (B).us.length (B).uk, .slice (B).ka (B).kn (B).kk, .slice (B).ga (B).gs.length (B).gk, .int .i64 ((B).pl).p0, .int .i64 ((B).pl).p1, .int .i64 ((B).pl).p2, .int .i64 ((B).pl).p3, .int .i64 ((B).pl).p4, .int .i64 ((B).pl).p5, .int .i64 ((B).pl).p6, .int .i64 ((B).pl).p7, .int .i64 ((B).pl).p8, .int .i64 ((B).pl).p9, .int .i64 ((B).pl).p10, .int .i64 ((B).pl).p11, .int .i64 ((B).pl).p12, .int .i64 ((B).pl).p13, .slice (B).pa (B).ps.length (B).pk, .slice (B).aa (B).as.length (B).ak, .slice (B).ja (B).js.length (B).jk, .slice (B).ha (B).hn (B).hk, .slice (B).ba (B).bn (B).bk]) w1.heap.size _ 33 := Blk_setRow_same Bk.Blk.nw10
 have hx0 : Below w1.heap.size w1 ((w1.alloc (.cells #[.slice none 0 0, .slice none 0 0, .slice none 0 0, .int .i64 0, .int .i64 0, .int .i64 0, .int .i64 0, .int .i64 0, .int .i64 0, .int .i64 0, .int .i64 0, .int .i64 0, .int .i64 0, .int .i64 0, .int .i64 0, .int .i64 0, .int .i64 0, .slice none 0 0, .slice none 0 0, .slice none 0 0, .slice none 0 0, .slice none 0 0] 33)).setRow w1.heap.size #[.slice (B).ua (B).us.length (B).uk, .slice (B).ka (B).kn (B).kk, .slice (B).ga (B).gs.length (B).gk, .int .i64 ((B).pl).p0, .int .i64 ((B).pl).p1, .int .i64 ((B).pl).p2, .int .i64 ((B).pl).p3, .int .i64 ((B).pl).p4, .int .i64 ((B).pl).p5, .int .i64 ((B).pl).p6, .int .i64 ((B).pl).p7, .int .i64 ((B).pl).p8, .int .i64 ((B).pl).p9, .int .i64 ((B).pl).p10, .int .i64 ((B).pl).p11, .int .i64 ((B).pl).p12, .int .i64 ((B).pl).p13, .slice (B).pa (B).ps.length (B).pk, .slice (B).aa (B).as.length (B).ak, .slice (B).ja (B).js.length (B).jk, .slice (B).ha (B).hn (B).hk, .slice (B).ba (B).bn (B).bk]) := Below_setRow ((Below.refl _ w1).alloc (Nat.le_refl _) _) (Nat.le_refl _) _
 have c2 : Below w.heap.size w ((w1.alloc (.cells #[.slice none 0 0, .slice none 0 0, .slice none 0 0, .int .i64 0, .int .i64 0, .int .i64 0, .int .i64 0, .int .i64 0, .int .i64 0, .int .i64 0, .int .i64 0, .int .i64 0, .int .i64 0, .int .i64 0, .int .i64 0, .int .i64 0, .int .i64 0, .slice none 0 0, .slice none 0 0, .slice none 0 0, .slice none 0 0, .slice none 0 0] 33)).setRow w1.heap.size #[.slice (B).ua (B).us.length (B).uk, .slice (B).ka (B).kn (B).kk, .slice (B).ga (B).gs.length (B).gk, .int .i64 ((B).pl).p0, .int .i64 ((B).pl).p1, .int .i64 ((B).pl).p2, .int .i64 ((B).pl).p3, .int .i64 ((B).pl).p4, .int .i64 ((B).pl).p5, .int .i64 ((B).pl).p6, .int .i64 ((B).pl).p7, .int .i64 ((B).pl).p8, .int .i64 ((B).pl).p9, .int .i64 ((B).pl).p10, .int .i64 ((B).pl).p11, .int .i64 ((B).pl).p12, .int .i64 ((B).pl).p13, .slice (B).pa (B).ps.length (B).pk, .slice (B).aa (B).as.length (B).ak, .slice (B).ja (B).js.length (B).jk, .slice (B).ha (B).hn (B).hk, .slice (B).ba (B).bn (B).bk]) := bl2 hx0 c1
 have hB2 := hB.later hx0
 have hz := Below.size c1
 generalize ((w1.alloc (.cells _ 33)).setRow w1.heap.size _) = w2 at *
 obtain ⟨gb, hgb⟩ : ∃ gb, gb = w1.heap.size := ⟨_, rfl⟩
 rw [← hgb] at kb ⊢
 have lb : w.heap.size ≤ gb := by omega
 have hgb1 : w1.heap.size ≤ gb := by omega
 have HB := Lib.hid hB
 have H0 := Lib.hid hx0
 clear hgb hx0 hB c1 hz
 (try simp only [Act.put])
 have cx : Below w2.heap.size w2 (w2.alloc (.cells #[.int .i64 101, .int .i64 100000, .string ⟨#[69, 85, 82]⟩, .int .i64 1000, .int .i64 (-100000), .string ⟨#[69, 85, 82]⟩] 50)) := Bk.be
 have kl : Bk.Blk (w2.alloc (.cells #[.int .i64 101, .int .i64 100000, .string ⟨#[69, 85, 82]⟩, .int .i64 1000, .int .i64 (-100000), .string ⟨#[69, 85, 82]⟩] 50)) w2.heap.size _ 50 := Bk.Blk.nw10
 have HR := Lib.hid (row_of_blk (enc := lgenc) (xs := exL) (Bk.Blk.conv kl (by kernel_rfl)))
 have hB3 := hB2.later cx
 have kb3 := kb.later cx
 have c3 := bl2 cx c2
 go_wp2_with ((refine wpList_load_row rfl 33 _ rfl _ rfl _ _ _ _ (kb) Tryz.underlying33 rfl (by kernel_rfl) ?_))
 generalize (w2.alloc (.cells _ 50)) = w3 at *
 refine (post_ok B (exE (some ⟨w2.heap.size, 0, none⟩)) ⟨#[69, 85, 82]⟩ _ hB3 HX.out.j (ex_g _) (ex_s _) (ex_al HX.out HX.out.b _) (ex_le HX.out) HR.out (HT.out.of c3)).mono ?_
 rintro e w4 ⟨g, la, lk, r, rfl, hrow, hlr, hb⟩
 have kb4 := kb3.later hb
 have c4 := bl2 hb c3
 have h4 : Below w1.heap.size w1 w4 := bl2 hb (bl2 cx H0.out)
 obtain ⟨bl, ol, hla, hcl⟩ := rowat lgenc_len hlr (by show 0 < 2; decide)
 have ng : g ≠ gb := by
  intro e
  obtain ⟨b', o', e', hc⟩ := rowat enenc_len hrow (by simp)
  have hm := hc 0 (by simp) 0 _ rfl
  cases e'
  rw [e] at hm
  have hq := kb4.c0
  rw [hq] at hm
  cases hm
 have nl : bl ≠ gb := by
  intro e
  have hm := hcl 0 (by show 0 < 2; decide) 2 _ rfl
  rw [e, Bk.Blk.cell kb4] at hm
  have := Array.mem_of_getElem? hm
  simp at this
 have HROW := Lib.hid hrow
 have HLR := Lib.hid hlr
 have HLA := Lib.hid hla
 have H4 := Lib.hid h4
 clear hrow hlr hla h4 hcl hb cx kb kb3 kl hB2 hB3 HR c2 c3
 obtain ⟨e1, he1⟩ : ∃ e1, e1 = (exE (some ⟨w2.heap.size, 0, none⟩)).sld 1 la lk r := ⟨_, rfl⟩
 obtain ⟨B2, hB2⟩ : ∃ B2, B2 = B.post g e1 := ⟨_, rfl⟩
 rw [← he1, ← hB2]
 have HE1 := Lib.hid he1
 have HB2 := Lib.hid hB2
 clear he1 hB2
 go_upto_region 3 with ((refine wpList_store_row rfl 33 _ _ rfl _ _ rfl rfl _ _ (kb4) (by kernel_rfl) rfl (by simp [Value.oneCell']) ?_))
 have kb5 : Bk.Blk (w4.setRow gb #[.slice (B2).ua (B2).us.length (B2).uk, .slice (B2).ka (B2).kn (B2).kk, .slice (B2).ga (B2).gs.length (B2).gk, .int .i64 ((B2).pl).p0, .int .i64 ((B2).pl).p1, .int .i64 ((B2).pl).p2, .int .i64 ((B2).pl).p3, .int .i64 ((B2).pl).p4, .int .i64 ((B2).pl).p5, .int .i64 ((B2).pl).p6, .int .i64 ((B2).pl).p7, .int .i64 ((B2).pl).p8, .int .i64 ((B2).pl).p9, .int .i64 ((B2).pl).p10, .int .i64 ((B2).pl).p11, .int .i64 ((B2).pl).p12, .int .i64 ((B2).pl).p13, .slice (B2).pa (B2).ps.length (B2).pk, .slice (B2).aa (B2).as.length (B2).ak, .slice (B2).ja (B2).js.length (B2).jk, .slice (B2).ha (B2).hn (B2).hk, .slice (B2).ba (B2).bn (B2).bk]) gb _ 33 := Blk_setRow_same kb4
 have c5 : Below w.heap.size w (w4.setRow gb #[.slice (B2).ua (B2).us.length (B2).uk, .slice (B2).ka (B2).kn (B2).kk, .slice (B2).ga (B2).gs.length (B2).gk, .int .i64 ((B2).pl).p0, .int .i64 ((B2).pl).p1, .int .i64 ((B2).pl).p2, .int .i64 ((B2).pl).p3, .int .i64 ((B2).pl).p4, .int .i64 ((B2).pl).p5, .int .i64 ((B2).pl).p6, .int .i64 ((B2).pl).p7, .int .i64 ((B2).pl).p8, .int .i64 ((B2).pl).p9, .int .i64 ((B2).pl).p10, .int .i64 ((B2).pl).p11, .int .i64 ((B2).pl).p12, .int .i64 ((B2).pl).p13, .slice (B2).pa (B2).ps.length (B2).pk, .slice (B2).aa (B2).as.length (B2).ak, .slice (B2).ja (B2).js.length (B2).jk, .slice (B2).ha (B2).hn (B2).hk, .slice (B2).ba (B2).bn (B2).bk]) := Below_setRow c4 lb _
 have hBB := HB.out.later (Below_setRow H4.out hgb1 #[.slice (B2).ua (B2).us.length (B2).uk, .slice (B2).ka (B2).kn (B2).kk, .slice (B2).ga (B2).gs.length (B2).gk, .int .i64 ((B2).pl).p0, .int .i64 ((B2).pl).p1, .int .i64 ((B2).pl).p2, .int .i64 ((B2).pl).p3, .int .i64 ((B2).pl).p4, .int .i64 ((B2).pl).p5, .int .i64 ((B2).pl).p6, .int .i64 ((B2).pl).p7, .int .i64 ((B2).pl).p8, .int .i64 ((B2).pl).p9, .int .i64 ((B2).pl).p10, .int .i64 ((B2).pl).p11, .int .i64 ((B2).pl).p12, .int .i64 ((B2).pl).p13, .slice (B2).pa (B2).ps.length (B2).pk, .slice (B2).aa (B2).as.length (B2).ak, .slice (B2).ja (B2).js.length (B2).jk, .slice (B2).ha (B2).hn (B2).hk, .slice (B2).ba (B2).bn (B2).bk])
 have HJ5 : Hid (RowIn enenc (w4.setRow gb #[.slice (B2).ua (B2).us.length (B2).uk, .slice (B2).ka (B2).kn (B2).kk, .slice (B2).ga (B2).gs.length (B2).gk, .int .i64 ((B2).pl).p0, .int .i64 ((B2).pl).p1, .int .i64 ((B2).pl).p2, .int .i64 ((B2).pl).p3, .int .i64 ((B2).pl).p4, .int .i64 ((B2).pl).p5, .int .i64 ((B2).pl).p6, .int .i64 ((B2).pl).p7, .int .i64 ((B2).pl).p8, .int .i64 ((B2).pl).p9, .int .i64 ((B2).pl).p10, .int .i64 ((B2).pl).p11, .int .i64 ((B2).pl).p12, .int .i64 ((B2).pl).p13, .slice (B2).pa (B2).ps.length (B2).pk, .slice (B2).aa (B2).as.length (B2).ak, .slice (B2).ja (B2).js.length (B2).jk, .slice (B2).ha (B2).hn (B2).hk, .slice (B2).ba (B2).bn (B2).bk]) (some ⟨g, 0, none⟩) [e1]) := Lib.hid (by rw [HE1.out]; exact row_set HROW.out (fun b o e => by cases e; exact ng))
 have HL5 : Hid (RowIn lgenc (w4.setRow gb #[.slice (B2).ua (B2).us.length (B2).uk, .slice (B2).ka (B2).kn (B2).kk, .slice (B2).ga (B2).gs.length (B2).gk, .int .i64 ((B2).pl).p0, .int .i64 ((B2).pl).p1, .int .i64 ((B2).pl).p2, .int .i64 ((B2).pl).p3, .int .i64 ((B2).pl).p4, .int .i64 ((B2).pl).p5, .int .i64 ((B2).pl).p6, .int .i64 ((B2).pl).p7, .int .i64 ((B2).pl).p8, .int .i64 ((B2).pl).p9, .int .i64 ((B2).pl).p10, .int .i64 ((B2).pl).p11, .int .i64 ((B2).pl).p12, .int .i64 ((B2).pl).p13, .slice (B2).pa (B2).ps.length (B2).pk, .slice (B2).aa (B2).as.length (B2).ak, .slice (B2).ja (B2).js.length (B2).jk, .slice (B2).ha (B2).hn (B2).hk, .slice (B2).ba (B2).bn (B2).bk]) la exL) := Lib.hid (row_set HLR.out (fun b o e => by rw [HLA.out] at e; cases e; exact nl))
 generalize w4.setRow gb #[.slice (B2).ua (B2).us.length (B2).uk, .slice (B2).ka (B2).kn (B2).kk, .slice (B2).ga (B2).gs.length (B2).gk, .int .i64 ((B2).pl).p0, .int .i64 ((B2).pl).p1, .int .i64 ((B2).pl).p2, .int .i64 ((B2).pl).p3, .int .i64 ((B2).pl).p4, .int .i64 ((B2).pl).p5, .int .i64 ((B2).pl).p6, .int .i64 ((B2).pl).p7, .int .i64 ((B2).pl).p8, .int .i64 ((B2).pl).p9, .int .i64 ((B2).pl).p10, .int .i64 ((B2).pl).p11, .int .i64 ((B2).pl).p12, .int .i64 ((B2).pl).p13, .slice (B2).pa (B2).ps.length (B2).pk, .slice (B2).aa (B2).as.length (B2).ak, .slice (B2).ja (B2).js.length (B2).jk, .slice (B2).ha (B2).hn (B2).hk, .slice (B2).ba (B2).bn (B2).bk] = w5 at *
 have HB5 : Hid (BoIn w5 B2) := Lib.hid (by rw [HB2.out]; exact ⟨hBB.u, hBB.g, hBB.p, hBB.a, HJ5.out, ⟨hBB.n.1, hBB.n.2.1, hBB.n.2.2.1, hBB.n.2.2.2.1, (show 1 ≤ 100000 by decide)⟩⟩)
 clear hBB kb4 c4 H4 HROW HLR
 have l19 : w5.cell? ⟨gb, 19, none⟩ = some (.slice (some ⟨g, 0, none⟩) 1 1) := by
  have h19 := kb5.c19
  rw [HB2.out] at h19
  exact h19
 have HLG : e1.lg = exL := by rw [HE1.out]; rfl
 have HLA1 : e1.la = la := by rw [HE1.out]; rfl
 have HOF := Lib.hid (of_row (some ⟨g, 0, none⟩) 1 e1 1000 w5 HJ5.out (by rw [HLG, HLA1]; exact HL5.out) (by rw [HLG]; decide) (by rw [HLG]; decide))
 rw [HLG, ofv_ex] at HOF
 have HL6 : Hid (RowIn lgenc w5 e1.la e1.lg) := Lib.hid (by rw [HLG, HLA1]; exact HL5.out)
 have HG6 := Lib.hid (show e1.lg = exL from HLG)
 clear HLG HLA1
 (try simp only [Act.put])
 go_wp2_with ((refine wpList_load_row rfl 33 _ rfl _ rfl _ _ _ _ (kb5) Tryz.underlying33 rfl (by kernel_rfl) ?_))
 refine HOF.out.mono ?_
 rintro e w6 ⟨rfl, hb⟩
 replace kb5 := kb5.later hb
 have c6 := bl2 hb c5
 have HS := Lib.hid (safe_ok B2 1000 9678 e1 w6 (HB5.out.later hb) (by rw [HB2.out]; rfl) (HL6.out.later hb) (Lib.hid (by rw [HG6.out]; exact (show 0 < 2 ∧ 2 ≤ 100000 by decide))) (ex_aO2 HX.out HB2.out) (ex_at2 HX.out HB2.out) (ex_ov2 HX.out HB2.out) (ex_ex2 HX.out HB2.out) (Lib.hid (by rw [HG6.out, ofv_ex]; exact (show (0 : Int) ≤ 100000 by decide))))
 clear hb c5 l19 HOF HB5 HL6
 go_wp2_with (refine Ln.load_guarded 33 _ rfl rfl _ rfl _ _ _ _ (kb5) Tryz.underlying33 rfl (by kernel_rfl) ?_)
 refine HS.out.mono ?_
 rintro e w7 ⟨rfl, hb⟩
 have c7 := bl2 hb c6
 clear hb c6 HS kb5
 go_wp2_with fail
 go_ret
 exact ⟨rfl, c7⟩
end Go.Proofs.YtjhpiclnpmdjnaaGreatDoor.Bm
