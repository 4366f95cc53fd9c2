/-
  Parts of the proof: Lp4, Lp5.
-/
import Derived.Test.YtlolflephnbbcaaGreatDoorQ44
import Derived.Deep.CutBlock
import Derived.Deep.RegionHeld3
import Derived.Test.YtlolflephnbbcaaGreatDoorQ15
import Derived.Test.YtlolflephnbbcaaGreatDoorQ19
import Derived.Test.YtlolflephnbbcaaGreatDoorQ16
import Derived.Test.YtlolflephnbbcaaGreatDoorQ18
import Derived.Deep.MidRow
namespace Go.Proofs.YtlolflephnbbcaaGreatDoor.Ln
open Go.RowKit
open Go.Proofs.YtlolflephnbbcaaGreatDoor
set_option maxRecDepth 100000
set_option linter.unusedSimpArgs false

theorem cut_open {P : Program} {c : Code} {Q : Exit → Act → World → Prop} {a : Act} {w : World} (h : ∀ K, K = Q .normal → Code.wp P c (Exit.then K Q) a w) : Code.wp P c Q a w := by
 have e : Exit.then (Q .normal) Q = Q := by
  funext e a w
  cases e <;> rfl
 have := h _ rfl
 rwa [e] at this
theorem first_pos {ow : List Pa} {k : Int} (h : firstK ow = k) (hk : k ≠ 5) : 0 < ow.length := by
 cases ow with
 | nil => exact absurd h.symm hk
 | cons _ _ => simp
def SPR (w : World) (g og : Nat) (ow : List Pa) (L : Lo) (da ca : Option Addr) (dk ck : Nat) (n : Int) (ps : List Pa) (wx : World) : Prop := ∃ v, PSt w wx g og ow L da ca dk ck n v ps
def SWR (w : World) (g : Nat) (sl : Value) (L : Lo) (da ca : Option Addr) (dk ck : Nat) (n : Int) (ps : List Pa) (wx : World) : Prop := ∃ v, PTl w wx g sl L da ca dk ck n v ps

set_option maxRecDepth 100000 in
set_option maxHeartbeats 16000000 in
theorem pay_ok (l : Lo) (da ca : Option Addr) (dk ck : Nat) (n on : Int) (w : World) (h : DuesIn w da l.ds) (hc : RowIn cenc w ca l.cs) (he : payE l n on = 0) :
  Calls Tryz.prog 33 #[(.agg #[.int .i64 (l).id, .int .i64 (l).ac, .int .i64 (l).st, .int .i64 (l).pp, .int .i64 (l).pi, .int .i64 (l).fee, .int .i64 (l).pen, .int .i64 (l).chg, .int .i64 (l).prov, .int .i64 (l).loss, .int .i64 (l).rcv, .int .i64 ((l).tm).me, .int .i64 ((l).tm).pr, .int .i64 ((l).tm).ppm, .int .i64 ((l).tm).stt, .int .i64 ((l).tm).ev, .int .i64 ((l).tm).ct, .int .i64 ((l).tm).ba, .int .i64 ((l).tm).mo, .int .i64 ((l).tm).pen, .int .i64 ((l).tm).fe, .string ((l).tm).cal, .string ((l).tm).cur, .slice da (l).ds.length dk, .slice ca (l).cs.length ck]), .int .i64 n, .int .i64 on] w fun e w' => ∃ a c da' dk' ca' ck', e = .returned (.tuple #[(.agg #[.int .i64 ((payL l n on)).id, .int .i64 ((payL l n on)).ac, .int .i64 ((payL l n on)).st, .int .i64 ((payL l n on)).pp, .int .i64 ((payL l n on)).pi, .int .i64 ((payL l n on)).fee, .int .i64 ((payL l n on)).pen, .int .i64 ((payL l n on)).chg, .int .i64 ((payL l n on)).prov, .int .i64 ((payL l n on)).loss, .int .i64 ((payL l n on)).rcv, .int .i64 (((payL l n on)).tm).me, .int .i64 (((payL l n on)).tm).pr, .int .i64 (((payL l n on)).tm).ppm, .int .i64 (((payL l n on)).tm).stt, .int .i64 (((payL l n on)).tm).ev, .int .i64 (((payL l n on)).tm).ct, .int .i64 (((payL l n on)).tm).ba, .int .i64 (((payL l n on)).tm).mo, .int .i64 (((payL l n on)).tm).pen, .int .i64 (((payL l n on)).tm).fe, .string (((payL l n on)).tm).cal, .string (((payL l n on)).tm).cur, .slice da' ((payL l n on)).ds.length dk', .slice ca' ((payL l n on)).cs.length ck']), .slice a (payD l n on).pps.length c, .int .i64 0]) ∧ RowIn penc w' a (payD l n on).pps ∧ RowIn denc w' da' l.ds ∧ RowIn cenc w' ca' l.cs ∧ Below w.heap.size w w' := by
 have HC := Lib.hid (fun (W : World) (hW : Below w.heap.size w W) => check_any l da ca dk ck W (h.later hW))
 have HV := Lib.hid (fun (W : World) => day_any on W)
 have HDU := Lib.hid h
 have HCH := Lib.hid hc
 have b2 : Below w.heap.size w ((w.alloc (.cells #[.int .i64 (l).id, .int .i64 (l).ac, .int .i64 (l).st, .int .i64 (l).pp, .int .i64 (l).pi, .int .i64 (l).fee, .int .i64 (l).pen, .int .i64 (l).chg, .int .i64 (l).prov, .int .i64 (l).loss, .int .i64 (l).rcv, .int .i64 ((l).tm).me, .int .i64 ((l).tm).pr, .int .i64 ((l).tm).ppm, .int .i64 ((l).tm).stt, .int .i64 ((l).tm).ev, .int .i64 ((l).tm).ct, .int .i64 ((l).tm).ba, .int .i64 ((l).tm).mo, .int .i64 ((l).tm).pen, .int .i64 ((l).tm).fe, .string ((l).tm).cal, .string ((l).tm).cur, .slice da (l).ds.length dk, .slice ca (l).cs.length ck] 32)).alloc (.cells #[.int .i64 0, .int .i64 0, .int .i64 0, .int .i64 0, .int .i64 0, .int .i64 0, .int .i64 0, .int .i64 0, .int .i64 0, .int .i64 0, .int .i64 0, .int .i64 0, .int .i64 0, .int .i64 0, .int .i64 0, .int .i64 0, .int .i64 0, .int .i64 0, .int .i64 0, .int .i64 0, .int .i64 0, .string .empty, .string .empty, .slice none 0 0, .slice none 0 0] 32)) := ((Below.refl _ _).alloc (Nat.le_refl _) _).alloc (by simp) _
 have hcond : chk l = 0 ∧ 1 ≤ n ∧ n ≤ 1000000000000 ∧ dayB on = true ∧ l.st = 1 := by
  rcases pay_err l n on with ⟨_, h⟩ | ⟨_, _, h⟩ | ⟨_, _, _, h⟩ | ⟨_, _, _, _, h⟩ | ⟨_, _, _, _, _, h⟩ | ⟨h1, h2, h3, h4, h5, _⟩
  ·omega
  ·omega
  ·omega
  ·omega
  ·omega
  ·exact ⟨h1, h2, h3, h4, h5⟩
 obtain ⟨c0, n1, n2, hday, hst⟩ := hcond
 have hOk := ok_iff.1 c0
 have HPO := Lib.hid (powed_ok hOk on)
 have HO := Lib.hid (fun (W : World) (hW : Below w.heap.size w W) => owed_any l da ca dk ck on W (h.later hW) (by have := hOk.n2; omega))
 have HNC := Lib.hid (show l.ds.length ≤ 100000 ∧ l.cs.length ≤ 100000 from ⟨by have := hOk.n2; omega, by have := hOk.cs; omega⟩)
 obtain ⟨x, hx⟩ : ∃ x, x = payD l n on := ⟨_, rfl⟩
 obtain ⟨L1, e1⟩ : ∃ L1 : Lo, L1 = { l with fee := l.fee - x.a } := ⟨_, rfl⟩
 obtain ⟨L2, e2⟩ : ∃ L2 : Lo, L2 = { L1 with pen := L1.pen - x.b } := ⟨_, rfl⟩
 obtain ⟨L3, e3⟩ : ∃ L3 : Lo, L3 = { L2 with pi := L2.pi + x.c } := ⟨_, rfl⟩
 obtain ⟨L4, e4⟩ : ∃ L4 : Lo, L4 = { L3 with pp := L3.pp + x.d } := ⟨_, rfl⟩
 have HL := Lib.hid (And.intro e1 (And.intro e2 (And.intro e3 e4)))
 have hd : DistOk n l.fee l.pen (oI l on) (oP l on) x := by rw [hx]; exact dist_ok (by omega)
 have e5 : L4 = l.take x := by rw [e4, e3, e2, e1]; rfl
 have HX : Hid (takeN (powed l on) 1 n = x.a ∧ takeN (powed l on) 2 (n - x.a) = x.b ∧ takeN (powed l on) 3 (n - x.a - x.b) = x.c ∧ takeN (powed l on) 4 (n - x.a - x.b - x.c) = x.d ∧ n - x.a - x.b - x.c - x.d = x.r) := Lib.hid (by
  have := hd.a0; have := hd.b0; have := hd.c0; have := hd.d0; have := hd.r0; have := hd.s
  rw [takeN_1 l on (by omega), takeN_2 l on (by omega), takeN_3 l on (by omega), takeN_4 l on (by omega)]
  refine ⟨by rw [hx]; rfl, by rw [hx]; rfl, by rw [hx]; rfl, by rw [hx]; rfl, by omega⟩)
 have HB : Hid (0 ≤ x.a ∧ 0 ≤ x.b ∧ 0 ≤ x.c ∧ 0 ≤ x.d ∧ 0 ≤ x.r ∧ x.a + x.b + x.c + x.d + x.r = n ∧ 1 ≤ n ∧ n ≤ 1000000000000) := Lib.hid ⟨hd.a0, hd.b0, hd.c0, hd.d0, hd.r0, hd.s, n1, n2⟩
 have HW : Hid (IntKind.i64.wrap (l.fee - x.a) = l.fee - x.a ∧ IntKind.i64.wrap (L1.pen - x.b) = L1.pen - x.b ∧ IntKind.i64.wrap (L2.pi + x.c) = L2.pi + x.c ∧ IntKind.i64.wrap (L3.pp + x.d) = L3.pp + x.d) := Lib.hid (by
  have s := hOk.sums on
  obtain ⟨f0, f1⟩ := amt_iff.1 hOk.fee
  obtain ⟨p0, p1⟩ := amt_iff.1 hOk.pen
  have := hOk.pp; have := hOk.pi; have := hOk.pp'; have := hOk.pi'; have := s.p2; have := s.i2
  have g1 : L1.pen = l.pen := by rw [e1]
  have g2 : L2.pi = l.pi := by rw [e2, e1]
  have g3 : L3.pp = l.pp := by rw [e3, e2, e1]
  have hb := HB.out
  rw [g1, g2, g3]
  simp only [IntKind.wrap_i64]
  refine ⟨?_, ?_, ?_, ?_⟩ <;> omega)
 have HZ : Hid ((¬0 < l.fee → x.a = 0) ∧ (¬0 < l.pen → x.b = 0) ∧ (¬0 < oI l on → x.c = 0) ∧ (¬0 < oP l on → x.d = 0)) := Lib.hid (by
  have := hd.a0; have := hd.b0; have := hd.c0; have := hd.d0; have := hd.a1; have := hd.b1; have := hd.c1; have := hd.d1
  have q1 := pos_of (o := l.fee); have q2 := pos_of (o := l.pen); have q3 := pos_of (o := oI l on); have q4 := pos_of (o := oP l on)
  refine ⟨?_, ?_, ?_, ?_⟩ <;> omega)
 have HPL : Hid (([] ++ pparts [⟨1, x.a⟩]).length ≤ 50 ∧ ([] ++ pparts [⟨1, x.a⟩] ++ pparts [⟨2, x.b⟩]).length ≤ 50 ∧ ([] ++ pparts [⟨1, x.a⟩] ++ pparts [⟨2, x.b⟩] ++ pparts [⟨3, x.c⟩]).length ≤ 50 ∧ ([] ++ pparts [⟨1, x.a⟩] ++ pparts [⟨2, x.b⟩] ++ pparts [⟨3, x.c⟩] ++ pparts [⟨4, x.d⟩]).length ≤ 50 ) := Lib.hid (by
  have k1 := pparts_len [⟨1, x.a⟩]; have k2 := pparts_len [⟨2, x.b⟩]; have k3 := pparts_len [⟨3, x.c⟩]; have k4 := pparts_len [⟨4, x.d⟩]
  simp only [List.length_append, List.length_cons, List.length_nil] at *
  omega)
 have HPP : Hid ([] ++ pparts [⟨1, x.a⟩] ++ pparts [⟨2, x.b⟩] ++ pparts [⟨3, x.c⟩] ++ pparts [⟨4, x.d⟩] ++ pparts [⟨5, x.r⟩] = x.pps) := Lib.hid (by
  unfold Dist.pps
  rw [List.nil_append, ← pparts_app, ← pparts_app, ← pparts_app, ← pparts_app]
  rfl)
 have HPY := Lib.hid (show payL l n on = L4.done by rw [e5, hx]; rfl)
 have HDS := Lib.hid (show L4.ds = l.ds ∧ L4.cs = l.cs by rw [e5]; exact ⟨rfl, rfl⟩)
 have HD := Lib.hid hx
 rw [c0] at HC
 have g1 : decide (n < 1) = false := decide_eq_false (by omega)
 have g2 : decide (1000000000000 < n) = false := decide_eq_false (by omega)
 have g3 : (l.st != 1) = false := by rw [hst]; rfl
 clear c0 hst he e1 e2 e3 e4 e5 hd hx h hc hOk
 go_enter Tryz.func33, Tryz.ntmps33
 go_wp2_with (refine wpList_load_row rfl 32 _ rfl _ rfl _ _ _ _ Bk.Blk.nw20 Tryz.underlying32 rfl (by kernel_rfl) ?_)
 refine (HC.out _ b2).mono ?_
 rintro e w1 ⟨rfl, hb1⟩
 have hk := Bk.Blk.later (g := w.heap.size) hb1 (Bk.Blk.nw20 (W := w) (cs := #[.int .i64 (l).id, .int .i64 (l).ac, .int .i64 (l).st, .int .i64 (l).pp, .int .i64 (l).pi, .int .i64 (l).fee, .int .i64 (l).pen, .int .i64 (l).chg, .int .i64 (l).prov, .int .i64 (l).loss, .int .i64 (l).rcv, .int .i64 ((l).tm).me, .int .i64 ((l).tm).pr, .int .i64 ((l).tm).ppm, .int .i64 ((l).tm).stt, .int .i64 ((l).tm).ev, .int .i64 ((l).tm).ct, .int .i64 ((l).tm).ba, .int .i64 ((l).tm).mo, .int .i64 ((l).tm).pen, .int .i64 ((l).tm).fe, .string ((l).tm).cal, .string ((l).tm).cur, .slice da (l).ds.length dk, .slice ca (l).cs.length ck]) (t := 32) (o1 := .cells #[.int .i64 0, .int .i64 0, .int .i64 0, .int .i64 0, .int .i64 0, .int .i64 0, .int .i64 0, .int .i64 0, .int .i64 0, .int .i64 0, .int .i64 0, .int .i64 0, .int .i64 0, .int .i64 0, .int .i64 0, .int .i64 0, .int .i64 0, .int .i64 0, .int .i64 0, .int .i64 0, .int .i64 0, .string .empty, .string .empty, .slice none 0 0, .slice none 0 0] 32))
 have hz := Bk.Blk.later (g := w.heap.size + 1) hb1 (Bk.Blk.nw21 (W := w) (cs := #[.int .i64 0, .int .i64 0, .int .i64 0, .int .i64 0, .int .i64 0, .int .i64 0, .int .i64 0, .int .i64 0, .int .i64 0, .int .i64 0, .int .i64 0, .int .i64 0, .int .i64 0, .int .i64 0, .int .i64 0, .int .i64 0, .int .i64 0, .int .i64 0, .int .i64 0, .int .i64 0, .int .i64 0, .string .empty, .string .empty, .slice none 0 0, .slice none 0 0]) (t := 32) (o0 := .cells #[.int .i64 (l).id, .int .i64 (l).ac, .int .i64 (l).st, .int .i64 (l).pp, .int .i64 (l).pi, .int .i64 (l).fee, .int .i64 (l).pen, .int .i64 (l).chg, .int .i64 (l).prov, .int .i64 (l).loss, .int .i64 (l).rcv, .int .i64 ((l).tm).me, .int .i64 ((l).tm).pr, .int .i64 ((l).tm).ppm, .int .i64 ((l).tm).stt, .int .i64 ((l).tm).ev, .int .i64 ((l).tm).ct, .int .i64 ((l).tm).ba, .int .i64 ((l).tm).mo, .int .i64 ((l).tm).pen, .int .i64 ((l).tm).fe, .string ((l).tm).cal, .string ((l).tm).cur, .slice da (l).ds.length dk, .slice ca (l).cs.length ck] 32))
 have b1 := bl2 hb1 b2
 clear hb1
 go_wp2_with fail
 refine (HV.out _).mono ?_
 rintro e w' ⟨rfl, rfl⟩
 rw [hday]
 have l2 := hk.c2
 go_upto_region 5 with fail
 clear l2
 go_wp2_with (refine wpList_load_row rfl 32 _ rfl _ rfl _ _ _ _ (hk) Tryz.underlying32 rfl (by kernel_rfl) ?_)
 refine (HO.out _ b1).mono ?_
 rintro e w3 ⟨og, rfl, hog, hrow, hb3⟩
 have s3 := hb3.size
 have y1 := hk.lt
 have y2 := hz.lt
 have HOG := Lib.hid (show w.heap.size + 1 < og from by omega)
 replace hk := hk.later hb3
 replace hz := hz.later hb3
 have b3 := bl2 hb3 b1
 clear hb3 b1 b2 hog HC HV HO
 have HFC := Lib.hid (first_cases l on)
 have HLN := Lib.hid (show (powed l on).length ≤ 4 by unfold powed; exact pparts_len _)
 generalize powed l on = ow at *
 go_upto_region 6 with fail
 have hb4 : Below w3.heap.size w3 (w3.alloc (.cells #[.int .i64 n, .slice (some ⟨og, 0, none⟩) ow.length 4, .slice none 0 0] 135)) := (Below.refl _ _).alloc (Nat.le_refl _) _
 have hp : Bk.Blk (w3.alloc (.cells #[.int .i64 n, .slice (some ⟨og, 0, none⟩) ow.length 4, .slice none 0 0] 135)) w3.heap.size _ 135 := Bk.Blk.nw10
 have HG := Lib.hid (show w.heap.size + 1 < w3.heap.size by omega)
 have HOL : Hid (0 < ow.length → og < w3.heap.size) := Lib.hid (fun h0 => by
  obtain ⟨b, off, ha, hcc⟩ := hrow.parts h0
  cases ha
  have := World.block_lt_of_cell? _ _ (hcc 0 h0).1
  simpa using this)
 have s4 := hb4.size
 replace hk := hk.later hb4
 replace hz := hz.later hb4
 replace hrow := hrow.later hb4
 have b4 := bl2 hb4 b3
 clear hb4 b3
 have HF := Lib.hid (fun (W : World) => first_any w3.heap.size n (some ⟨og, 0, none⟩) 4 ow (.slice none 0 0) W)
 generalize w3.alloc (.cells _ 135) = w4 at *
 generalize w3.heap.size = g at *
 go_wp2_with fail
 refine (HF.out _ hp hrow).mono ?_
 rintro e w' ⟨rfl, rfl⟩
 have h0 : PTl w w4 g (.slice (some ⟨og, 0, none⟩) ow.length 4) l da ca dk ck n (.slice none 0 0) [] := ⟨hk, hz, hp, PV.nil _ _, ⟨by simp [Value.ownBlock], by simp [Value.ownBlock], by simp [Value.ownBlock]⟩, b4, HG.out⟩
 have HPS : Hid (0 < ow.length → PSt w w4 g og ow l da ca dk ck n (.slice none 0 0) []) := Lib.hid (fun hl => ⟨h0, hrow, HOG.out, by have := HOL.out hl; omega, by have := HOL.out hl; omega, by simp [Value.ownBlock]⟩)
 clear hk hz hp b4 hrow HF s3 s4 y1 y2 g1 g2 g3 hday
 generalize hsl : (Value.slice (some ⟨og, 0, none⟩) ow.length 4) = sl at h0
 have HSL := Lib.hid hsl
 clear hsl
 go_upto_block 0 with fail
 go_cut [] from 38 to 70 (SWR w g sl L4 da ca dk ck x.r ([] ++ pparts [⟨1, x.a⟩] ++ pparts [⟨2, x.b⟩] ++ pparts [⟨3, x.c⟩] ++ pparts [⟨4, x.d⟩]))
 case first =>
  rcases HFC.out with hc | hc | hc | hc | hc

  ·have h0 := HPS.out (first_pos hc (by decide))
   rw [hc]
   clear hc
   go_upto_region 11 with fail
   have h1d := h0.drew
   have HT1 := Lib.hid (take_step h1d 1 x.a HX.out.1 (by simp) HLN.out (by have := HB.out; omega) (by have := HB.out; omega) (fun p hp => (HPO.out p hp).2))
   have l1 := h1d.t.k.c5
   have q1 : IntKind.i64.wrap (l.fee - x.a) = l.fee - x.a := HW.out.1
   clear h0 h1d
   refine cut_open fun KK hKK => ?_
   have HK1 := Lib.hid hKK
   clear hKK
   go_cut [] from 47 to 52 (SPR w g og ow L1 da ca dk ck (n - x.a) ([] ++ pparts [⟨1, x.a⟩]))
   case first =>
    go_region_with (go_at_call 64; refine HT1.out.mono ?_; rintro e w5 ⟨rfl, v1, h1⟩; have l1' := h1.t.k.c5; have m1' := h1.t.k.f5)
    all_goals
     go_wp2_with fail
     go_meet
     case rel => exact ⟨_, h1.fee HL.out.1⟩
   rw [HK1.out]
   obtain ⟨v1, h1⟩ := hcut
   clear l1 q1 HT1 HK1
   generalize wc = w5 at *
   go_upto_region 12 with fail
   have h2d := h1.drew
   have HT2 := Lib.hid (take_step h2d 2 x.b HX.out.2.1 HPL.out.1 HLN.out (by have := HB.out; omega) (by have := HB.out; omega) (fun p hp => (HPO.out p hp).2))
   have l2 := h2d.t.k.c6
   have q2 : IntKind.i64.wrap (L1.pen - x.b) = L1.pen - x.b := HW.out.2.1
   clear h1 h2d
   refine cut_open fun KK hKK => ?_
   have HK2 := Lib.hid hKK
   clear hKK
   go_cut [] from 53 to 58 (SPR w g og ow L2 da ca dk ck (n - x.a - x.b) ([] ++ pparts [⟨1, x.a⟩] ++ pparts [⟨2, x.b⟩]))
   case first =>
    go_region_with (go_at_call 64; refine HT2.out.mono ?_; rintro e w6 ⟨rfl, v2, h2⟩; have l2' := h2.t.k.c6; have m2' := h2.t.k.f6)
    all_goals
     go_wp2_with fail
     go_meet
     case rel => exact ⟨_, h2.pen HL.out.2.1⟩
   rw [HK2.out]
   obtain ⟨v2, h2⟩ := hcut
   clear l2 q2 HT2 HK2
   generalize wc = w6 at *
   go_upto_region 13 with fail
   have h3d := h2.drew
   have HT3 := Lib.hid (take_step h3d 3 x.c HX.out.2.2.1 HPL.out.2.1 HLN.out (by have := HB.out; omega) (by have := HB.out; omega) (fun p hp => (HPO.out p hp).2))
   have l3 := h3d.t.k.c4
   have q3 : IntKind.i64.wrap (L2.pi + x.c) = L2.pi + x.c := HW.out.2.2.1
   clear h2 h3d
   refine cut_open fun KK hKK => ?_
   have HK3 := Lib.hid hKK
   clear hKK
   go_cut [] from 59 to 64 (SPR w g og ow L3 da ca dk ck (n - x.a - x.b - x.c) ([] ++ pparts [⟨1, x.a⟩] ++ pparts [⟨2, x.b⟩] ++ pparts [⟨3, x.c⟩]))
   case first =>
    go_region_with (go_at_call 64; refine HT3.out.mono ?_; rintro e w7 ⟨rfl, v3, h3⟩; have l3' := h3.t.k.c4; have m3' := h3.t.k.f4)
    all_goals
     go_wp2_with fail
     go_meet
     case rel => exact ⟨_, h3.pi HL.out.2.2.1⟩
   rw [HK3.out]
   obtain ⟨v3, h3⟩ := hcut
   clear l3 q3 HT3 HK3
   generalize wc = w7 at *
   go_upto_region 14 with fail
   have h4d := h3.drew
   have HT4 := Lib.hid (take_step h4d 4 x.d HX.out.2.2.2.1 HPL.out.2.2.1 HLN.out (by have := HB.out; omega) (by have := HB.out; omega) (fun p hp => (HPO.out p hp).2))
   have l4 := h4d.t.k.c3
   have q4 : IntKind.i64.wrap (L3.pp + x.d) = L3.pp + x.d := HW.out.2.2.2
   clear h3 h4d
   refine cut_open fun KK hKK => ?_
   have HK4 := Lib.hid hKK
   clear hKK
   go_cut [] from 65 to 70 (SPR w g og ow L4 da ca dk ck (n - x.a - x.b - x.c - x.d) ([] ++ pparts [⟨1, x.a⟩] ++ pparts [⟨2, x.b⟩] ++ pparts [⟨3, x.c⟩] ++ pparts [⟨4, x.d⟩]))
   case first =>
    go_region_with (go_at_call 64; refine HT4.out.mono ?_; rintro e w8 ⟨rfl, v4, h4⟩; have l4' := h4.t.k.c3; have m4' := h4.t.k.f3)
    all_goals
     go_wp2_with fail
     go_meet
     case rel => exact ⟨_, h4.pp HL.out.2.2.2⟩
   rw [HK4.out]
   obtain ⟨v4, h4⟩ := hcut
   clear l4 q4 HT4 HK4
   generalize wc = w8 at *
   go_wp2_with fail
   go_meet
   case rel => exact ⟨_, HSL.out ▸ HX.out.2.2.2.2 ▸ h4.t⟩

  ·obtain ⟨h1, hz⟩ := hc
   have h0 := HPS.out (first_pos h1 (by decide))
   rw [h1]
   clear h1
   have h1 := h0.fee0 1 (HZ.out.1 hz) HL.out.1
   clear h0
   clear hz
   go_upto_region 12 with fail
   have h2d := h1.drew
   have HT2 := Lib.hid (take_step h2d 2 x.b HX.out.2.1 HPL.out.1 HLN.out (by have := HB.out; omega) (by have := HB.out; omega) (fun p hp => (HPO.out p hp).2))
   have l2 := h2d.t.k.c6
   have q2 : IntKind.i64.wrap (L1.pen - x.b) = L1.pen - x.b := HW.out.2.1
   clear h1 h2d
   refine cut_open fun KK hKK => ?_
   have HK2 := Lib.hid hKK
   clear hKK
   go_cut [] from 53 to 58 (SPR w g og ow L2 da ca dk ck (n - x.a - x.b) ([] ++ pparts [⟨1, x.a⟩] ++ pparts [⟨2, x.b⟩]))
   case first =>
    go_region_with (go_at_call 64; refine HT2.out.mono ?_; rintro e w6 ⟨rfl, v2, h2⟩; have l2' := h2.t.k.c6; have m2' := h2.t.k.f6)
    all_goals
     go_wp2_with fail
     go_meet
     case rel => exact ⟨_, h2.pen HL.out.2.1⟩
   rw [HK2.out]
   obtain ⟨v2, h2⟩ := hcut
   clear l2 q2 HT2 HK2
   generalize wc = w6 at *
   go_upto_region 13 with fail
   have h3d := h2.drew
   have HT3 := Lib.hid (take_step h3d 3 x.c HX.out.2.2.1 HPL.out.2.1 HLN.out (by have := HB.out; omega) (by have := HB.out; omega) (fun p hp => (HPO.out p hp).2))
   have l3 := h3d.t.k.c4
   have q3 : IntKind.i64.wrap (L2.pi + x.c) = L2.pi + x.c := HW.out.2.2.1
   clear h2 h3d
   refine cut_open fun KK hKK => ?_
   have HK3 := Lib.hid hKK
   clear hKK
   go_cut [] from 59 to 64 (SPR w g og ow L3 da ca dk ck (n - x.a - x.b - x.c) ([] ++ pparts [⟨1, x.a⟩] ++ pparts [⟨2, x.b⟩] ++ pparts [⟨3, x.c⟩]))
   case first =>
    go_region_with (go_at_call 64; refine HT3.out.mono ?_; rintro e w7 ⟨rfl, v3, h3⟩; have l3' := h3.t.k.c4; have m3' := h3.t.k.f4)
    all_goals
     go_wp2_with fail
     go_meet
     case rel => exact ⟨_, h3.pi HL.out.2.2.1⟩
   rw [HK3.out]
   obtain ⟨v3, h3⟩ := hcut
   clear l3 q3 HT3 HK3
   generalize wc = w7 at *
   go_upto_region 14 with fail
   have h4d := h3.drew
   have HT4 := Lib.hid (take_step h4d 4 x.d HX.out.2.2.2.1 HPL.out.2.2.1 HLN.out (by have := HB.out; omega) (by have := HB.out; omega) (fun p hp => (HPO.out p hp).2))
   have l4 := h4d.t.k.c3
   have q4 : IntKind.i64.wrap (L3.pp + x.d) = L3.pp + x.d := HW.out.2.2.2
   clear h3 h4d
   refine cut_open fun KK hKK => ?_
   have HK4 := Lib.hid hKK
   clear hKK
   go_cut [] from 65 to 70 (SPR w g og ow L4 da ca dk ck (n - x.a - x.b - x.c - x.d) ([] ++ pparts [⟨1, x.a⟩] ++ pparts [⟨2, x.b⟩] ++ pparts [⟨3, x.c⟩] ++ pparts [⟨4, x.d⟩]))
   case first =>
    go_region_with (go_at_call 64; refine HT4.out.mono ?_; rintro e w8 ⟨rfl, v4, h4⟩; have l4' := h4.t.k.c3; have m4' := h4.t.k.f3)
    all_goals
     go_wp2_with fail
     go_meet
     case rel => exact ⟨_, h4.pp HL.out.2.2.2⟩
   rw [HK4.out]
   obtain ⟨v4, h4⟩ := hcut
   clear l4 q4 HT4 HK4
   generalize wc = w8 at *
   go_wp2_with fail
   go_meet
   case rel => exact ⟨_, HSL.out ▸ HX.out.2.2.2.2 ▸ h4.t⟩

  ·obtain ⟨h1, hz⟩ := hc
   have h0 := HPS.out (first_pos h1 (by decide))
   rw [h1]
   clear h1
   have h1 := h0.fee0 1 (HZ.out.1 hz.1) HL.out.1
   clear h0
   have h2 := h1.pen0 2 (HZ.out.2.1 hz.2) HL.out.2.1
   clear h1
   clear hz
   go_upto_region 13 with fail
   have h3d := h2.drew
   have HT3 := Lib.hid (take_step h3d 3 x.c HX.out.2.2.1 HPL.out.2.1 HLN.out (by have := HB.out; omega) (by have := HB.out; omega) (fun p hp => (HPO.out p hp).2))
   have l3 := h3d.t.k.c4
   have q3 : IntKind.i64.wrap (L2.pi + x.c) = L2.pi + x.c := HW.out.2.2.1
   clear h2 h3d
   refine cut_open fun KK hKK => ?_
   have HK3 := Lib.hid hKK
   clear hKK
   go_cut [] from 59 to 64 (SPR w g og ow L3 da ca dk ck (n - x.a - x.b - x.c) ([] ++ pparts [⟨1, x.a⟩] ++ pparts [⟨2, x.b⟩] ++ pparts [⟨3, x.c⟩]))
   case first =>
    go_region_with (go_at_call 64; refine HT3.out.mono ?_; rintro e w7 ⟨rfl, v3, h3⟩; have l3' := h3.t.k.c4; have m3' := h3.t.k.f4)
    all_goals
     go_wp2_with fail
     go_meet
     case rel => exact ⟨_, h3.pi HL.out.2.2.1⟩
   rw [HK3.out]
   obtain ⟨v3, h3⟩ := hcut
   clear l3 q3 HT3 HK3
   generalize wc = w7 at *
   go_upto_region 14 with fail
   have h4d := h3.drew
   have HT4 := Lib.hid (take_step h4d 4 x.d HX.out.2.2.2.1 HPL.out.2.2.1 HLN.out (by have := HB.out; omega) (by have := HB.out; omega) (fun p hp => (HPO.out p hp).2))
   have l4 := h4d.t.k.c3
   have q4 : IntKind.i64.wrap (L3.pp + x.d) = L3.pp + x.d := HW.out.2.2.2
   clear h3 h4d
   refine cut_open fun KK hKK => ?_
   have HK4 := Lib.hid hKK
   clear hKK
   go_cut [] from 65 to 70 (SPR w g og ow L4 da ca dk ck (n - x.a - x.b - x.c - x.d) ([] ++ pparts [⟨1, x.a⟩] ++ pparts [⟨2, x.b⟩] ++ pparts [⟨3, x.c⟩] ++ pparts [⟨4, x.d⟩]))
   case first =>
    go_region_with (go_at_call 64; refine HT4.out.mono ?_; rintro e w8 ⟨rfl, v4, h4⟩; have l4' := h4.t.k.c3; have m4' := h4.t.k.f3)
    all_goals
     go_wp2_with fail
     go_meet
     case rel => exact ⟨_, h4.pp HL.out.2.2.2⟩
   rw [HK4.out]
   obtain ⟨v4, h4⟩ := hcut
   clear l4 q4 HT4 HK4
   generalize wc = w8 at *
   go_wp2_with fail
   go_meet
   case rel => exact ⟨_, HSL.out ▸ HX.out.2.2.2.2 ▸ h4.t⟩

  ·obtain ⟨h1, hz⟩ := hc
   have h0 := HPS.out (first_pos h1 (by decide))
   rw [h1]
   clear h1
   have h1 := h0.fee0 1 (HZ.out.1 hz.1) HL.out.1
   clear h0
   have h2 := h1.pen0 2 (HZ.out.2.1 hz.2.1) HL.out.2.1
   clear h1
   have h3 := h2.pi0 3 (HZ.out.2.2.1 hz.2.2) HL.out.2.2.1
   clear h2
   clear hz
   go_upto_region 14 with fail
   have h4d := h3.drew
   have HT4 := Lib.hid (take_step h4d 4 x.d HX.out.2.2.2.1 HPL.out.2.2.1 HLN.out (by have := HB.out; omega) (by have := HB.out; omega) (fun p hp => (HPO.out p hp).2))
   have l4 := h4d.t.k.c3
   have q4 : IntKind.i64.wrap (L3.pp + x.d) = L3.pp + x.d := HW.out.2.2.2
   clear h3 h4d
   refine cut_open fun KK hKK => ?_
   have HK4 := Lib.hid hKK
   clear hKK
   go_cut [] from 65 to 70 (SPR w g og ow L4 da ca dk ck (n - x.a - x.b - x.c - x.d) ([] ++ pparts [⟨1, x.a⟩] ++ pparts [⟨2, x.b⟩] ++ pparts [⟨3, x.c⟩] ++ pparts [⟨4, x.d⟩]))
   case first =>
    go_region_with (go_at_call 64; refine HT4.out.mono ?_; rintro e w8 ⟨rfl, v4, h4⟩; have l4' := h4.t.k.c3; have m4' := h4.t.k.f3)
    all_goals
     go_wp2_with fail
     go_meet
     case rel => exact ⟨_, h4.pp HL.out.2.2.2⟩
   rw [HK4.out]
   obtain ⟨v4, h4⟩ := hcut
   clear l4 q4 HT4 HK4
   generalize wc = w8 at *
   go_wp2_with fail
   go_meet
   case rel => exact ⟨_, HSL.out ▸ HX.out.2.2.2.2 ▸ h4.t⟩

  ·obtain ⟨h1, hz⟩ := hc
   rw [h1]
   clear h1
   have h1 := h0.fee0 1 (HZ.out.1 hz.1) HL.out.1
   clear h0
   have h2 := h1.pen0 2 (HZ.out.2.1 hz.2.1) HL.out.2.1
   clear h1
   have h3 := h2.pi0 3 (HZ.out.2.2.1 hz.2.2.1) HL.out.2.2.1
   clear h2
   have h4 := h3.pp0 4 (HZ.out.2.2.2 hz.2.2.2) HL.out.2.2.2
   clear h3
   clear hz
   go_wp2_with fail
   go_meet
   case rel => exact ⟨_, HX.out.2.2.2.2 ▸ h4⟩

 case rest =>
  obtain ⟨v, h5⟩ := hcut
  generalize wc = w9 at *
  generalize hps : [] ++ pparts [⟨1, x.a⟩] ++ pparts [⟨2, x.b⟩] ++ pparts [⟨3, x.c⟩] ++ pparts [⟨4, x.d⟩] = ps4 at h5
  have HPP2 : Hid (ps4 ++ pparts [⟨5, x.r⟩] = x.pps) := Lib.hid (by rw [← hps]; exact HPP.out)
  have HPL2 : Hid (ps4.length ≤ 50) := Lib.hid (by rw [← hps]; exact HPL.out.2.2.2)
  clear hps HPP HPL HW HX HPO HFC HL HPS
  have l0 := h5.p.c0
  go_upto_if 75 with fail
  clear l0
  go_cut [] from 71 to 89 (SWR w g sl L4 da ca dk ck x.r x.pps)
  case first =>
   by_cases hr : 0 < x.r
   ·have gr : decide (0 < x.r) = true := decide_eq_true hr
    have HR := Lib.hid hr
    have l0 := h5.p.c0
    have l2 := h5.p.c2
    have l0' := (h5.p.alloc (o := (.cells #[.int .i64 5, .int .i64 x.r] 91))).c0
    have l2' := (h5.p.alloc (o := (.cells #[.int .i64 5, .int .i64 x.r] 91))).c2
    have hg5 := h5.p.lt
    have hal : Below w9.heap.size w9 (w9.alloc (.cells #[.int .i64 5, .int .i64 x.r] 91)).drew := ((Below.refl _ _).alloc (Nat.le_refl _) _).drew
    have H5 := Lib.hid (h5.later hal)
    have HNW := Lib.hid (show Bk.Blk (w9.alloc (.cells #[.int .i64 5, .int .i64 x.r] 91)).drew w9.heap.size #[.int .i64 5, .int .i64 x.r] 91 from Bk.Blk.nw10)
    have hs5 := h5.sz
    have HSZ := Lib.hid (show w.heap.size ≤ (w9.alloc (.cells #[.int .i64 5, .int .i64 x.r] 91)).drew.heap.size ∧ w9.heap.size < (w9.alloc (.cells #[.int .i64 5, .int .i64 x.r] 91)).drew.heap.size from ⟨by have := hal.size; omega, by simp⟩)
    clear hal h5
    go_upto_region 16 with fail
    go_region_law (refine step_part ⟨5, x.r⟩ rfl (.tmp 80) (.tmp 86) rfl rfl H5.out.pv w9.heap.size rfl HNW.out (by have := HPL2.out; omega) HSZ.out.1 _ rfl ?_; intro g' c' w' hpv' hgr hat hlt; replace hgr : World.grownBy (w9.alloc (.cells #[.int .i64 5, .int .i64 x.r] 91)).drew w' v.ownBlock := hgr; replace hat : v.ownBlock = some g' ∨ g' = (w9.alloc (.cells #[.int .i64 5, .int .i64 x.r] 91)).drew.heap.size := hat; have hk' : Bk.Blk w' g #[.int .i64 x.r, sl, v] 135 := (hgr.block _ (by have := HSZ.out; omega) (Ne.symm H5.out.ap.2.2)).trans H5.out.p; have f2 := hk'.f2; have e2 := hk'.c2)
    all_goals
     have h6 := Lib.hid (H5.out.app hpv' hgr hat)
     clear hpv' hgr hat hk' f2 e2 l0 l2 l0' l2'
     go_wp2_with fail
     go_meet
     case rel => exact ⟨_, h6.out.conv (by rw [← HPP2.out]; simp [pparts, HR.out])⟩
   ·have gr : decide (0 < x.r) = false := decide_eq_false hr
    have HR := Lib.hid hr
    replace hr : x.r ≤ 0 := by omega
    go_wp2_with fail
    go_meet
    case rel => exact ⟨_, h5.conv (by rw [← HPP2.out]; simp [pparts, HR.out])⟩
  obtain ⟨v6, h6⟩ := hcut
  generalize wc = w10 at *
  clear h5
  go_upto_region 17 with fail
  go_wp2_with (refine wpList_load_row rfl 32 _ rfl _ rfl _ _ _ _ (h6.k) Tryz.underlying32 rfl (by kernel_rfl) ?_)
  refine (left_any L4 da ca dk ck _ (by rw [HDS.out.1]; exact HDU.out.later h6.b)).mono ?_
  rintro e w11 ⟨rfl, hb11⟩
  have h7 := h6.later hb11
  clear h6 hb11
  go_upto_if 92 with fail
  go_cut [] from 90 to 93 (SWR w g sl L4.done da ca dk ck x.r x.pps)
  case first =>
   cases hl : leftB L4
   ·have HL5 := Lib.hid (show L4.done = { L4 with st := 2 } by unfold Lo.done; rw [hl]; rfl)
    have f2 := h7.k.f2
    have l2 := h7.k.c2
    clear hl
    go_wp2_with fail
    go_meet
    case rel => exact ⟨_, by rw [HL5.out]; exact h7.st 2⟩
   ·have HL5 := Lib.hid (show L4.done = L4 by unfold Lo.done; rw [hl]; rfl)
    clear hl
    go_wp2_with fail
    go_meet
    case rel => exact ⟨_, by rw [HL5.out]; exact h7⟩
  obtain ⟨v7, h8⟩ := hcut
  generalize wc = w12 at *
  clear h7
  obtain ⟨a, c, rfl, hrow, hfr⟩ := h8.pv.row
  have HD5 := Lib.hid (show L4.done.ds = l.ds ∧ L4.done.cs = l.cs by rw [(done_same L4).1, (done_same L4).2]; exact HDS.out)
  generalize L4.done = L5 at *
  have HFR := Lib.hid hfr
  clear hfr hrow
  go_upto_region 19 with fail
  have h8d := h8.drew
  clear h8
  have HCD := Lib.hid (fun (W : World) (hb : Below w.heap.size w W) => cloned_row da dk L5.ds W (by rw [HD5.out.1]; exact HDU.out.later hb) (by rw [HD5.out.1]; exact HNC.out.1))
  have HCC := Lib.hid (fun (W : World) (hb : Below w.heap.size w W) => clonec_row ca ck L5.cs W (by rw [HD5.out.2]; exact HCH.out.later hb) (by rw [HD5.out.2]; exact HNC.out.2))
  have y1 := h8d.k.c23
  have y2 := h8d.k.c24
  go_cut [] from 94 to 101 (CLR w g sl L5 x.r (.slice a x.pps.length c) x.pps)
  case first =>
   go_region_with (first | (go_at_call 17; refine (HCD.out _ (by first | exact h8d.b | exact hP2.b)).mono ?_; rintro e wa ⟨a1, c1, rfl, hr1, hf1, hb1⟩; (first | have hP1 := hP2.later hb1 | have hP1 := h8d.later hb1); have z1 := hP1.k.c23; have z2 := hP1.k.c24; have z3 := hP1.k.f23; have z4 := hP1.k.f24) | (go_at_call 18; refine (HCC.out _ (by first | exact h8d.b | exact hP1.b)).mono ?_; rintro e wb ⟨a2, c2, rfl, hr2, hf2, hb2⟩; (first | have hP2 := hP1.later hb2 | have hP2 := h8d.later hb2); have y1 := hP2.k.c23; have y2 := hP2.k.c24; have y3 := hP2.k.f23; have y4 := hP2.k.f24))
   all_goals
    go_wp2_with fail
    go_meet
    case rel => first | exact clone_fin hP2 (hr1.later hb2) hr2 hf1 hf2 h8d.sz hP1.sz | exact clone_fin hP1 hr1 (hr2.later hb1) hf1 hf2 hP2.sz h8d.sz
  obtain ⟨da', ca', dk', ck', h9, hrd, hrc, hfd, hfc⟩ := hcut
  generalize wc = w13 at *
  clear h8d y1 y2 HCD HCC
  obtain ⟨a', c', hac, hrow, hfr⟩ := h9.pv.row
  obtain ⟨e1, e2⟩ : a' = a ∧ c' = c := by simpa using hac.symm
  subst e1 e2
  go_upto_region 20 with fail
  have h9d := h9.drew
  have g9 := h9d.g1
  have HRW := Lib.hid (And.intro hrow (And.intro hrd hrc))
  have HFF := Lib.hid (And.intro hfd hfc)
  clear hrow hfr hrd hrc hfd hfc
  refine wp_region_held_drew (S := fun W => Bk.Blk W w.heap.size #[.int .i64 (L5).id, .int .i64 (L5).ac, .int .i64 (L5).st, .int .i64 (L5).pp, .int .i64 (L5).pi, .int .i64 (L5).fee, .int .i64 (L5).pen, .int .i64 (L5).chg, .int .i64 (L5).prov, .int .i64 (L5).loss, .int .i64 (L5).rcv, .int .i64 ((L5).tm).me, .int .i64 ((L5).tm).pr, .int .i64 ((L5).tm).ppm, .int .i64 ((L5).tm).stt, .int .i64 ((L5).tm).ev, .int .i64 ((L5).tm).ct, .int .i64 ((L5).tm).ba, .int .i64 ((L5).tm).mo, .int .i64 ((L5).tm).pen, .int .i64 ((L5).tm).fe, .string ((L5).tm).cal, .string ((L5).tm).cur, .slice da' (L5).ds.length dk', .slice ca' (L5).cs.length ck'] 32 ∧ Bk.Blk W g #[.int .i64 x.r, sl, .slice a' x.pps.length c'] 135) (by kernel_rfl) ⟨h9d.k, h9d.p⟩ (fun hSd => ?_)
  refine take_at (l := [_, _, _, _, _, _, _, _]) 0 (by decide) (by kernel_rfl) (by kernel_rfl) (by kernel_rfl) (fun _ _ _ h => h) hSd (yields_load_row (by rfl) 32 (.tmp 3) rfl w.heap.size rfl _ _ _ _ (fun W hW => hW.1) Tryz.underlying32 rfl (by kernel_rfl)) ?_
  simp only [List.getElem_cons_zero, List.getElem_cons_succ, Act.put, List.setIfInBounds_toArray, List.set_cons_zero, List.set_cons_succ]
  refine take_at (l := [_, _, _, _, _, _, _, _]) 1 (by decide) (v := ?_) (by kernel_rfl) (by kernel_rfl) (by kernel_rfl) (fun _ _ _ h => h) hSd (Or.inl ⟨by rfl, ?_⟩) ?_
  rotate_left
  ·intro W hW
   skip
   clear hW
   simp only [List.getElem_cons_zero, List.getElem_cons_succ]
   go_simp
   first | done | with_reducible rfl
  simp only [List.getElem_cons_zero, List.getElem_cons_succ, Act.put, List.setIfInBounds_toArray, List.set_cons_zero, List.set_cons_succ]
  refine take_at (l := [_, _, _, _, _, _, _, _]) 2 (by decide) (v := ?_) (by kernel_rfl) (by kernel_rfl) (by kernel_rfl) (fun _ _ _ h => h) hSd (Or.inl ⟨by rfl, ?_⟩) ?_
  rotate_left
  ·intro W hW
   skip
   clear hW
   simp only [List.getElem_cons_zero, List.getElem_cons_succ]
   go_simp
   first | done | with_reducible rfl
  simp only [List.getElem_cons_zero, List.getElem_cons_succ, Act.put, List.setIfInBounds_toArray, List.set_cons_zero, List.set_cons_succ]
  refine take_at (l := [_, _, _, _, _, _, _, _]) 3 (by decide) (v := ?_) (by kernel_rfl) (by kernel_rfl) (by kernel_rfl) (fun _ _ _ h => h) hSd (Or.inl ⟨by rfl, ?_⟩) ?_
  rotate_left
  ·intro W hW
   skip
   clear hW
   simp only [List.getElem_cons_zero, List.getElem_cons_succ]
   go_simp
   first | done | with_reducible rfl
  simp only [List.getElem_cons_zero, List.getElem_cons_succ, Act.put, List.setIfInBounds_toArray, List.set_cons_zero, List.set_cons_succ]
  refine take_at (l := [_, _, _, _, _, _, _, _]) 4 (by decide) (v := ?_) (by kernel_rfl) (by kernel_rfl) (by kernel_rfl) (fun _ _ _ h => h) hSd (Or.inl ⟨by rfl, ?_⟩) ?_
  rotate_left
  ·intro W hW
   have q := hW.2.c2
   clear hW
   simp only [List.getElem_cons_zero, List.getElem_cons_succ]
   go_simp
   first | done | with_reducible rfl
  simp only [List.getElem_cons_zero, List.getElem_cons_succ, Act.put, List.setIfInBounds_toArray, List.set_cons_zero, List.set_cons_succ]
  refine one_at (l := [_, _, _, _, _, _, _, _]) 5 (by decide) (by kernel_rfl) (by rfl) (fun K hK => ?_)
  simp only [List.getElem_cons_zero, List.getElem_cons_succ]
  refine wp_store_row 32 (.tmp 6) (.tmp 102) rfl (w.heap.size + 1) _ rfl rfl _ _ h9d.z (by kernel_rfl) rfl (one25 ..) ?_
  refine hK.out _ _ ⟨Blk_setRow_ne hSd.1 (by omega), Blk_setRow_ne hSd.2 (by omega)⟩ (fun hSe => ?_)
  simp only [List.getElem_cons_zero, List.getElem_cons_succ, Act.put, List.setIfInBounds_toArray, List.set_cons_zero, List.set_cons_succ]
  refine take_at (l := [_, _, _, _, _, _, _, _]) 6 (by decide) (v := ?_) (by kernel_rfl) (by kernel_rfl) (by kernel_rfl) (fun _ _ _ h => h) hSe (Or.inl ⟨by rfl, ?_⟩) ?_
  rotate_left
  ·intro W hW
   skip
   clear hW
   simp only [List.getElem_cons_zero, List.getElem_cons_succ]
   go_simp
   first | done | with_reducible rfl
  simp only [List.getElem_cons_zero, List.getElem_cons_succ, Act.put, List.setIfInBounds_toArray, List.set_cons_zero, List.set_cons_succ]
  refine take_at (l := [_, _, _, _, _, _, _, _]) 7 (by decide) (v := ?_) (by kernel_rfl) (by kernel_rfl) (by kernel_rfl) (fun _ _ _ h => h) hSe (Or.inl ⟨by rfl, ?_⟩) ?_
  rotate_left
  ·intro W hW
   skip
   clear hW
   simp only [List.getElem_cons_zero, List.getElem_cons_succ]
   go_simp
   first | done | with_reducible rfl
  simp only [List.getElem_cons_zero, List.getElem_cons_succ, Act.put, List.setIfInBounds_toArray, List.set_cons_zero, List.set_cons_succ]
  refine wpAnyH_done (by kernel_rfl) ?_ _
  go_wp2_with fail
  (try simp only [Exit.inBlock, Exit.then])
  refine bodyPost_ret (results3_cell Tryz.results33 _ _ _ _ _ _ _ rfl (Blk_setRow_same h9d.z) Tryz.underlying32 rfl (by kernel_rfl)) rfl ?_
  refine ⟨a', c', da', dk', ca', ck', by rw [HPY.out, ← HD.out]; rfl, ?_, ?_, ?_, Below_setRow h9d.b (by omega) _⟩
  ·rw [← HD.out]
   exact HRW.out.1.blk (fun ad had => setRow_other _ _ _ _ (fun he => by cases had; exact h9d.ap.2.1 (by simp only [Value.ownBlock]; exact congrArg some he)))
  ·rw [← HD5.out.1]
   exact HRW.out.2.1.blk (fun ad had => setRow_other _ _ _ _ (fun he => by have := HFF.out.1 ad had; omega))
  ·rw [← HD5.out.2]
   exact HRW.out.2.2.blk (fun ad had => setRow_other _ _ _ _ (fun he => by have := HFF.out.2 ad had; omega))
end Go.Proofs.YtlolflephnbbcaaGreatDoor.Ln
namespace Go.Proofs.YtlolflephnbbcaaGreatDoor.Ln
open Go.RowKit
open Go.Proofs.YtlolflephnbbcaaGreatDoor
set_option maxRecDepth 100000

def payA (l : Lo) (n on : Int) : Lo := if payE l n on = 0 then payL l n on else zLo
def payP (l : Lo) (n on : Int) : List Pa := if payE l n on = 0 then (payD l n on).pps else []
theorem payL_same (l : Lo) (n on : Int) : (payL l n on).ds = l.ds ∧ (payL l n on).cs = l.cs := by unfold payL; exact ⟨(done_same _).1, (done_same _).2⟩
theorem pay_any (l : Lo) (da ca : Option Addr) (dk ck : Nat) (n on : Int) (w : World) (h : LoIn w l da ca) (hn : l.ds.length ≤ 100000) :
  Calls Tryz.prog 33 #[(.agg #[.int .i64 (l).id, .int .i64 (l).ac, .int .i64 (l).st, .int .i64 (l).pp, .int .i64 (l).pi, .int .i64 (l).fee, .int .i64 (l).pen, .int .i64 (l).chg, .int .i64 (l).prov, .int .i64 (l).loss, .int .i64 (l).rcv, .int .i64 ((l).tm).me, .int .i64 ((l).tm).pr, .int .i64 ((l).tm).ppm, .int .i64 ((l).tm).stt, .int .i64 ((l).tm).ev, .int .i64 ((l).tm).ct, .int .i64 ((l).tm).ba, .int .i64 ((l).tm).mo, .int .i64 ((l).tm).pen, .int .i64 ((l).tm).fe, .string ((l).tm).cal, .string ((l).tm).cur, .slice da (l).ds.length dk, .slice ca (l).cs.length ck]), .int .i64 n, .int .i64 on] w fun e w' => ∃ a c da' dk' ca' ck', e = .returned (.tuple #[(.agg #[.int .i64 ((payA l n on)).id, .int .i64 ((payA l n on)).ac, .int .i64 ((payA l n on)).st, .int .i64 ((payA l n on)).pp, .int .i64 ((payA l n on)).pi, .int .i64 ((payA l n on)).fee, .int .i64 ((payA l n on)).pen, .int .i64 ((payA l n on)).chg, .int .i64 ((payA l n on)).prov, .int .i64 ((payA l n on)).loss, .int .i64 ((payA l n on)).rcv, .int .i64 (((payA l n on)).tm).me, .int .i64 (((payA l n on)).tm).pr, .int .i64 (((payA l n on)).tm).ppm, .int .i64 (((payA l n on)).tm).stt, .int .i64 (((payA l n on)).tm).ev, .int .i64 (((payA l n on)).tm).ct, .int .i64 (((payA l n on)).tm).ba, .int .i64 (((payA l n on)).tm).mo, .int .i64 (((payA l n on)).tm).pen, .int .i64 (((payA l n on)).tm).fe, .string (((payA l n on)).tm).cal, .string (((payA l n on)).tm).cur, .slice da' ((payA l n on)).ds.length dk', .slice ca' ((payA l n on)).cs.length ck']), .slice a (payP l n on).length c, .int .i64 (payE l n on)]) ∧ RowIn penc w' a (payP l n on) ∧ LoIn w' (payA l n on) da' ca' ∧ Below w.heap.size w w' := by
 have hd := dues_of_row (by omega) h.d
 by_cases he : payE l n on = 0
 ·refine (pay_ok l da ca dk ck n on w hd h.c he).mono fun e w' hh => ?_
  obtain ⟨a, c, da', dk', ca', ck', rfl, h1, h2, h3, h4⟩ := hh
  have e1 : payA l n on = payL l n on := if_pos he
  have e2 : payP l n on = (payD l n on).pps := if_pos he
  have s := payL_same l n on
  rw [e1, e2, he]
  exact ⟨a, c, da', dk', ca', ck', rfl, h1, ⟨by rw [s.1]; exact h2, by rw [s.2]; exact h3⟩, h4⟩
 ·refine (pay_errs l da ca dk ck n on w hd he).mono fun e w' hh => ?_
  obtain ⟨rfl, h4⟩ := hh
  have e1 : payA l n on = zLo := if_neg he
  have e2 : payP l n on = [] := if_neg he
  rw [e1, e2]
  exact ⟨none, 0, none, 0, none, 0, rfl, .none, ⟨.none, .none⟩, h4⟩
end Go.Proofs.YtlolflephnbbcaaGreatDoor.Ln
