/-
  Parts of the proof: B25.
-/
import Derived.Test.YtlolflephnbbcaaGreatDoorQ36
import Derived.Test.YtlolflephnbbcaaGreatDoorQ33
namespace Go.Proofs.YtlolflephnbbcaaGreatDoor.Ln
open Go Go.RowKit
open Go.Proofs.YtlolflephnbbcaaGreatDoor
set_option linter.unusedSimpArgs false
set_option linter.unusedVariables false
set_option maxRecDepth 100000
set_option maxHeartbeats 16000000 in
theorem rec_no (l : Lo) (da ca : Option Addr) (dk ck : Nat) (n on : Int) (w : World) (hl : LoInA w l da ca) (hn : l.ds.length ≤ 100000) (hm : l.cs.length ≤ 100000) (h3 : l.st = 3) (hn1 : 1 ≤ n ∧ n ≤ 1000000000000) (hon : 0 ≤ on ∧ on ≤ 73048) (hr : 0 ≤ l.rcv ∧ l.rcv ≤ l.loss ∧ l.loss ≤ 1000000000000) (hf : l.loss - l.rcv < n) :
  Calls Tryz.prog 43 #[(.agg #[.int .i64 (l).id, .int .i64 (l).ac, .int .i64 (l).st, .int .i64 (l).pp, .int .i64 (l).pi, .int .i64 (l).fee, .int .i64 (l).pen, .int .i64 (l).chg, .int .i64 (l).prov, .int .i64 (l).loss, .int .i64 (l).rcv, .int .i64 ((l).tm).me, .int .i64 ((l).tm).pr, .int .i64 ((l).tm).ppm, .int .i64 ((l).tm).stt, .int .i64 ((l).tm).ev, .int .i64 ((l).tm).ct, .int .i64 ((l).tm).ba, .int .i64 ((l).tm).mo, .int .i64 ((l).tm).pen, .int .i64 ((l).tm).fe, .string ((l).tm).cal, .string ((l).tm).cur, .slice da (l).ds.length dk, .slice ca (l).cs.length ck]), .int .i64 n, .int .i64 on] w (WrP zLo 0 18 w) := by
 have m0 : MSt w ((w.alloc (.cells #[.int .i64 (l).id, .int .i64 (l).ac, .int .i64 (l).st, .int .i64 (l).pp, .int .i64 (l).pi, .int .i64 (l).fee, .int .i64 (l).pen, .int .i64 (l).chg, .int .i64 (l).prov, .int .i64 (l).loss, .int .i64 (l).rcv, .int .i64 ((l).tm).me, .int .i64 ((l).tm).pr, .int .i64 ((l).tm).ppm, .int .i64 ((l).tm).stt, .int .i64 ((l).tm).ev, .int .i64 ((l).tm).ct, .int .i64 ((l).tm).ba, .int .i64 ((l).tm).mo, .int .i64 ((l).tm).pen, .int .i64 ((l).tm).fe, .string ((l).tm).cal, .string ((l).tm).cur, .slice da (l).ds.length dk, .slice ca (l).cs.length ck] 32)).alloc (.cells Zc 32)) Zc l da ca dk ck := ⟨Bk.Blk.nw20, Bk.Blk.nw21, ((Below.refl _ _).alloc (Nat.le_refl _) _).alloc (by simp) _⟩
 have g1 : (l.st != 3) = false := by rw [h3]; rfl
 have g2 : decide (n < 1) = false := decide_eq_false (by omega)
 have g3 : decide (1000000000000 < n) = false := decide_eq_false (by omega)
 have HV := Lib.hid (fun (W : World) => Dt.valid_yes on W hon.1 hon.2)
 have hwr : wrap64 (l.loss - l.rcv) = l.loss - l.rcv := by unfold wrap64; omega
 have g4 : decide (wrap64 (l.loss - l.rcv) < n) = true := decide_eq_true (by rw [hwr]; exact hf)
 have HW := Lib.hid hwr
 clear hf hl hn hm h3 hn1 hon hr hwr
 go_enter Tryz.func43, Tryz.ntmps43
 go_upto_region 1 with fail
 change Code.wp _ _ _ _ ((w.alloc (.cells #[.int .i64 (l).id, .int .i64 (l).ac, .int .i64 (l).st, .int .i64 (l).pp, .int .i64 (l).pi, .int .i64 (l).fee, .int .i64 (l).pen, .int .i64 (l).chg, .int .i64 (l).prov, .int .i64 (l).loss, .int .i64 (l).rcv, .int .i64 ((l).tm).me, .int .i64 ((l).tm).pr, .int .i64 ((l).tm).ppm, .int .i64 ((l).tm).stt, .int .i64 ((l).tm).ev, .int .i64 ((l).tm).ct, .int .i64 ((l).tm).ba, .int .i64 ((l).tm).mo, .int .i64 ((l).tm).pen, .int .i64 ((l).tm).fe, .string ((l).tm).cal, .string ((l).tm).cur, .slice da (l).ds.length dk, .slice ca (l).cs.length ck] 32)).alloc (.cells Zc 32))
 generalize ((w.alloc (.cells _ 32)).alloc (.cells Zc 32)) = w0 at *
 have l2 := m0.k.c2
 have l9 := m0.k.c9
 have l10 := m0.k.c10
 go_wp2_with fail
 refine (HV.out _).mono ?_
 rintro e w' ⟨rfl, rfl⟩
 go_wp2_with (refine wpList_store_row rfl 32 _ _ rfl _ _ rfl rfl _ _ m0.z (by kernel_rfl) rfl (one25 ..) ?_)
 (try simp only [Exit.inBlock, Exit.then])
 refine bodyPost_ret (results3_cell Tryz.results43 _ _ _ _ _ _ _ rfl (Blk_setRow_same m0.z) Tryz.underlying32 rfl (by kernel_rfl)) rfl ?_
 exact ⟨none, 0, none, 0, rfl, ⟨RowIn.noneA, RowIn.noneA⟩, Below_setRow m0.b (by omega) _⟩
set_option maxHeartbeats 16000000 in
theorem rec_ok (l : Lo) (da ca : Option Addr) (dk ck : Nat) (n on : Int) (w : World) (hl : LoInA w l da ca) (hn : l.ds.length ≤ 100000) (hm : l.cs.length ≤ 100000) (h3 : l.st = 3) (hn1 : 1 ≤ n ∧ n ≤ 1000000000000) (hon : 0 ≤ on ∧ on ≤ 73048) (hr : 0 ≤ l.rcv ∧ l.rcv ≤ l.loss ∧ l.loss ≤ 1000000000000) (hf : n ≤ l.loss - l.rcv) :
  Calls Tryz.prog 43 #[(.agg #[.int .i64 (l).id, .int .i64 (l).ac, .int .i64 (l).st, .int .i64 (l).pp, .int .i64 (l).pi, .int .i64 (l).fee, .int .i64 (l).pen, .int .i64 (l).chg, .int .i64 (l).prov, .int .i64 (l).loss, .int .i64 (l).rcv, .int .i64 ((l).tm).me, .int .i64 ((l).tm).pr, .int .i64 ((l).tm).ppm, .int .i64 ((l).tm).stt, .int .i64 ((l).tm).ev, .int .i64 ((l).tm).ct, .int .i64 ((l).tm).ba, .int .i64 ((l).tm).mo, .int .i64 ((l).tm).pen, .int .i64 ((l).tm).fe, .string ((l).tm).cal, .string ((l).tm).cur, .slice da (l).ds.length dk, .slice ca (l).cs.length ck]), .int .i64 n, .int .i64 on] w (WrP { l with rcv := l.rcv + n } n 0 w) := by
 have m0 : MSt w ((w.alloc (.cells #[.int .i64 (l).id, .int .i64 (l).ac, .int .i64 (l).st, .int .i64 (l).pp, .int .i64 (l).pi, .int .i64 (l).fee, .int .i64 (l).pen, .int .i64 (l).chg, .int .i64 (l).prov, .int .i64 (l).loss, .int .i64 (l).rcv, .int .i64 ((l).tm).me, .int .i64 ((l).tm).pr, .int .i64 ((l).tm).ppm, .int .i64 ((l).tm).stt, .int .i64 ((l).tm).ev, .int .i64 ((l).tm).ct, .int .i64 ((l).tm).ba, .int .i64 ((l).tm).mo, .int .i64 ((l).tm).pen, .int .i64 ((l).tm).fe, .string ((l).tm).cal, .string ((l).tm).cur, .slice da (l).ds.length dk, .slice ca (l).cs.length ck] 32)).alloc (.cells Zc 32)) Zc l da ca dk ck := ⟨Bk.Blk.nw20, Bk.Blk.nw21, ((Below.refl _ _).alloc (Nat.le_refl _) _).alloc (by simp) _⟩
 have g1 : (l.st != 3) = false := by rw [h3]; rfl
 have g2 : decide (n < 1) = false := decide_eq_false (by omega)
 have g3 : decide (1000000000000 < n) = false := decide_eq_false (by omega)
 have HV := Lib.hid (fun (W : World) => Dt.valid_yes on W hon.1 hon.2)
 have hwr : wrap64 (l.loss - l.rcv) = l.loss - l.rcv := by unfold wrap64; omega
 have g4 : decide (wrap64 (l.loss - l.rcv) < n) = false := decide_eq_false (by rw [hwr]; omega)
 have HCL := Lib.hid (fun (W : World) (hW : Below w.heap.size w W) => cln_loan l da ca dk ck W (hl.later hW) hn hm)
 have hwa : wrap64 (l.rcv + n) = l.rcv + n := by unfold wrap64; omega
 have HW := Lib.hid (And.intro hwr hwa)
 clear hf hl hn hm h3 hn1 hon hr hwr hwa
 go_enter Tryz.func43, Tryz.ntmps43
 go_upto_region 1 with fail
 change Code.wp _ _ _ _ ((w.alloc (.cells #[.int .i64 (l).id, .int .i64 (l).ac, .int .i64 (l).st, .int .i64 (l).pp, .int .i64 (l).pi, .int .i64 (l).fee, .int .i64 (l).pen, .int .i64 (l).chg, .int .i64 (l).prov, .int .i64 (l).loss, .int .i64 (l).rcv, .int .i64 ((l).tm).me, .int .i64 ((l).tm).pr, .int .i64 ((l).tm).ppm, .int .i64 ((l).tm).stt, .int .i64 ((l).tm).ev, .int .i64 ((l).tm).ct, .int .i64 ((l).tm).ba, .int .i64 ((l).tm).mo, .int .i64 ((l).tm).pen, .int .i64 ((l).tm).fe, .string ((l).tm).cal, .string ((l).tm).cur, .slice da (l).ds.length dk, .slice ca (l).cs.length ck] 32)).alloc (.cells Zc 32))
 generalize ((w.alloc (.cells _ 32)).alloc (.cells Zc 32)) = w0 at *
 have l2 := m0.k.c2
 have l9 := m0.k.c9
 have l10 := m0.k.c10
 go_wp2_with fail
 refine (HV.out _).mono ?_
 rintro e w' ⟨rfl, rfl⟩
 go_wp2_with (refine wpList_load_row rfl 32 _ rfl _ rfl _ _ _ _ (m0.k) Tryz.underlying32 rfl (by kernel_rfl) ?_)
 refine (HCL.out _ m0.b).mono ?_
 rintro e w3 ⟨da', dk', ca', ck', rfl, hlA, hfA, hb⟩
 have hsz := m0.sz
 have m3 := m0.later hb
 clear m0 hb HCL
 go_upto_region 8 with (refine wpList_store_row rfl 32 _ _ rfl _ _ rfl rfl _ _ Bk.Blk.nw10 (by kernel_rfl) rfl (one25 ..) ?_)
 have hx : Below w3.heap.size w3 ((w3.alloc (.cells #[.int .i64 0, .int .i64 0, .int .i64 0, .int .i64 0, .int .i64 0, .int .i64 0, .int .i64 0, .int .i64 0, .int .i64 0, .int .i64 0, .int .i64 0, .int .i64 0, .int .i64 0, .int .i64 0, .int .i64 0, .int .i64 0, .int .i64 0, .int .i64 0, .int .i64 0, .int .i64 0, .int .i64 0, .string { data := #[] }, .string { data := #[] }, .slice none 0 0, .slice none 0 0] 32)).setRow w3.heap.size #[.int .i64 (l).id, .int .i64 (l).ac, .int .i64 (l).st, .int .i64 (l).pp, .int .i64 (l).pi, .int .i64 (l).fee, .int .i64 (l).pen, .int .i64 (l).chg, .int .i64 (l).prov, .int .i64 (l).loss, .int .i64 (l).rcv, .int .i64 ((l).tm).me, .int .i64 ((l).tm).pr, .int .i64 ((l).tm).ppm, .int .i64 ((l).tm).stt, .int .i64 ((l).tm).ev, .int .i64 ((l).tm).ct, .int .i64 ((l).tm).ba, .int .i64 ((l).tm).mo, .int .i64 ((l).tm).pen, .int .i64 ((l).tm).fe, .string ((l).tm).cal, .string ((l).tm).cur, .slice da' (l).ds.length dk', .slice ca' (l).cs.length ck']) := Below_setRow ((Below.refl _ _).alloc (Nat.le_refl _) _) (Nat.le_refl _) _
 have kx : Bk.Blk ((w3.alloc (.cells #[.int .i64 0, .int .i64 0, .int .i64 0, .int .i64 0, .int .i64 0, .int .i64 0, .int .i64 0, .int .i64 0, .int .i64 0, .int .i64 0, .int .i64 0, .int .i64 0, .int .i64 0, .int .i64 0, .int .i64 0, .int .i64 0, .int .i64 0, .int .i64 0, .int .i64 0, .int .i64 0, .int .i64 0, .string { data := #[] }, .string { data := #[] }, .slice none 0 0, .slice none 0 0] 32)).setRow w3.heap.size #[.int .i64 (l).id, .int .i64 (l).ac, .int .i64 (l).st, .int .i64 (l).pp, .int .i64 (l).pi, .int .i64 (l).fee, .int .i64 (l).pen, .int .i64 (l).chg, .int .i64 (l).prov, .int .i64 (l).loss, .int .i64 (l).rcv, .int .i64 ((l).tm).me, .int .i64 ((l).tm).pr, .int .i64 ((l).tm).ppm, .int .i64 ((l).tm).stt, .int .i64 ((l).tm).ev, .int .i64 ((l).tm).ct, .int .i64 ((l).tm).ba, .int .i64 ((l).tm).mo, .int .i64 ((l).tm).pen, .int .i64 ((l).tm).fe, .string ((l).tm).cal, .string ((l).tm).cur, .slice da' (l).ds.length dk', .slice ca' (l).cs.length ck']) w3.heap.size _ 32 := Blk_setRow_same Bk.Blk.nw10
 have m4 := m3.later hx
 have hgw : w.heap.size + 1 < w3.heap.size := m3.sz
 clear m3
 generalize ((w3.alloc (.cells _ 32)).setRow w3.heap.size _) = w4 at *
 obtain ⟨gx, hgx⟩ : ∃ g, g = w3.heap.size := ⟨_, rfl⟩
 rw [← hgx] at kx hgw ⊢
 have HX := Lib.hid (And.intro hlA (And.intro hx hgx))
 have HFR := Lib.hid (And.intro hfA hsz)
 clear hlA hx hgx hfA hsz
 have x10 := kx.c10
 have y10 := kx.f10
 go_upto_region 9 with fail
 clear x10 y10
 rw [HW.out.2]
 have kx6 : Bk.Blk (w4.setCell ⟨gx, 10, none⟩ (.int .i64 (l.rcv + n))) gx #[.int .i64 (({ l with rcv := l.rcv + n } : Lo)).id, .int .i64 (({ l with rcv := l.rcv + n } : Lo)).ac, .int .i64 (({ l with rcv := l.rcv + n } : Lo)).st, .int .i64 (({ l with rcv := l.rcv + n } : Lo)).pp, .int .i64 (({ l with rcv := l.rcv + n } : Lo)).pi, .int .i64 (({ l with rcv := l.rcv + n } : Lo)).fee, .int .i64 (({ l with rcv := l.rcv + n } : Lo)).pen, .int .i64 (({ l with rcv := l.rcv + n } : Lo)).chg, .int .i64 (({ l with rcv := l.rcv + n } : Lo)).prov, .int .i64 (({ l with rcv := l.rcv + n } : Lo)).loss, .int .i64 (({ l with rcv := l.rcv + n } : Lo)).rcv, .int .i64 ((({ l with rcv := l.rcv + n } : Lo)).tm).me, .int .i64 ((({ l with rcv := l.rcv + n } : Lo)).tm).pr, .int .i64 ((({ l with rcv := l.rcv + n } : Lo)).tm).ppm, .int .i64 ((({ l with rcv := l.rcv + n } : Lo)).tm).stt, .int .i64 ((({ l with rcv := l.rcv + n } : Lo)).tm).ev, .int .i64 ((({ l with rcv := l.rcv + n } : Lo)).tm).ct, .int .i64 ((({ l with rcv := l.rcv + n } : Lo)).tm).ba, .int .i64 ((({ l with rcv := l.rcv + n } : Lo)).tm).mo, .int .i64 ((({ l with rcv := l.rcv + n } : Lo)).tm).pen, .int .i64 ((({ l with rcv := l.rcv + n } : Lo)).tm).fe, .string ((({ l with rcv := l.rcv + n } : Lo)).tm).cal, .string ((({ l with rcv := l.rcv + n } : Lo)).tm).cur, .slice da' (({ l with rcv := l.rcv + n } : Lo)).ds.length dk', .slice ca' (({ l with rcv := l.rcv + n } : Lo)).cs.length ck'] 32 := (kx.set_same (i := 10) (u := .int .i64 (l.rcv + n))).conv rfl
 have m6 : MSt w (w4.setCell ⟨gx, 10, none⟩ (.int .i64 (l.rcv + n))) Zc l da ca dk ck := ⟨m4.k.set_ne (by omega), m4.z.set_ne (by omega), m4.b.setCell (show w.heap.size ≤ gx by omega) _⟩
 have hl6 : LoInA (w4.setCell ⟨gx, 10, none⟩ (.int .i64 (l.rcv + n))) l da' ca' := by
  obtain ⟨h1, h2, h3⟩ := HX.out
  exact h1.later (h2.setCell (show w3.heap.size ≤ gx by omega) _)
 clear kx m4 HX
 generalize (w4.setCell ⟨gx, 10, none⟩ (.int .i64 (l.rcv + n))) = w6 at *
 go_wp2_with (first | (refine wpList_load_row rfl 32 _ rfl _ rfl _ _ _ _ (kx6) Tryz.underlying32 rfl (by kernel_rfl) ?_) | (refine wpList_store_row rfl 32 _ _ rfl _ _ rfl rfl _ _ m6.z (by kernel_rfl) rfl (one25 ..) ?_))
 (try simp only [Exit.inBlock, Exit.then])
 refine bodyPost_ret (results3_cell Tryz.results43 _ _ _ _ _ _ _ rfl (Blk_setRow_same m6.z) Tryz.underlying32 rfl (by kernel_rfl)) rfl ?_
 exact ⟨da', dk', ca', ck', rfl, ⟨row_row hl6.d (fun ad had => by have := HFR.out.1.1 ad had; have := HFR.out.2; omega), row_row hl6.c (fun ad had => by have := HFR.out.1.2 ad had; have := HFR.out.2; omega)⟩, Below_setRow m6.b (by omega) _⟩
def exS (x : Lo) (s : Int) : Int := if x.st = 1 then wrap64 (s + wrap64 (P x.ds - x.pp)) else if x.st = 3 then wrap64 (s + wrap64 (x.loss - x.rcv)) else s
def exG : List LoS → Int → Int
 | [], s => s
 | x :: xs, s => exG xs (exS x.l s)
theorem exG_step {s : Int} {xs : List LoS} {k : Nat} (h : k < xs.length) : exG (xs.drop k) s = exG (xs.drop (k + 1)) (exS xs[k]!.l s) := by
 rw [List.drop_eq_getElem_cons h, getElem!_pos xs k h]
 rfl
theorem exG_end {s : Int} {xs : List LoS} {k : Nat} (h : ¬k < xs.length) : exG (xs.drop k) s = s := by
 rw [List.drop_eq_nil_of_le (by omega)]
 rfl
def exR (w : World) (xs : List LoS) (g : Nat) (s3 s8 : Value) (W : World) : Prop := ∃ (k : Nat) (s : Int), k + g = xs.length ∧ s8 = .int .i64 k ∧ s3 = .int .i64 s ∧ exG (xs.drop k) s = exG xs 0 ∧ Below w.heap.size w W
set_option maxHeartbeats 8000000 in
theorem expo_any (a : Option Addr) (cap : Nat) (xs : List LoS) (w : World) (h : LosIn w a xs) (hn : xs.length ≤ 100000) :
  Calls Tryz.prog 44 #[.slice a xs.length cap] w fun e w' => e = .returned (.int .i64 (exG xs 0)) ∧ Below w.heap.size w w' := by
 have HX := Lib.hid (fun (x : LoS) (hx : x ∈ xs) (W : World) (hW : Below w.heap.size w W) => out_any x.l x.da x.ca x.dk x.ck W (dues_of_row (h.lens x hx) ((h.each x hx).later hW).d))
 have H := Lib.hid h
 clear h
 go_enter Tryz.func44, Tryz.ntmps44
 go_wp2_with fail
 go_loopg [3, 8] xs.length (exR w xs)
 case atStart => exact ⟨0, 0, by omega, rfl, rfl, rfl, Below.refl _ _⟩
 case round =>
  obtain ⟨k, s, hk, rfl, rfl, hgo, hbr⟩ := hrel
  have HGO := Lib.hid hgo
  clear hgo
  by_cases hlt : k < xs.length
  ·obtain ⟨b, off, rfl, hc⟩ := (H.out.row.later hbr).mid lenc_len (by omega)
   have hx := hc k hlt
   have hm : xs[k]! ∈ xs := by rw [getElem!_pos xs k hlt]; exact List.getElem_mem hlt
   have hs := HGO.out
   rw [exG_step hlt] at hs
   have HS := Lib.hid hs
   have HXX := Lib.hid (HX.out xs[k]! hm)
   clear hc hs hm
   generalize xs[k]! = x at *
   obtain ⟨ou, hou⟩ : ∃ ou, ou = wrap64 (P x.l.ds - x.l.pp) := ⟨_, rfl⟩
   rw [← hou] at HXX
   have HOU := Lib.hid hou.symm
   clear hou
   go_upto_region 5 with (first | (refine wpList_load_mid rfl 32 _ rfl b (off + k * 25) (by rfl) (lenc x) _ hx Tryz.underlying32 rfl (by kernel_rfl) ?_) | (refine wpList_store_row rfl 32 _ _ rfl _ _ rfl rfl _ _ Bk.Blk.nw10 (by kernel_rfl) rfl (lenc_all x) ?_))
   have hbs : Below wr.heap.size wr ((wr.alloc (.cells #[.int .i64 0, .int .i64 0, .int .i64 0, .int .i64 0, .int .i64 0, .int .i64 0, .int .i64 0, .int .i64 0, .int .i64 0, .int .i64 0, .int .i64 0, .int .i64 0, .int .i64 0, .int .i64 0, .int .i64 0, .int .i64 0, .int .i64 0, .int .i64 0, .int .i64 0, .int .i64 0, .int .i64 0, .string { data := #[] }, .string { data := #[] }, .slice none 0 0, .slice none 0 0] 32)).setRow wr.heap.size (lenc x).toArray) := Below_setRow ((Below.refl _ _).alloc (Nat.le_refl _) _) (Nat.le_refl _) _
   have kx : Bk.Blk ((wr.alloc (.cells #[.int .i64 0, .int .i64 0, .int .i64 0, .int .i64 0, .int .i64 0, .int .i64 0, .int .i64 0, .int .i64 0, .int .i64 0, .int .i64 0, .int .i64 0, .int .i64 0, .int .i64 0, .int .i64 0, .int .i64 0, .int .i64 0, .int .i64 0, .int .i64 0, .int .i64 0, .int .i64 0, .int .i64 0, .string { data := #[] }, .string { data := #[] }, .slice none 0 0, .slice none 0 0] 32)).setRow wr.heap.size (lenc x).toArray) wr.heap.size _ 32 := (Blk_setRow_same (cs := (lenc x).toArray) Bk.Blk.nw10).conv rfl
   have b1 := bl2 hbs hbr
   clear hbs hx hbr
   generalize ((wr.alloc (.cells _ 32)).setRow wr.heap.size (lenc x).toArray) = w1 at *
   have x2 := kx.c2
   by_cases s1 : x.l.st = 1
   ·have g1 : (x.l.st == 1) = true := by rw [s1]; rfl
    have HE := Lib.hid (show exG (xs.drop (k + 1)) (wrap64 (s + ou)) = exG xs 0 by rw [← HS.out]; unfold exS; rw [if_pos s1, HOU.out])
    clear s1 HS
    go_wp2_with (first | (refine wpList_load_row rfl 32 _ rfl _ rfl _ _ _ _ (kx) Tryz.underlying32 rfl (by kernel_rfl) ?_) | (refine load_guarded 32 _ rfl rfl _ rfl _ _ _ _ (kx) Tryz.underlying32 rfl (by kernel_rfl) ?_))
    refine (HXX.out _ b1).mono ?_
    rintro e w2 ⟨rfl, hb2⟩
    have b2 := bl2 hb2 b1
    clear hb2 b1 kx
    go_wp2_with fail
    go_roundg (gk - 1)
    case measure => omega
    case rel => exact ⟨k + 1, wrap64 (s + ou), by omega, by go_num, rfl, HE.out, b2⟩
   ·by_cases s3 : x.l.st = 3
    ·have g1 : (x.l.st == 1) = false := beq_eq_false_iff_ne.2 s1
     have g3 : (x.l.st == 3) = true := by rw [s3]; rfl
     have x9 := kx.c9
     have x10 := kx.c10
     obtain ⟨v, hv⟩ : ∃ v, v = wrap64 (s + wrap64 (x.l.loss - x.l.rcv)) := ⟨_, rfl⟩
     have HE := Lib.hid (show exG (xs.drop (k + 1)) v = exG xs 0 by rw [← HS.out]; unfold exS; rw [if_neg s1, if_pos s3, hv])
     have HVV := Lib.hid hv
     clear s1 s3 HS hv
     go_wp2_with fail
     rw [← HVV.out]
     go_roundg (gk - 1)
     case measure => omega
     case rel => exact ⟨k + 1, v, by omega, by go_num, rfl, HE.out, b1⟩
    ·have g1 : (x.l.st == 1) = false := beq_eq_false_iff_ne.2 s1
     have g3 : (x.l.st == 3) = false := beq_eq_false_iff_ne.2 s3
     have HE := Lib.hid (show exG (xs.drop (k + 1)) s = exG xs 0 by rw [← HS.out]; unfold exS; rw [if_neg s1, if_neg s3])
     clear s1 s3 HS
     go_wp2_with fail
     go_roundg (gk - 1)
     case measure => omega
     case rel => exact ⟨k + 1, s, by omega, by go_num, rfl, HE.out, b1⟩
  ·have HE := Lib.hid (show s = exG xs 0 by rw [← HGO.out, exG_end hlt])
   go_wp2_with fail
   go_ret
   exact ⟨by rw [← HE.out]; rfl, hbr⟩
def sm39 : Lo := ⟨1, 1000, 1, 0, 0, 0, 4, 30, 315, 0, 0, ⟨2, 700, 0, 30, 1, 1, 0, 1, 0, 0, { data := #[104, 111, 109, 101] }, { data := #[69, 85, 82] }⟩, [⟨1, 59, 700, 0⟩], []⟩
def Sm39P (v : Value) (W : World) : Prop := ∃ g, v = (.agg #[.int .i64 (sm39).id, .int .i64 (sm39).ac, .int .i64 (sm39).st, .int .i64 (sm39).pp, .int .i64 (sm39).pi, .int .i64 (sm39).fee, .int .i64 (sm39).pen, .int .i64 (sm39).chg, .int .i64 (sm39).prov, .int .i64 (sm39).loss, .int .i64 (sm39).rcv, .int .i64 ((sm39).tm).me, .int .i64 ((sm39).tm).pr, .int .i64 ((sm39).tm).ppm, .int .i64 ((sm39).tm).stt, .int .i64 ((sm39).tm).ev, .int .i64 ((sm39).tm).ct, .int .i64 ((sm39).tm).ba, .int .i64 ((sm39).tm).mo, .int .i64 ((sm39).tm).pen, .int .i64 ((sm39).tm).fe, .string ((sm39).tm).cal, .string ((sm39).tm).cur, .slice (some ⟨g, 0, none⟩) (sm39).ds.length 1, .slice none (sm39).cs.length 0]) ∧ LoInA W sm39 (some ⟨g, 0, none⟩) none
set_option maxHeartbeats 8000000 in
theorem sample39_any (w : World) : Calls Tryz.prog 42 #[] w fun e w' => ∃ v, e = .returned v ∧ Sm39P v w' ∧ Below w.heap.size w w' := by
 have cw1 : Below w.heap.size w (((w.alloc (.cells #[.int .i64 0, .int .i64 0, .int .i64 0, .int .i64 0, .int .i64 0, .int .i64 0, .int .i64 0, .int .i64 0, .int .i64 0, .int .i64 0, .int .i64 0, .int .i64 0, .int .i64 0, .int .i64 0, .int .i64 0, .int .i64 0, .int .i64 0, .int .i64 0, .int .i64 0, .int .i64 0, .int .i64 0, .string { data := #[] }, .string { data := #[] }, .slice none 0 0, .slice none 0 0] 32)).alloc (.cells #[.int .i64 0, .int .i64 0, .int .i64 0, .int .i64 0, .int .i64 0, .int .i64 0, .int .i64 0, .int .i64 0, .int .i64 0, .int .i64 0, .string { data := #[] }, .string { data := #[] }] 23)).setRow (w.heap.size + 1) #[.int .i64 2, .int .i64 700, .int .i64 0, .int .i64 30, .int .i64 1, .int .i64 1, .int .i64 0, .int .i64 1, .int .i64 0, .int .i64 0, .string { data := #[104, 111, 109, 101] }, .string { data := #[69, 85, 82] }]) := Below_setRow (((Below.refl _ _).alloc (Nat.le_refl _) _).alloc (by simp) _) (by omega) _
 have kz : Bk.Blk (((w.alloc (.cells #[.int .i64 0, .int .i64 0, .int .i64 0, .int .i64 0, .int .i64 0, .int .i64 0, .int .i64 0, .int .i64 0, .int .i64 0, .int .i64 0, .int .i64 0, .int .i64 0, .int .i64 0, .int .i64 0, .int .i64 0, .int .i64 0, .int .i64 0, .int .i64 0, .int .i64 0, .int .i64 0, .int .i64 0, .string { data := #[] }, .string { data := #[] }, .slice none 0 0, .slice none 0 0] 32)).alloc (.cells #[.int .i64 0, .int .i64 0, .int .i64 0, .int .i64 0, .int .i64 0, .int .i64 0, .int .i64 0, .int .i64 0, .int .i64 0, .int .i64 0, .string { data := #[] }, .string { data := #[] }] 23)).setRow (w.heap.size + 1) #[.int .i64 2, .int .i64 700, .int .i64 0, .int .i64 30, .int .i64 1, .int .i64 1, .int .i64 0, .int .i64 1, .int .i64 0, .int .i64 0, .string { data := #[104, 111, 109, 101] }, .string { data := #[69, 85, 82] }]) w.heap.size _ 32 := Blk_setRow_ne Bk.Blk.nw20 (by omega)
 have kt : Bk.Blk (((w.alloc (.cells #[.int .i64 0, .int .i64 0, .int .i64 0, .int .i64 0, .int .i64 0, .int .i64 0, .int .i64 0, .int .i64 0, .int .i64 0, .int .i64 0, .int .i64 0, .int .i64 0, .int .i64 0, .int .i64 0, .int .i64 0, .int .i64 0, .int .i64 0, .int .i64 0, .int .i64 0, .int .i64 0, .int .i64 0, .string { data := #[] }, .string { data := #[] }, .slice none 0 0, .slice none 0 0] 32)).alloc (.cells #[.int .i64 0, .int .i64 0, .int .i64 0, .int .i64 0, .int .i64 0, .int .i64 0, .int .i64 0, .int .i64 0, .int .i64 0, .int .i64 0, .string { data := #[] }, .string { data := #[] }] 23)).setRow (w.heap.size + 1) #[.int .i64 2, .int .i64 700, .int .i64 0, .int .i64 30, .int .i64 1, .int .i64 1, .int .i64 0, .int .i64 1, .int .i64 0, .int .i64 0, .string { data := #[104, 111, 109, 101] }, .string { data := #[69, 85, 82] }]) (w.heap.size + 1) _ 23 := Blk_setRow_same Bk.Blk.nw21
 go_enter Tryz.func42, Tryz.ntmps42
 go_upto_region 2 with (refine wpList_store_row rfl 23 _ _ rfl _ _ rfl rfl _ _ Bk.Blk.nw21 (by kernel_rfl) rfl (by simp [Value.oneCell']) ?_)
 generalize (((w.alloc (.cells _ 32)).alloc (.cells _ 23)).setRow (w.heap.size + 1) _) = w1 at *
 have hz1 := kz.lt
 have kz2 : Bk.Blk (w1.alloc (.cells #[.int .i64 1, .int .i64 59, .int .i64 700, .int .i64 0] 47)) w.heap.size #[.int .i64 0, .int .i64 0, .int .i64 0, .int .i64 0, .int .i64 0, .int .i64 0, .int .i64 0, .int .i64 0, .int .i64 0, .int .i64 0, .int .i64 0, .int .i64 0, .int .i64 0, .int .i64 0, .int .i64 0, .int .i64 0, .int .i64 0, .int .i64 0, .int .i64 0, .int .i64 0, .int .i64 0, .string { data := #[] }, .string { data := #[] }, .slice none 0 0, .slice none 0 0] 32 := kz.later ((Below.refl _ _).alloc (Nat.le_refl _) _)
 have cw2 : Below w.heap.size w (w1.alloc (.cells #[.int .i64 1, .int .i64 59, .int .i64 700, .int .i64 0] 47)) := bl2 ((Below.refl _ _).alloc (Nat.le_refl _) _) cw1
 have hd : RowIn denc (w1.alloc (.cells #[.int .i64 1, .int .i64 59, .int .i64 700, .int .i64 0] 47)) (some ⟨w1.heap.size, 0, none⟩) sm39.ds := row_of_blk' (xs := sm39.ds) (Bk.Blk.nw10 (W := w1) (cs := #[.int .i64 1, .int .i64 59, .int .i64 700, .int .i64 0]) (t := 47))
 go_wp2_with (first | (refine wpList_load_row rfl 23 _ rfl _ rfl _ _ _ _ kt Tryz.underlying23 rfl (by kernel_rfl) ?_) | (refine wpList_store_row rfl 32 _ _ rfl _ _ rfl rfl _ _ kz2 (by kernel_rfl) rfl (by simp [Value.oneCell']) ?_))
 refine bodyPost_ret (results_cell_row Tryz.results42 _ _ _ _ _ _ _ rfl (Blk_setRow_same kz2) Tryz.underlying32 rfl (by kernel_rfl)) rfl ?_
 exact ⟨_, rfl, ⟨w1.heap.size, rfl, ⟨row_row hd (fun ad had => by cases had; show w1.heap.size ≠ w.heap.size; omega), RowIn.noneA⟩⟩, Below_setRow cw2 (Nat.le_refl _) _⟩
end Go.Proofs.YtlolflephnbbcaaGreatDoor.Ln
