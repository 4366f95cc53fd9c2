/-
  Parts of the proof: Lw0.
-/
import Derived.Test.YtlolflephnbbcaaGreatDoorQ45
import Derived.Test.YtlolflephnbbcaaGreatDoorQ16
namespace Go.Proofs.YtlolflephnbbcaaGreatDoor.Ln
open Go.RowKit
open Go.Proofs.YtlolflephnbbcaaGreatDoor
set_option maxRecDepth 100000

def twoL : Lo := ⟨1, 1000, 1, 0, 0, 0, 0, 0, 0, 0, 0, ⟨0, 1000, 0, 0, 0, 0, 0, 0, 0, 0, .empty, .empty⟩, [⟨1, 31, 500, 10⟩, ⟨2, 59, 500, 5⟩], []⟩
theorem row_of_blk {α : Type} {enc : α → List Value} {W : World} {g : Nat} {t : TypeId} {xs : List α} (h : Bk.Blk W g (flat enc xs).toArray t) : RowIn enc W (some ⟨g, 0, none⟩) xs := fun _ =>
 ⟨g, 0, rfl, fun j u hj => by rw [Nat.zero_add, h.cell]; simpa using hj⟩
theorem part_any (k n : Int) (w : World) : Calls Tryz.prog 38 #[.int .i64 k, .int .i64 n] w fun e w' => e = .returned (.agg #[.int .i64 k, .int .i64 n]) ∧ Below w.heap.size w w' := by
 go_enter Tryz.func38, Tryz.ntmps38
 go_wp2_with fail
 refine bodyPost_ret (v := .agg #[.int .i64 k, .int .i64 n]) (by simp [results, Tryz.results38, go_sem]) rfl ⟨rfl, (Below.refl _ _).alloc (Nat.le_refl _) _⟩
set_option maxHeartbeats 4000000 in
theorem two_any (w : World) : Calls Tryz.prog 34 #[] w fun e w' => ∃ g, e = .returned (.agg #[.int .i64 (twoL).id, .int .i64 (twoL).ac, .int .i64 (twoL).st, .int .i64 (twoL).pp, .int .i64 (twoL).pi, .int .i64 (twoL).fee, .int .i64 (twoL).pen, .int .i64 (twoL).chg, .int .i64 (twoL).prov, .int .i64 (twoL).loss, .int .i64 (twoL).rcv, .int .i64 ((twoL).tm).me, .int .i64 ((twoL).tm).pr, .int .i64 ((twoL).tm).ppm, .int .i64 ((twoL).tm).stt, .int .i64 ((twoL).tm).ev, .int .i64 ((twoL).tm).ct, .int .i64 ((twoL).tm).ba, .int .i64 ((twoL).tm).mo, .int .i64 ((twoL).tm).pen, .int .i64 ((twoL).tm).fe, .string ((twoL).tm).cal, .string ((twoL).tm).cur, .slice (some ⟨g, 0, none⟩) (twoL).ds.length 2, .slice none (twoL).cs.length 0]) ∧ LoIn w' twoL (some ⟨g, 0, none⟩) none ∧ Below w.heap.size w w' := by
 go_enter Tryz.func34, Tryz.ntmps34
 have b2 : Below w.heap.size w ((w.alloc (.cells #[.int .i64 0, .int .i64 0, .int .i64 0, .int .i64 0, .int .i64 0, .int .i64 0, .int .i64 0, .int .i64 0, .int .i64 0, .int .i64 0, .int .i64 0, .int .i64 0, .int .i64 0, .int .i64 0, .int .i64 0, .int .i64 0, .int .i64 0, .int .i64 0, .int .i64 0, .int .i64 0, .int .i64 0, .string .empty, .string .empty, .slice none 0 0, .slice none 0 0] 32)).alloc (.cells #[.int .i64 1, .int .i64 31, .int .i64 500, .int .i64 10, .int .i64 2, .int .i64 59, .int .i64 500, .int .i64 5] 47)) := ((Below.refl _ _).alloc (Nat.le_refl _) _).alloc (by simp) _
 have hz := (Bk.Blk.nw10 (W := w) (cs := #[.int .i64 0, .int .i64 0, .int .i64 0, .int .i64 0, .int .i64 0, .int .i64 0, .int .i64 0, .int .i64 0, .int .i64 0, .int .i64 0, .int .i64 0, .int .i64 0, .int .i64 0, .int .i64 0, .int .i64 0, .int .i64 0, .int .i64 0, .int .i64 0, .int .i64 0, .int .i64 0, .int .i64 0, .string .empty, .string .empty, .slice none 0 0, .slice none 0 0]) (t := 32)).alloc (o := .cells #[.int .i64 1, .int .i64 31, .int .i64 500, .int .i64 10, .int .i64 2, .int .i64 59, .int .i64 500, .int .i64 5] 47)
 have hr := Bk.Blk.nw21 (W := w) (o0 := .cells #[.int .i64 0, .int .i64 0, .int .i64 0, .int .i64 0, .int .i64 0, .int .i64 0, .int .i64 0, .int .i64 0, .int .i64 0, .int .i64 0, .int .i64 0, .int .i64 0, .int .i64 0, .int .i64 0, .int .i64 0, .int .i64 0, .int .i64 0, .int .i64 0, .int .i64 0, .int .i64 0, .int .i64 0, .string .empty, .string .empty, .slice none 0 0, .slice none 0 0] 32) (cs := #[.int .i64 1, .int .i64 31, .int .i64 500, .int .i64 10, .int .i64 2, .int .i64 59, .int .i64 500, .int .i64 5]) (t := 47)
 go_wp2_with (refine wpList_store_row rfl 32 _ _ rfl _ _ rfl rfl _ _ hz (by kernel_rfl) rfl (one25 ..) ?_)
 refine bodyPost_ret (results_cell_row Tryz.results34 _ _ _ _ _ _ _ rfl (Blk_setRow_same hz) Tryz.underlying32 rfl (by kernel_rfl)) rfl ?_
 exact ⟨w.heap.size + 1, rfl, ⟨row_of_blk (xs := twoL.ds) (Blk_setRow_ne hr (by omega)), .none⟩, Below_setRow b2 (Nat.le_refl _) _⟩
def ofK (ps : List Pa) (k : Int) : Int := wrap64 (sum ((ps.filter fun p => p.kd == k).map Pa.am))
theorem payA_len {l : Lo} {n on : Int} {N : Nat} (h : l.ds.length ≤ N) : (payA l n on).ds.length ≤ N := by
 unfold payA
 split
 ·rw [(payL_same l n on).1]; exact h
 ·exact Nat.zero_le _
def ofR (w : World) (ps : List Pa) (k : Int) (g : Nat) (s5 s6 : Value) (W : World) : Prop := ∃ i : Nat, i + g = ps.length ∧ s6 = .int .i64 i ∧ s5 = .int .i64 (ofK (ps.take i) k) ∧ w = W
theorem pay_at {l A : Lo} {n on E : Int} {ps : List Pa} (hA : A = payA l n on) (hE : payE l n on = E) (hP : payP l n on = ps) (hn : l.ds.length ≤ 100000) (da ca : Option Addr) (dk ck : Nat) (w : World) (h : LoIn w l da ca) :
  Calls Tryz.prog 33 #[(.agg #[.int .i64 (l).id, .int .i64 (l).ac, .int .i64 (l).st, .int .i64 (l).pp, .int .i64 (l).pi, .int .i64 (l).fee, .int .i64 (l).pen, .int .i64 (l).chg, .int .i64 (l).prov, .int .i64 (l).loss, .int .i64 (l).rcv, .int .i64 ((l).tm).me, .int .i64 ((l).tm).pr, .int .i64 ((l).tm).ppm, .int .i64 ((l).tm).stt, .int .i64 ((l).tm).ev, .int .i64 ((l).tm).ct, .int .i64 ((l).tm).ba, .int .i64 ((l).tm).mo, .int .i64 ((l).tm).pen, .int .i64 ((l).tm).fe, .string ((l).tm).cal, .string ((l).tm).cur, .slice da (l).ds.length dk, .slice ca (l).cs.length ck]), .int .i64 n, .int .i64 on] w fun e w' => ∃ a c da' dk' ca' ck', e = .returned (.tuple #[(.agg #[.int .i64 (A).id, .int .i64 (A).ac, .int .i64 (A).st, .int .i64 (A).pp, .int .i64 (A).pi, .int .i64 (A).fee, .int .i64 (A).pen, .int .i64 (A).chg, .int .i64 (A).prov, .int .i64 (A).loss, .int .i64 (A).rcv, .int .i64 ((A).tm).me, .int .i64 ((A).tm).pr, .int .i64 ((A).tm).ppm, .int .i64 ((A).tm).stt, .int .i64 ((A).tm).ev, .int .i64 ((A).tm).ct, .int .i64 ((A).tm).ba, .int .i64 ((A).tm).mo, .int .i64 ((A).tm).pen, .int .i64 ((A).tm).fe, .string ((A).tm).cal, .string ((A).tm).cur, .slice da' (A).ds.length dk', .slice ca' (A).cs.length ck']), .slice a ps.length c, .int .i64 E]) ∧ RowIn penc w' a ps ∧ LoIn w' A da' ca' ∧ Below w.heap.size w w' := by
 subst hA hE hP
 exact pay_any l da ca dk ck n on w h hn
theorem check_at {l : Lo} {E : Int} (hE : chk l = E) (hn : l.ds.length ≤ 100000) (da ca : Option Addr) (dk ck : Nat) (w : World) (h : LoIn w l da ca) :
  Calls Tryz.prog 35 #[(.agg #[.int .i64 (l).id, .int .i64 (l).ac, .int .i64 (l).st, .int .i64 (l).pp, .int .i64 (l).pi, .int .i64 (l).fee, .int .i64 (l).pen, .int .i64 (l).chg, .int .i64 (l).prov, .int .i64 (l).loss, .int .i64 (l).rcv, .int .i64 ((l).tm).me, .int .i64 ((l).tm).pr, .int .i64 ((l).tm).ppm, .int .i64 ((l).tm).stt, .int .i64 ((l).tm).ev, .int .i64 ((l).tm).ct, .int .i64 ((l).tm).ba, .int .i64 ((l).tm).mo, .int .i64 ((l).tm).pen, .int .i64 ((l).tm).fe, .string ((l).tm).cal, .string ((l).tm).cur, .slice da (l).ds.length dk, .slice ca (l).cs.length ck])] w fun e w' => e = .returned (.int .i64 E) ∧ Below w.heap.size w w' := by
 subst hE
 exact check_any l da ca dk ck w (dues_of_row (by omega) h.d)
theorem out_at {l : Lo} {E : Int} (hE : wrap64 (P l.ds - l.pp) = E) (hn : l.ds.length ≤ 100000) (da ca : Option Addr) (dk ck : Nat) (w : World) (h : LoIn w l da ca) :
  Calls Tryz.prog 23 #[(.agg #[.int .i64 (l).id, .int .i64 (l).ac, .int .i64 (l).st, .int .i64 (l).pp, .int .i64 (l).pi, .int .i64 (l).fee, .int .i64 (l).pen, .int .i64 (l).chg, .int .i64 (l).prov, .int .i64 (l).loss, .int .i64 (l).rcv, .int .i64 ((l).tm).me, .int .i64 ((l).tm).pr, .int .i64 ((l).tm).ppm, .int .i64 ((l).tm).stt, .int .i64 ((l).tm).ev, .int .i64 ((l).tm).ct, .int .i64 ((l).tm).ba, .int .i64 ((l).tm).mo, .int .i64 ((l).tm).pen, .int .i64 ((l).tm).fe, .string ((l).tm).cal, .string ((l).tm).cur, .slice da (l).ds.length dk, .slice ca (l).cs.length ck])] w fun e w' => e = .returned (.int .i64 E) ∧ Below w.heap.size w w' := by
 subst hE
 exact out_any l da ca dk ck w (dues_of_row (by omega) h.d)
theorem owed_at {l : Lo} {on : Int} {ps : List Pa} (hP : powed l on = ps) (hn : l.ds.length ≤ 100000) (da ca : Option Addr) (dk ck : Nat) (w : World) (h : LoIn w l da ca) :
  Calls Tryz.prog 37 #[(.agg #[.int .i64 (l).id, .int .i64 (l).ac, .int .i64 (l).st, .int .i64 (l).pp, .int .i64 (l).pi, .int .i64 (l).fee, .int .i64 (l).pen, .int .i64 (l).chg, .int .i64 (l).prov, .int .i64 (l).loss, .int .i64 (l).rcv, .int .i64 ((l).tm).me, .int .i64 ((l).tm).pr, .int .i64 ((l).tm).ppm, .int .i64 ((l).tm).stt, .int .i64 ((l).tm).ev, .int .i64 ((l).tm).ct, .int .i64 ((l).tm).ba, .int .i64 ((l).tm).mo, .int .i64 ((l).tm).pen, .int .i64 ((l).tm).fe, .string ((l).tm).cal, .string ((l).tm).cur, .slice da (l).ds.length dk, .slice ca (l).cs.length ck]), .int .i64 on] w fun e w' => ∃ a c, e = .returned (.slice a ps.length c) ∧ RowIn penc w' a ps ∧ Below w.heap.size w w' := by
 subst hP
 exact (owed_any l da ca dk ck on w (dues_of_row (by omega) h.d) hn).mono fun _ _ ⟨g, he, _, hr, hb⟩ => ⟨_, _, he, hr, hb⟩

set_option maxRecDepth 100000 in
set_option maxHeartbeats 16000000 in
theorem live_any (w : World) : Calls Tryz.prog 11 #[] w fun e w' => e = .returned (.bool true) ∧ Below w.heap.size w w' := by
 obtain ⟨A1, hA1⟩ : ∃ A, A = payA twoL 300 31 := ⟨_, rfl⟩
 obtain ⟨A2, hA2⟩ : ∃ A, A = payA twoL 600 31 := ⟨_, rfl⟩
 obtain ⟨A3, hA3⟩ : ∃ A, A = payA twoL 7 30 := ⟨_, rfl⟩
 have f1 : A1.ds.length ≤ 100000 ∧ payE A1 725 59 = 0 ∧ payP A1 725 59 = [⟨3, 5⟩, ⟨4, 710⟩, ⟨5, 10⟩] ∧ wrap64 (P A1.ds - A1.pp) = 710 := by rw [hA1]; exact ⟨payA_len (by decide), by kernel_rfl, by kernel_rfl, by kernel_rfl⟩
 obtain ⟨A4, hA4⟩ : ∃ A, A = payA A1 725 59 := ⟨_, rfl⟩
 have f4 : A4.ds.length ≤ 100000 ∧ payE A4 1 59 = 17 ∧ payP A4 1 59 = [] ∧ wrap64 (P A4.ds - A4.pp) = 0 ∧ (A4.st != 2) = false := by rw [hA4, hA1]; exact ⟨payA_len (payA_len (by decide)), by kernel_rfl, by kernel_rfl, by kernel_rfl, by kernel_rfl⟩
 obtain ⟨A5, hA5⟩ : ∃ A, A = payA A4 1 59 := ⟨_, rfl⟩
 have HP1 := Lib.hid (pay_at hA1 (E := 0) (ps := [⟨3, 10⟩, ⟨4, 290⟩]) (by kernel_rfl) (by kernel_rfl) (by decide))
 have HP2 := Lib.hid (pay_at hA2 (E := 0) (ps := [⟨3, 10⟩, ⟨4, 500⟩, ⟨5, 90⟩]) (by kernel_rfl) (by kernel_rfl) (by decide))
 have HP3 := Lib.hid (pay_at hA3 (E := 0) (ps := [⟨5, 7⟩]) (by kernel_rfl) (by kernel_rfl) (by decide))
 have HP4 := Lib.hid (pay_at hA4 f1.2.1 f1.2.2.1 f1.1)
 have HP5 := Lib.hid (pay_at hA5 f4.2.1 f4.2.2.1 f4.1)
 have HCK := Lib.hid (check_at (l := twoL) (E := 0) (by kernel_rfl) (by decide))
 have HO1 := Lib.hid (out_at f1.2.2.2 f1.1)
 have HO4 := Lib.hid (out_at f4.2.2.2.1 f4.1)
 have HOW := Lib.hid (owed_at (l := twoL) (on := 31) (ps := [⟨3, 10⟩, ⟨4, 500⟩]) (by kernel_rfl) (by decide))
 have g4 := f4.2.2.2.2
 clear hA1 hA2 hA3 hA4 hA5 f1 f4
 go_enter Tryz.func11, Tryz.ntmps11
 have cw := Below.refl w.heap.size w
 go_wp2_with fail
 refine (two_any w).mono ?_
 rintro e wa1 ⟨gt1, rfl, ht1, hb⟩
 have cwa1 := bl2 hb cw
 clear hb cw
 go_wp2_with fail
 refine (HP1.out _ _ _ _ _ ht1).mono ?_
 rintro e wb1 ⟨pa1, pc1, da1, dk1, ca1, ck1, rfl, hp1, hl1, hb⟩
 have cwb1 := bl2 hb cwa1
 clear hb cwa1
 clear ht1
 go_upto_region 2 with (refine wpList_store_row rfl 32 _ _ rfl _ _ rfl rfl _ _ Bk.Blk.nw10 (by kernel_rfl) rfl (one25 ..) ?_)
 have hbs : Below wb1.heap.size wb1 ((wb1.alloc (.cells #[.int .i64 0, .int .i64 0, .int .i64 0, .int .i64 0, .int .i64 0, .int .i64 0, .int .i64 0, .int .i64 0, .int .i64 0, .int .i64 0, .int .i64 0, .int .i64 0, .int .i64 0, .int .i64 0, .int .i64 0, .int .i64 0, .int .i64 0, .int .i64 0, .int .i64 0, .int .i64 0, .int .i64 0, .string { data := #[] }, .string { data := #[] }, .slice none 0 0, .slice none 0 0] 32)).setRow wb1.heap.size #[.int .i64 (A1).id, .int .i64 (A1).ac, .int .i64 (A1).st, .int .i64 (A1).pp, .int .i64 (A1).pi, .int .i64 (A1).fee, .int .i64 (A1).pen, .int .i64 (A1).chg, .int .i64 (A1).prov, .int .i64 (A1).loss, .int .i64 (A1).rcv, .int .i64 ((A1).tm).me, .int .i64 ((A1).tm).pr, .int .i64 ((A1).tm).ppm, .int .i64 ((A1).tm).stt, .int .i64 ((A1).tm).ev, .int .i64 ((A1).tm).ct, .int .i64 ((A1).tm).ba, .int .i64 ((A1).tm).mo, .int .i64 ((A1).tm).pen, .int .i64 ((A1).tm).fe, .string ((A1).tm).cal, .string ((A1).tm).cur, .slice da1 (A1).ds.length dk1, .slice ca1 (A1).cs.length ck1]) := Below_setRow ((Below.refl _ _).alloc (Nat.le_refl _) _) (Nat.le_refl _) _
 have k1 : Bk.Blk ((wb1.alloc (.cells #[.int .i64 0, .int .i64 0, .int .i64 0, .int .i64 0, .int .i64 0, .int .i64 0, .int .i64 0, .int .i64 0, .int .i64 0, .int .i64 0, .int .i64 0, .int .i64 0, .int .i64 0, .int .i64 0, .int .i64 0, .int .i64 0, .int .i64 0, .int .i64 0, .int .i64 0, .int .i64 0, .int .i64 0, .string { data := #[] }, .string { data := #[] }, .slice none 0 0, .slice none 0 0] 32)).setRow wb1.heap.size #[.int .i64 (A1).id, .int .i64 (A1).ac, .int .i64 (A1).st, .int .i64 (A1).pp, .int .i64 (A1).pi, .int .i64 (A1).fee, .int .i64 (A1).pen, .int .i64 (A1).chg, .int .i64 (A1).prov, .int .i64 (A1).loss, .int .i64 (A1).rcv, .int .i64 ((A1).tm).me, .int .i64 ((A1).tm).pr, .int .i64 ((A1).tm).ppm, .int .i64 ((A1).tm).stt, .int .i64 ((A1).tm).ev, .int .i64 ((A1).tm).ct, .int .i64 ((A1).tm).ba, .int .i64 ((A1).tm).mo, .int .i64 ((A1).tm).pen, .int .i64 ((A1).tm).fe, .string ((A1).tm).cal, .string ((A1).tm).cur, .slice da1 (A1).ds.length dk1, .slice ca1 (A1).cs.length ck1]) wb1.heap.size _ 32 := Blk_setRow_same Bk.Blk.nw10
 replace hp1 := hp1.later hbs
 replace hl1 := hl1.later hbs
 have cwc1 := bl2 hbs cwb1
 clear cwb1 hbs
 generalize ((wb1.alloc (.cells _ 32)).setRow wb1.heap.size _) = wc1 at *
 generalize wb1.heap.size = g1 at *
 go_wp2_with fail
 refine (two_any wc1).mono ?_
 rintro e wa2 ⟨gt2, rfl, ht2, hb⟩
 replace hp1 := hp1.later hb
 replace hl1 := hl1.later hb
 replace k1 := k1.later hb
 have cwa2 := bl2 hb cwc1
 clear hb cwc1
 go_wp2_with fail
 refine (HP2.out _ _ _ _ _ ht2).mono ?_
 rintro e wb2 ⟨pa2, pc2, da2, dk2, ca2, ck2, rfl, hp2, hl2, hb⟩
 replace hp1 := hp1.later hb
 replace hl1 := hl1.later hb
 replace k1 := k1.later hb
 have cwb2 := bl2 hb cwa2
 clear hb cwa2
 clear ht2
 go_upto_region 3 with (refine wpList_store_row rfl 32 _ _ rfl _ _ rfl rfl _ _ Bk.Blk.nw10 (by kernel_rfl) rfl (one25 ..) ?_)
 have hbs : Below wb2.heap.size wb2 ((wb2.alloc (.cells #[.int .i64 0, .int .i64 0, .int .i64 0, .int .i64 0, .int .i64 0, .int .i64 0, .int .i64 0, .int .i64 0, .int .i64 0, .int .i64 0, .int .i64 0, .int .i64 0, .int .i64 0, .int .i64 0, .int .i64 0, .int .i64 0, .int .i64 0, .int .i64 0, .int .i64 0, .int .i64 0, .int .i64 0, .string { data := #[] }, .string { data := #[] }, .slice none 0 0, .slice none 0 0] 32)).setRow wb2.heap.size #[.int .i64 (A2).id, .int .i64 (A2).ac, .int .i64 (A2).st, .int .i64 (A2).pp, .int .i64 (A2).pi, .int .i64 (A2).fee, .int .i64 (A2).pen, .int .i64 (A2).chg, .int .i64 (A2).prov, .int .i64 (A2).loss, .int .i64 (A2).rcv, .int .i64 ((A2).tm).me, .int .i64 ((A2).tm).pr, .int .i64 ((A2).tm).ppm, .int .i64 ((A2).tm).stt, .int .i64 ((A2).tm).ev, .int .i64 ((A2).tm).ct, .int .i64 ((A2).tm).ba, .int .i64 ((A2).tm).mo, .int .i64 ((A2).tm).pen, .int .i64 ((A2).tm).fe, .string ((A2).tm).cal, .string ((A2).tm).cur, .slice da2 (A2).ds.length dk2, .slice ca2 (A2).cs.length ck2]) := Below_setRow ((Below.refl _ _).alloc (Nat.le_refl _) _) (Nat.le_refl _) _
 have k2 : Bk.Blk ((wb2.alloc (.cells #[.int .i64 0, .int .i64 0, .int .i64 0, .int .i64 0, .int .i64 0, .int .i64 0, .int .i64 0, .int .i64 0, .int .i64 0, .int .i64 0, .int .i64 0, .int .i64 0, .int .i64 0, .int .i64 0, .int .i64 0, .int .i64 0, .int .i64 0, .int .i64 0, .int .i64 0, .int .i64 0, .int .i64 0, .string { data := #[] }, .string { data := #[] }, .slice none 0 0, .slice none 0 0] 32)).setRow wb2.heap.size #[.int .i64 (A2).id, .int .i64 (A2).ac, .int .i64 (A2).st, .int .i64 (A2).pp, .int .i64 (A2).pi, .int .i64 (A2).fee, .int .i64 (A2).pen, .int .i64 (A2).chg, .int .i64 (A2).prov, .int .i64 (A2).loss, .int .i64 (A2).rcv, .int .i64 ((A2).tm).me, .int .i64 ((A2).tm).pr, .int .i64 ((A2).tm).ppm, .int .i64 ((A2).tm).stt, .int .i64 ((A2).tm).ev, .int .i64 ((A2).tm).ct, .int .i64 ((A2).tm).ba, .int .i64 ((A2).tm).mo, .int .i64 ((A2).tm).pen, .int .i64 ((A2).tm).fe, .string ((A2).tm).cal, .string ((A2).tm).cur, .slice da2 (A2).ds.length dk2, .slice ca2 (A2).cs.length ck2]) wb2.heap.size _ 32 := Blk_setRow_same Bk.Blk.nw10
 replace hp1 := hp1.later hbs
 replace hl1 := hl1.later hbs
 replace k1 := k1.later hbs
 replace hp2 := hp2.later hbs
 replace hl2 := hl2.later hbs
 have cwc2 := bl2 hbs cwb2
 clear cwb2 hbs
 generalize ((wb2.alloc (.cells _ 32)).setRow wb2.heap.size _) = wc2 at *
 generalize wb2.heap.size = g2 at *
 go_wp2_with fail
 refine (two_any wc2).mono ?_
 rintro e wa3 ⟨gt3, rfl, ht3, hb⟩
 replace hp1 := hp1.later hb
 replace hl1 := hl1.later hb
 replace k1 := k1.later hb
 replace hp2 := hp2.later hb
 replace hl2 := hl2.later hb
 replace k2 := k2.later hb
 have cwa3 := bl2 hb cwc2
 clear hb cwc2
 go_wp2_with fail
 refine (HP3.out _ _ _ _ _ ht3).mono ?_
 rintro e wb3 ⟨pa3, pc3, da3, dk3, ca3, ck3, rfl, hp3, hl3, hb⟩
 replace hp1 := hp1.later hb
 replace hl1 := hl1.later hb
 replace k1 := k1.later hb
 replace hp2 := hp2.later hb
 replace hl2 := hl2.later hb
 replace k2 := k2.later hb
 have cwb3 := bl2 hb cwa3
 clear hb cwa3
 clear ht3
 go_upto_region 4 with (refine wpList_store_row rfl 32 _ _ rfl _ _ rfl rfl _ _ Bk.Blk.nw10 (by kernel_rfl) rfl (one25 ..) ?_)
 have hbs : Below wb3.heap.size wb3 ((wb3.alloc (.cells #[.int .i64 0, .int .i64 0, .int .i64 0, .int .i64 0, .int .i64 0, .int .i64 0, .int .i64 0, .int .i64 0, .int .i64 0, .int .i64 0, .int .i64 0, .int .i64 0, .int .i64 0, .int .i64 0, .int .i64 0, .int .i64 0, .int .i64 0, .int .i64 0, .int .i64 0, .int .i64 0, .int .i64 0, .string { data := #[] }, .string { data := #[] }, .slice none 0 0, .slice none 0 0] 32)).setRow wb3.heap.size #[.int .i64 (A3).id, .int .i64 (A3).ac, .int .i64 (A3).st, .int .i64 (A3).pp, .int .i64 (A3).pi, .int .i64 (A3).fee, .int .i64 (A3).pen, .int .i64 (A3).chg, .int .i64 (A3).prov, .int .i64 (A3).loss, .int .i64 (A3).rcv, .int .i64 ((A3).tm).me, .int .i64 ((A3).tm).pr, .int .i64 ((A3).tm).ppm, .int .i64 ((A3).tm).stt, .int .i64 ((A3).tm).ev, .int .i64 ((A3).tm).ct, .int .i64 ((A3).tm).ba, .int .i64 ((A3).tm).mo, .int .i64 ((A3).tm).pen, .int .i64 ((A3).tm).fe, .string ((A3).tm).cal, .string ((A3).tm).cur, .slice da3 (A3).ds.length dk3, .slice ca3 (A3).cs.length ck3]) := Below_setRow ((Below.refl _ _).alloc (Nat.le_refl _) _) (Nat.le_refl _) _
 have k3 : Bk.Blk ((wb3.alloc (.cells #[.int .i64 0, .int .i64 0, .int .i64 0, .int .i64 0, .int .i64 0, .int .i64 0, .int .i64 0, .int .i64 0, .int .i64 0, .int .i64 0, .int .i64 0, .int .i64 0, .int .i64 0, .int .i64 0, .int .i64 0, .int .i64 0, .int .i64 0, .int .i64 0, .int .i64 0, .int .i64 0, .int .i64 0, .string { data := #[] }, .string { data := #[] }, .slice none 0 0, .slice none 0 0] 32)).setRow wb3.heap.size #[.int .i64 (A3).id, .int .i64 (A3).ac, .int .i64 (A3).st, .int .i64 (A3).pp, .int .i64 (A3).pi, .int .i64 (A3).fee, .int .i64 (A3).pen, .int .i64 (A3).chg, .int .i64 (A3).prov, .int .i64 (A3).loss, .int .i64 (A3).rcv, .int .i64 ((A3).tm).me, .int .i64 ((A3).tm).pr, .int .i64 ((A3).tm).ppm, .int .i64 ((A3).tm).stt, .int .i64 ((A3).tm).ev, .int .i64 ((A3).tm).ct, .int .i64 ((A3).tm).ba, .int .i64 ((A3).tm).mo, .int .i64 ((A3).tm).pen, .int .i64 ((A3).tm).fe, .string ((A3).tm).cal, .string ((A3).tm).cur, .slice da3 (A3).ds.length dk3, .slice ca3 (A3).cs.length ck3]) wb3.heap.size _ 32 := Blk_setRow_same Bk.Blk.nw10
 replace hp1 := hp1.later hbs
 replace hl1 := hl1.later hbs
 replace k1 := k1.later hbs
 replace hp2 := hp2.later hbs
 replace hl2 := hl2.later hbs
 replace k2 := k2.later hbs
 replace hp3 := hp3.later hbs
 replace hl3 := hl3.later hbs
 have cwc3 := bl2 hbs cwb3
 clear cwb3 hbs
 generalize ((wb3.alloc (.cells _ 32)).setRow wb3.heap.size _) = wc3 at *
 generalize wb3.heap.size = g3 at *
 go_wp2_with (refine wpList_load_row rfl 32 _ rfl _ rfl _ _ _ _ (k1) Tryz.underlying32 rfl (by kernel_rfl) ?_)
 refine (HP4.out _ _ _ _ _ hl1).mono ?_
 rintro e wb4 ⟨pa4, pc4, da4, dk4, ca4, ck4, rfl, hp4, hl4, hb⟩
 replace hp1 := hp1.later hb
 replace hl1 := hl1.later hb
 replace k1 := k1.later hb
 replace hp2 := hp2.later hb
 replace hl2 := hl2.later hb
 replace k2 := k2.later hb
 replace hp3 := hp3.later hb
 replace hl3 := hl3.later hb
 replace k3 := k3.later hb
 have cwb4 := bl2 hb cwc3
 clear hb cwc3
 go_upto_region 5 with (refine wpList_store_row rfl 32 _ _ rfl _ _ rfl rfl _ _ Bk.Blk.nw10 (by kernel_rfl) rfl (one25 ..) ?_)
 have hbs : Below wb4.heap.size wb4 ((wb4.alloc (.cells #[.int .i64 0, .int .i64 0, .int .i64 0, .int .i64 0, .int .i64 0, .int .i64 0, .int .i64 0, .int .i64 0, .int .i64 0, .int .i64 0, .int .i64 0, .int .i64 0, .int .i64 0, .int .i64 0, .int .i64 0, .int .i64 0, .int .i64 0, .int .i64 0, .int .i64 0, .int .i64 0, .int .i64 0, .string { data := #[] }, .string { data := #[] }, .slice none 0 0, .slice none 0 0] 32)).setRow wb4.heap.size #[.int .i64 (A4).id, .int .i64 (A4).ac, .int .i64 (A4).st, .int .i64 (A4).pp, .int .i64 (A4).pi, .int .i64 (A4).fee, .int .i64 (A4).pen, .int .i64 (A4).chg, .int .i64 (A4).prov, .int .i64 (A4).loss, .int .i64 (A4).rcv, .int .i64 ((A4).tm).me, .int .i64 ((A4).tm).pr, .int .i64 ((A4).tm).ppm, .int .i64 ((A4).tm).stt, .int .i64 ((A4).tm).ev, .int .i64 ((A4).tm).ct, .int .i64 ((A4).tm).ba, .int .i64 ((A4).tm).mo, .int .i64 ((A4).tm).pen, .int .i64 ((A4).tm).fe, .string ((A4).tm).cal, .string ((A4).tm).cur, .slice da4 (A4).ds.length dk4, .slice ca4 (A4).cs.length ck4]) := Below_setRow ((Below.refl _ _).alloc (Nat.le_refl _) _) (Nat.le_refl _) _
 have k4 : Bk.Blk ((wb4.alloc (.cells #[.int .i64 0, .int .i64 0, .int .i64 0, .int .i64 0, .int .i64 0, .int .i64 0, .int .i64 0, .int .i64 0, .int .i64 0, .int .i64 0, .int .i64 0, .int .i64 0, .int .i64 0, .int .i64 0, .int .i64 0, .int .i64 0, .int .i64 0, .int .i64 0, .int .i64 0, .int .i64 0, .int .i64 0, .string { data := #[] }, .string { data := #[] }, .slice none 0 0, .slice none 0 0] 32)).setRow wb4.heap.size #[.int .i64 (A4).id, .int .i64 (A4).ac, .int .i64 (A4).st, .int .i64 (A4).pp, .int .i64 (A4).pi, .int .i64 (A4).fee, .int .i64 (A4).pen, .int .i64 (A4).chg, .int .i64 (A4).prov, .int .i64 (A4).loss, .int .i64 (A4).rcv, .int .i64 ((A4).tm).me, .int .i64 ((A4).tm).pr, .int .i64 ((A4).tm).ppm, .int .i64 ((A4).tm).stt, .int .i64 ((A4).tm).ev, .int .i64 ((A4).tm).ct, .int .i64 ((A4).tm).ba, .int .i64 ((A4).tm).mo, .int .i64 ((A4).tm).pen, .int .i64 ((A4).tm).fe, .string ((A4).tm).cal, .string ((A4).tm).cur, .slice da4 (A4).ds.length dk4, .slice ca4 (A4).cs.length ck4]) wb4.heap.size _ 32 := Blk_setRow_same Bk.Blk.nw10
 replace hp1 := hp1.later hbs
 replace hl1 := hl1.later hbs
 replace k1 := k1.later hbs
 replace hp2 := hp2.later hbs
 replace hl2 := hl2.later hbs
 replace k2 := k2.later hbs
 replace hp3 := hp3.later hbs
 replace hl3 := hl3.later hbs
 replace k3 := k3.later hbs
 replace hp4 := hp4.later hbs
 replace hl4 := hl4.later hbs
 have cwc4 := bl2 hbs cwb4
 clear cwb4 hbs
 generalize ((wb4.alloc (.cells _ 32)).setRow wb4.heap.size _) = wc4 at *
 generalize wb4.heap.size = g4 at *
 go_wp2_with (refine wpList_load_row rfl 32 _ rfl _ rfl _ _ _ _ (k4) Tryz.underlying32 rfl (by kernel_rfl) ?_)
 refine (HP5.out _ _ _ _ _ hl4).mono ?_
 rintro e wb5 ⟨pa5, pc5, da5, dk5, ca5, ck5, rfl, hp5, hl5, hb⟩
 replace hp1 := hp1.later hb
 replace hl1 := hl1.later hb
 replace k1 := k1.later hb
 replace hp2 := hp2.later hb
 replace hl2 := hl2.later hb
 replace k2 := k2.later hb
 replace hp3 := hp3.later hb
 replace hl3 := hl3.later hb
 replace k3 := k3.later hb
 replace hp4 := hp4.later hb
 replace hl4 := hl4.later hb
 replace k4 := k4.later hb
 have cwb5 := bl2 hb cwc4
 clear hb cwc4
 go_upto_region 6 with (refine wpList_store_row rfl 32 _ _ rfl _ _ rfl rfl _ _ Bk.Blk.nw10 (by kernel_rfl) rfl (one25 ..) ?_)
 have hbs : Below wb5.heap.size wb5 ((wb5.alloc (.cells #[.int .i64 0, .int .i64 0, .int .i64 0, .int .i64 0, .int .i64 0, .int .i64 0, .int .i64 0, .int .i64 0, .int .i64 0, .int .i64 0, .int .i64 0, .int .i64 0, .int .i64 0, .int .i64 0, .int .i64 0, .int .i64 0, .int .i64 0, .int .i64 0, .int .i64 0, .int .i64 0, .int .i64 0, .string { data := #[] }, .string { data := #[] }, .slice none 0 0, .slice none 0 0] 32)).setRow wb5.heap.size #[.int .i64 (A5).id, .int .i64 (A5).ac, .int .i64 (A5).st, .int .i64 (A5).pp, .int .i64 (A5).pi, .int .i64 (A5).fee, .int .i64 (A5).pen, .int .i64 (A5).chg, .int .i64 (A5).prov, .int .i64 (A5).loss, .int .i64 (A5).rcv, .int .i64 ((A5).tm).me, .int .i64 ((A5).tm).pr, .int .i64 ((A5).tm).ppm, .int .i64 ((A5).tm).stt, .int .i64 ((A5).tm).ev, .int .i64 ((A5).tm).ct, .int .i64 ((A5).tm).ba, .int .i64 ((A5).tm).mo, .int .i64 ((A5).tm).pen, .int .i64 ((A5).tm).fe, .string ((A5).tm).cal, .string ((A5).tm).cur, .slice da5 (A5).ds.length dk5, .slice ca5 (A5).cs.length ck5]) := Below_setRow ((Below.refl _ _).alloc (Nat.le_refl _) _) (Nat.le_refl _) _
 have k5 : Bk.Blk ((wb5.alloc (.cells #[.int .i64 0, .int .i64 0, .int .i64 0, .int .i64 0, .int .i64 0, .int .i64 0, .int .i64 0, .int .i64 0, .int .i64 0, .int .i64 0, .int .i64 0, .int .i64 0, .int .i64 0, .int .i64 0, .int .i64 0, .int .i64 0, .int .i64 0, .int .i64 0, .int .i64 0, .int .i64 0, .int .i64 0, .string { data := #[] }, .string { data := #[] }, .slice none 0 0, .slice none 0 0] 32)).setRow wb5.heap.size #[.int .i64 (A5).id, .int .i64 (A5).ac, .int .i64 (A5).st, .int .i64 (A5).pp, .int .i64 (A5).pi, .int .i64 (A5).fee, .int .i64 (A5).pen, .int .i64 (A5).chg, .int .i64 (A5).prov, .int .i64 (A5).loss, .int .i64 (A5).rcv, .int .i64 ((A5).tm).me, .int .i64 ((A5).tm).pr, .int .i64 ((A5).tm).ppm, .int .i64 ((A5).tm).stt, .int .i64 ((A5).tm).ev, .int .i64 ((A5).tm).ct, .int .i64 ((A5).tm).ba, .int .i64 ((A5).tm).mo, .int .i64 ((A5).tm).pen, .int .i64 ((A5).tm).fe, .string ((A5).tm).cal, .string ((A5).tm).cur, .slice da5 (A5).ds.length dk5, .slice ca5 (A5).cs.length ck5]) wb5.heap.size _ 32 := Blk_setRow_same Bk.Blk.nw10
 replace hp1 := hp1.later hbs
 replace hl1 := hl1.later hbs
 replace k1 := k1.later hbs
 replace hp2 := hp2.later hbs
 replace hl2 := hl2.later hbs
 replace k2 := k2.later hbs
 replace hp3 := hp3.later hbs
 replace hl3 := hl3.later hbs
 replace k3 := k3.later hbs
 replace hp4 := hp4.later hbs
 replace hl4 := hl4.later hbs
 replace k4 := k4.later hbs
 replace hp5 := hp5.later hbs
 replace hl5 := hl5.later hbs
 have cwc5 := bl2 hbs cwb5
 clear cwb5 hbs
 generalize ((wb5.alloc (.cells _ 32)).setRow wb5.heap.size _) = wc5 at *
 generalize wb5.heap.size = g5 at *
 go_wp2_with fail
 refine (two_any wc5).mono ?_
 rintro e wa6 ⟨gt6, rfl, ht6, hb⟩
 replace hp1 := hp1.later hb
 replace hl1 := hl1.later hb
 replace k1 := k1.later hb
 replace hp2 := hp2.later hb
 replace hl2 := hl2.later hb
 replace k2 := k2.later hb
 replace hp3 := hp3.later hb
 replace hl3 := hl3.later hb
 replace k3 := k3.later hb
 replace hp4 := hp4.later hb
 replace hl4 := hl4.later hb
 replace k4 := k4.later hb
 replace hp5 := hp5.later hb
 replace hl5 := hl5.later hb
 replace k5 := k5.later hb
 have cwa6 := bl2 hb cwc5
 clear hb cwc5
 go_wp2_with fail
 refine (HCK.out _ _ _ _ _ ht6).mono ?_
 rintro e wd1 ⟨rfl, hb⟩
 replace hp1 := hp1.later hb
 replace hl1 := hl1.later hb
 replace k1 := k1.later hb
 replace hp2 := hp2.later hb
 replace hl2 := hl2.later hb
 replace k2 := k2.later hb
 replace hp3 := hp3.later hb
 replace hl3 := hl3.later hb
 replace k3 := k3.later hb
 replace hp4 := hp4.later hb
 replace hl4 := hl4.later hb
 replace k4 := k4.later hb
 replace hp5 := hp5.later hb
 replace hl5 := hl5.later hb
 replace k5 := k5.later hb
 have cwd1 := bl2 hb cwa6
 clear hb cwa6
 clear ht6
 go_wp2_with (refine load_guarded 32 _ rfl rfl _ rfl _ _ _ _ (k1) Tryz.underlying32 rfl (by kernel_rfl) ?_)
 refine (HO1.out _ _ _ _ _ hl1).mono ?_
 rintro e wd2 ⟨rfl, hb⟩
 replace hp1 := hp1.later hb
 replace hl1 := hl1.later hb
 replace k1 := k1.later hb
 replace hp2 := hp2.later hb
 replace hl2 := hl2.later hb
 replace k2 := k2.later hb
 replace hp3 := hp3.later hb
 replace hl3 := hl3.later hb
 replace k3 := k3.later hb
 replace hp4 := hp4.later hb
 replace hl4 := hl4.later hb
 replace k4 := k4.later hb
 replace hp5 := hp5.later hb
 replace hl5 := hl5.later hb
 replace k5 := k5.later hb
 have cwd2 := bl2 hb cwd1
 clear hb cwd1
 have l4 := k4.c2
 go_wp2_with (refine load_guarded 32 _ rfl rfl _ rfl _ _ _ _ (k4) Tryz.underlying32 rfl (by kernel_rfl) ?_)
 refine (HO4.out _ _ _ _ _ hl4).mono ?_
 rintro e wd3 ⟨rfl, hb⟩
 replace hp1 := hp1.later hb
 replace hl1 := hl1.later hb
 replace k1 := k1.later hb
 replace hp2 := hp2.later hb
 replace hl2 := hl2.later hb
 replace k2 := k2.later hb
 replace hp3 := hp3.later hb
 replace hl3 := hl3.later hb
 replace k3 := k3.later hb
 replace hp4 := hp4.later hb
 replace hl4 := hl4.later hb
 replace k4 := k4.later hb
 replace hp5 := hp5.later hb
 replace hl5 := hl5.later hb
 replace k5 := k5.later hb
 have cwd3 := bl2 hb cwd2
 clear hb cwd2
 clear l4 k1 k2 k3 k4 k5 hl1 hl2 hl3 hl4 hl5
 go_upto_region 8 with fail
 go_wp2_with fail
 refine (two_any wd3).mono ?_
 rintro e wa8 ⟨gt8, rfl, ht8, hb⟩
 replace hp1 := hp1.later hb
 replace hp2 := hp2.later hb
 replace hp3 := hp3.later hb
 replace hp4 := hp4.later hb
 have cwa8 := bl2 hb cwd3
 clear hb cwd3
 go_wp2_with fail
 refine (HOW.out _ _ _ _ _ ht8).mono ?_
 rintro e we0 ⟨qa, qc, rfl, hq, hb⟩
 replace hp1 := hp1.later hb
 replace hp2 := hp2.later hb
 replace hp3 := hp3.later hb
 replace hp4 := hp4.later hb
 have cwe0 := bl2 hb cwa8
 clear hb cwa8
 clear ht8
 go_wp2_with fail
 refine (part_any 3 10 we0).mono ?_
 rintro e wp1 ⟨rfl, hb⟩
 replace hp1 := hp1.later hb
 replace hp2 := hp2.later hb
 replace hp3 := hp3.later hb
 replace hp4 := hp4.later hb
 replace hq := hq.later hb
 have cwp1 := bl2 hb cwe0
 clear hb cwe0
 go_wp2_with fail
 refine (part_any 4 500 wp1).mono ?_
 rintro e wp2 ⟨rfl, hb⟩
 replace hp1 := hp1.later hb
 replace hp2 := hp2.later hb
 replace hp3 := hp3.later hb
 replace hp4 := hp4.later hb
 replace hq := hq.later hb
 have cwp2 := bl2 hb cwp1
 clear hb cwp1
 have hbn : Below wp2.heap.size wp2 (wp2.alloc (.cells #[.int .i64 3, .int .i64 10, .int .i64 4, .int .i64 500] 91)) := (Below.refl _ _).alloc (Nat.le_refl _) _
 have hr : RowIn penc (wp2.alloc (.cells #[.int .i64 3, .int .i64 10, .int .i64 4, .int .i64 500] 91)) (some ⟨wp2.heap.size, 0, none⟩) ([⟨3, 10⟩, ⟨4, 500⟩] : List Pa) := row_of_blk (xs := ([⟨3, 10⟩, ⟨4, 500⟩] : List Pa)) Bk.Blk.nw10
 replace hp1 := hp1.later hbn
 replace hp2 := hp2.later hbn
 replace hp3 := hp3.later hbn
 replace hp4 := hp4.later hbn
 replace hq := hq.later hbn
 have cn := bl2 hbn cwp2
 clear cwp2 hbn
 go_wp2_with fail
 refine (sameparts_any qa _ _ _ ([⟨3, 10⟩, ⟨4, 500⟩] : List Pa) _ hq hr (by decide)).mono ?_
 rintro e ws2 ⟨rfl, hb⟩
 replace hp1 := hp1.later hb
 replace hp2 := hp2.later hb
 replace hp3 := hp3.later hb
 replace hp4 := hp4.later hb
 replace hq := hq.later hb
 have cws2 := bl2 hb cn
 clear hb cn hr
 go_wp2_with fail
 refine (part_any 3 10 ws2).mono ?_
 rintro e wp3 ⟨rfl, hb⟩
 replace hp1 := hp1.later hb
 replace hp2 := hp2.later hb
 replace hp3 := hp3.later hb
 replace hp4 := hp4.later hb
 have cwp3 := bl2 hb cws2
 clear hb cws2
 go_wp2_with fail
 refine (part_any 4 290 wp3).mono ?_
 rintro e wp4 ⟨rfl, hb⟩
 replace hp1 := hp1.later hb
 replace hp2 := hp2.later hb
 replace hp3 := hp3.later hb
 replace hp4 := hp4.later hb
 have cwp4 := bl2 hb cwp3
 clear hb cwp3
 have hbn : Below wp4.heap.size wp4 (wp4.alloc (.cells #[.int .i64 3, .int .i64 10, .int .i64 4, .int .i64 290] 91)) := (Below.refl _ _).alloc (Nat.le_refl _) _
 have hr : RowIn penc (wp4.alloc (.cells #[.int .i64 3, .int .i64 10, .int .i64 4, .int .i64 290] 91)) (some ⟨wp4.heap.size, 0, none⟩) ([⟨3, 10⟩, ⟨4, 290⟩] : List Pa) := row_of_blk (xs := ([⟨3, 10⟩, ⟨4, 290⟩] : List Pa)) Bk.Blk.nw10
 replace hp1 := hp1.later hbn
 replace hp2 := hp2.later hbn
 replace hp3 := hp3.later hbn
 replace hp4 := hp4.later hbn
 have cn := bl2 hbn cwp4
 clear cwp4 hbn
 go_wp2_with fail
 refine (sameparts_any pa1 _ _ _ ([⟨3, 10⟩, ⟨4, 290⟩] : List Pa) _ hp1 hr (by decide)).mono ?_
 rintro e ws4 ⟨rfl, hb⟩
 replace hp1 := hp1.later hb
 replace hp2 := hp2.later hb
 replace hp3 := hp3.later hb
 replace hp4 := hp4.later hb
 have cws4 := bl2 hb cn
 clear hb cn hr
 go_wp2_with fail
 refine (part_any 3 10 ws4).mono ?_
 rintro e wp5 ⟨rfl, hb⟩
 replace hp1 := hp1.later hb
 replace hp2 := hp2.later hb
 replace hp3 := hp3.later hb
 replace hp4 := hp4.later hb
 have cwp5 := bl2 hb cws4
 clear hb cws4
 go_wp2_with fail
 refine (part_any 4 500 wp5).mono ?_
 rintro e wp6 ⟨rfl, hb⟩
 replace hp1 := hp1.later hb
 replace hp2 := hp2.later hb
 replace hp3 := hp3.later hb
 replace hp4 := hp4.later hb
 have cwp6 := bl2 hb cwp5
 clear hb cwp5
 go_wp2_with fail
 refine (part_any 5 90 wp6).mono ?_
 rintro e wp7 ⟨rfl, hb⟩
 replace hp1 := hp1.later hb
 replace hp2 := hp2.later hb
 replace hp3 := hp3.later hb
 replace hp4 := hp4.later hb
 have cwp7 := bl2 hb cwp6
 clear hb cwp6
 have hbn : Below wp7.heap.size wp7 (wp7.alloc (.cells #[.int .i64 3, .int .i64 10, .int .i64 4, .int .i64 500, .int .i64 5, .int .i64 90] 91)) := (Below.refl _ _).alloc (Nat.le_refl _) _
 have hr : RowIn penc (wp7.alloc (.cells #[.int .i64 3, .int .i64 10, .int .i64 4, .int .i64 500, .int .i64 5, .int .i64 90] 91)) (some ⟨wp7.heap.size, 0, none⟩) ([⟨3, 10⟩, ⟨4, 500⟩, ⟨5, 90⟩] : List Pa) := row_of_blk (xs := ([⟨3, 10⟩, ⟨4, 500⟩, ⟨5, 90⟩] : List Pa)) Bk.Blk.nw10
 replace hp1 := hp1.later hbn
 replace hp2 := hp2.later hbn
 replace hp3 := hp3.later hbn
 replace hp4 := hp4.later hbn
 have cn := bl2 hbn cwp7
 clear cwp7 hbn
 go_wp2_with fail
 refine (sameparts_any pa2 _ _ _ ([⟨3, 10⟩, ⟨4, 500⟩, ⟨5, 90⟩] : List Pa) _ hp2 hr (by decide)).mono ?_
 rintro e ws7 ⟨rfl, hb⟩
 replace hp1 := hp1.later hb
 replace hp2 := hp2.later hb
 replace hp3 := hp3.later hb
 replace hp4 := hp4.later hb
 have cws7 := bl2 hb cn
 clear hb cn hr
 go_wp2_with fail
 refine (part_any 5 7 ws7).mono ?_
 rintro e wp8 ⟨rfl, hb⟩
 replace hp1 := hp1.later hb
 replace hp2 := hp2.later hb
 replace hp3 := hp3.later hb
 replace hp4 := hp4.later hb
 have cwp8 := bl2 hb cws7
 clear hb cws7
 have hbn : Below wp8.heap.size wp8 (wp8.alloc (.cells #[.int .i64 5, .int .i64 7] 91)) := (Below.refl _ _).alloc (Nat.le_refl _) _
 have hr : RowIn penc (wp8.alloc (.cells #[.int .i64 5, .int .i64 7] 91)) (some ⟨wp8.heap.size, 0, none⟩) ([⟨5, 7⟩] : List Pa) := row_of_blk (xs := ([⟨5, 7⟩] : List Pa)) Bk.Blk.nw10
 replace hp1 := hp1.later hbn
 replace hp2 := hp2.later hbn
 replace hp3 := hp3.later hbn
 replace hp4 := hp4.later hbn
 have cn := bl2 hbn cwp8
 clear cwp8 hbn
 go_wp2_with fail
 refine (sameparts_any pa3 _ _ _ ([⟨5, 7⟩] : List Pa) _ hp3 hr (by decide)).mono ?_
 rintro e ws8 ⟨rfl, hb⟩
 replace hp1 := hp1.later hb
 replace hp2 := hp2.later hb
 replace hp3 := hp3.later hb
 replace hp4 := hp4.later hb
 have cws8 := bl2 hb cn
 clear hb cn hr
 go_wp2_with fail
 refine (part_any 3 5 ws8).mono ?_
 rintro e wp9 ⟨rfl, hb⟩
 replace hp1 := hp1.later hb
 replace hp2 := hp2.later hb
 replace hp3 := hp3.later hb
 replace hp4 := hp4.later hb
 have cwp9 := bl2 hb cws8
 clear hb cws8
 go_wp2_with fail
 refine (part_any 4 710 wp9).mono ?_
 rintro e wp10 ⟨rfl, hb⟩
 replace hp1 := hp1.later hb
 replace hp2 := hp2.later hb
 replace hp3 := hp3.later hb
 replace hp4 := hp4.later hb
 have cwp10 := bl2 hb cwp9
 clear hb cwp9
 go_wp2_with fail
 refine (part_any 5 10 wp10).mono ?_
 rintro e wp11 ⟨rfl, hb⟩
 replace hp1 := hp1.later hb
 replace hp2 := hp2.later hb
 replace hp3 := hp3.later hb
 replace hp4 := hp4.later hb
 have cwp11 := bl2 hb cwp10
 clear hb cwp10
 have hbn : Below wp11.heap.size wp11 (wp11.alloc (.cells #[.int .i64 3, .int .i64 5, .int .i64 4, .int .i64 710, .int .i64 5, .int .i64 10] 91)) := (Below.refl _ _).alloc (Nat.le_refl _) _
 have hr : RowIn penc (wp11.alloc (.cells #[.int .i64 3, .int .i64 5, .int .i64 4, .int .i64 710, .int .i64 5, .int .i64 10] 91)) (some ⟨wp11.heap.size, 0, none⟩) ([⟨3, 5⟩, ⟨4, 710⟩, ⟨5, 10⟩] : List Pa) := row_of_blk (xs := ([⟨3, 5⟩, ⟨4, 710⟩, ⟨5, 10⟩] : List Pa)) Bk.Blk.nw10
 replace hp1 := hp1.later hbn
 replace hp2 := hp2.later hbn
 replace hp3 := hp3.later hbn
 replace hp4 := hp4.later hbn
 have cn := bl2 hbn cwp11
 clear cwp11 hbn
 go_wp2_with fail
 refine (sameparts_any pa4 _ _ _ ([⟨3, 5⟩, ⟨4, 710⟩, ⟨5, 10⟩] : List Pa) _ hp4 hr (by decide)).mono ?_
 rintro e ws11 ⟨rfl, hb⟩
 replace hp1 := hp1.later hb
 replace hp2 := hp2.later hb
 replace hp3 := hp3.later hb
 replace hp4 := hp4.later hb
 have cws11 := bl2 hb cn
 clear hb cn hr
 go_wp2_with fail
 go_ret
 exact ⟨rfl, cws11⟩
end Go.Proofs.YtlolflephnbbcaaGreatDoor.Ln
