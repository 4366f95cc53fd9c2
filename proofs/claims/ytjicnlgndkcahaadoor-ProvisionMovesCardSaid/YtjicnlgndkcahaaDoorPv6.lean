/-
  The live sample of the laws of package provision.
-/
import Derived.Test.YtjicnlgndkcahaaDoorPv5
namespace Go.Proofs.YtjicnlgndkcahaaDoor.Ln
open Go.RowKit
open Go.Proofs.YtjicnlgndkcahaaDoor

def litL : Lo := ⟨0, 0, 1, 0, 0, 0, 0, 0, 0, 0, 0, zTm', [⟨1, 10, 1005, 0⟩], []⟩
def litM : Lo := { litL with prov := 453 }
theorem pc_1 : Rd.pcV 1005 10000 2 = 11 ∧ Rd.pcE 1005 10000 2 = 0 := by
  have hk : Rd.rok 1000000 2 := ⟨by omega, by omega, by omega⟩
  unfold Rd.pcV Rd.pcE
  rw [if_pos (by unfold Rd.gd; omega), if_pos (by unfold Rd.gd; omega), (Rd.rd_yes hk).1, (Rd.rd_yes hk).2]; decide
theorem pc_2 : Rd.pcV 1005 100000 2 = 101 ∧ Rd.pcE 1005 100000 2 = 0 := by
  have hk : Rd.rok 1000000 2 := ⟨by omega, by omega, by omega⟩
  unfold Rd.pcV Rd.pcE
  rw [if_pos (by unfold Rd.gd; omega), if_pos (by unfold Rd.gd; omega), (Rd.rd_yes hk).1, (Rd.rd_yes hk).2]; decide
theorem pc_3 : Rd.pcV 1005 450000 2 = 453 ∧ Rd.pcE 1005 450000 2 = 0 := by
  have hk : Rd.rok 1000000 2 := ⟨by omega, by omega, by omega⟩
  unfold Rd.pcV Rd.pcE
  rw [if_pos (by unfold Rd.gd; omega), if_pos (by unfold Rd.gd; omega), (Rd.rd_yes hk).1, (Rd.rd_yes hk).2]; decide
theorem ex_at {l : Lo} {on a p v c : Int} (ha : wrap64 (P l.ds - l.pp) = a) (hp : rteS (stgL l on) = p) (h : Rd.pcV a p 2 = v ∧ Rd.pcE a p 2 = c) : exV l on = v ∧ exE l on = c := by
  unfold exV exE
  rw [ha, hp]
  exact h
theorem ex_10 : exV litL 10 = 11 ∧ exE litL 10 = 0 := ex_at (a := 1005) (p := 10000) (by kernel_rfl) (by kernel_rfl) pc_1
theorem ex_41 : exV litL 41 = 101 ∧ exE litL 41 = 0 := ex_at (a := 1005) (p := 100000) (by kernel_rfl) (by kernel_rfl) pc_2
theorem ex_101 : exV litL 101 = 453 ∧ exE litL 101 = 0 := ex_at (a := 1005) (p := 450000) (by kernel_rfl) (by kernel_rfl) pc_3
theorem mv_101 : mvL litL 101 = litM ∧ mvD litL 101 = 453 ∧ mvE litL 101 = 0 := by
  have e : mvE litL 101 = 0 := by
    unfold mvE
    rw [if_pos (by decide)]
    exact ex_101.2
  refine ⟨?_, ?_, e⟩
  · unfold mvL
    rw [if_pos e, ex_101.1]
    rfl
  · unfold mvD
    rw [if_pos e, ex_101.1]
    kernel_rfl
theorem tot_10 (x : LoS) (h : x.l = litL) : totGo 10 [x, x] 0 = (22, 0) := by
  unfold totGo totGo totGo
  rw [h, ex_10.1, ex_10.2]
  decide
theorem exp_at {l : Lo} {on v c : Int} (he : exV l on = v ∧ exE l on = c) (da ca : Option Addr) (dk ck : Nat) (w : World) (h : LoIn' w l da ca) (hn : l.ds.length ≤ 100000) (hC : Ctb w) (hSt : Rd.Stp w) :
    Calls Tryd.prog 14 #[(.agg #[.int .i64 (l).id, .int .i64 (l).ac, .int .i64 (l).st, .int .i64 (l).pp, .int .i64 (l).pi, .int .i64 (l).fee, .int .i64 (l).pen, .int .i64 (l).chg, .int .i64 (l).prov, .int .i64 (l).loss, .int .i64 (l).rcv, .int .i64 ((l).tm).me, .int .i64 ((l).tm).pr, .int .i64 ((l).tm).ppm, .int .i64 ((l).tm).stt, .int .i64 ((l).tm).ev, .int .i64 ((l).tm).ct, .int .i64 ((l).tm).ba, .int .i64 ((l).tm).mo, .int .i64 ((l).tm).pen, .int .i64 ((l).tm).fe, .string ((l).tm).cal, .string ((l).tm).cur, .slice da (l).ds.length dk, .slice ca (l).cs.length ck]), .int .i64 on] w fun e w' => e = .returned (.tuple #[.int .i64 v, .int .i64 c]) ∧ Below w.heap.size w w' := by
  obtain ⟨rfl, rfl⟩ := he
  exact expd_any l da ca dk ck on w (dues_of_row (by omega) h.d) hC hSt
theorem mov_at {l L : Lo} {on D E : Int} (he : mvL l on = L ∧ mvD l on = D ∧ mvE l on = E) (da ca : Option Addr) (dk ck : Nat) (w : World) (h : LoIn' w l da ca) (hn : l.ds.length ≤ 100000) (hm : l.cs.length ≤ 100000) (hC : Ctb w) (hSt : Rd.Stp w) :
    Calls Tryd.prog 16 #[(.agg #[.int .i64 (l).id, .int .i64 (l).ac, .int .i64 (l).st, .int .i64 (l).pp, .int .i64 (l).pi, .int .i64 (l).fee, .int .i64 (l).pen, .int .i64 (l).chg, .int .i64 (l).prov, .int .i64 (l).loss, .int .i64 (l).rcv, .int .i64 ((l).tm).me, .int .i64 ((l).tm).pr, .int .i64 ((l).tm).ppm, .int .i64 ((l).tm).stt, .int .i64 ((l).tm).ev, .int .i64 ((l).tm).ct, .int .i64 ((l).tm).ba, .int .i64 ((l).tm).mo, .int .i64 ((l).tm).pen, .int .i64 ((l).tm).fe, .string ((l).tm).cal, .string ((l).tm).cur, .slice da (l).ds.length dk, .slice ca (l).cs.length ck]), .int .i64 on] w (MvP L D E w) := by
  obtain ⟨rfl, rfl, rfl⟩ := he
  exact move_any l da ca dk ck on w h hn hm hC hSt
theorem stg_at {l : Lo} {on s : Int} (he : stgL l on = s) (da ca : Option Addr) (dk ck : Nat) (w : World) (h : LoIn' w l da ca) (hn : l.ds.length ≤ 100000) (hC : Ctb w) :
    Calls Tryd.prog 9 #[(.agg #[.int .i64 (l).id, .int .i64 (l).ac, .int .i64 (l).st, .int .i64 (l).pp, .int .i64 (l).pi, .int .i64 (l).fee, .int .i64 (l).pen, .int .i64 (l).chg, .int .i64 (l).prov, .int .i64 (l).loss, .int .i64 (l).rcv, .int .i64 ((l).tm).me, .int .i64 ((l).tm).pr, .int .i64 ((l).tm).ppm, .int .i64 ((l).tm).stt, .int .i64 ((l).tm).ev, .int .i64 ((l).tm).ct, .int .i64 ((l).tm).ba, .int .i64 ((l).tm).mo, .int .i64 ((l).tm).pen, .int .i64 ((l).tm).fe, .string ((l).tm).cal, .string ((l).tm).cur, .slice da (l).ds.length dk, .slice ca (l).cs.length ck]), .int .i64 on] w fun e w' => e = .returned (.int .i64 s) ∧ Below w.heap.size w w' := by
  subst he
  exact pstage_any l da ca dk ck on w (dues_of_row (by omega) h.d) hC
theorem rte_at {s r : Int} (he : rteS s = r) (w : World) : Calls Tryd.prog 11 #[.int .i64 s] w fun e w' => e = .returned (.int .i64 r) ∧ Below w.heap.size w w' := by
  subst he
  exact prate_any s w
theorem row_of_blk' {α : Type} {enc : α → List Value} {W : World} {g : Nat} {t : TypeId} {xs : List α} (h : Bk.Blk W g (flat enc xs).toArray t) : RowIn enc W (some ⟨g, 0, none⟩) xs := fun _ =>
  ⟨g, 0, rfl, fun j u hj => by rw [Nat.zero_add, h.cell]; simpa using hj⟩
theorem los2 {w : World} {x : LoS} (h : LoIn' w x.l x.da x.ca) (hn : x.l.ds.length ≤ 100000) : LosIn (w.alloc (.cells (lenc x ++ lenc x).toArray 27)) (some ⟨w.heap.size, 0, none⟩) [x, x] ∧ Below w.heap.size w (w.alloc (.cells (lenc x ++ lenc x).toArray 27)) := by
  have hb : Below w.heap.size w (w.alloc (.cells (lenc x ++ lenc x).toArray 27)) := (Below.refl _ _).alloc (Nat.le_refl _) _
  have hx : ∀ y ∈ [x, x], y = x := by simp
  exact ⟨⟨row_of_blk' (xs := [x, x]) (by simpa [flat] using (Bk.Blk.nw10 (W := w) (cs := (lenc x ++ lenc x).toArray) (t := 27))), fun y hy => by rw [hx y hy]; exact h.later hb, fun y hy => by rw [hx y hy]; omega⟩, hb⟩
theorem tot_at {w w1 : World} {x : LoS} {a : Option Addr} {cap : Nat} (hl : x.l = litL) (hL : LosIn w1 a [x, x]) (hb : Below w.heap.size w w1) (hC : Ctb w1) (hSt : Rd.Stp w1) :
    Calls Tryd.prog 20 #[.slice a 2 cap, .int .i64 10] w1 fun e w' => e = .returned (.tuple #[.int .i64 22, .int .i64 0]) ∧ Below w.heap.size w w' := by
  refine (total_any a cap [x, x] 10 w1 hL (by simp) hC hSt).mono ?_
  rintro e w' ⟨rfl, h⟩
  rw [tot_10 x hl]
  exact ⟨rfl, bl2 h hb⟩
set_option maxRecDepth 100000 in
set_option maxHeartbeats 16000000 in
theorem live38_any (w : World) (hC : Ctb w) (hSt : Rd.Stp w) : Calls Tryd.prog 13 #[] w fun e w' => e = .returned (.bool true) ∧ Below w.heap.size w w' := by
  have HCt := Lib.hid (fun (W : World) (hW : Below w.heap.size w W) => And.intro (hC.of hW) (hSt.of hW))
  clear hC hSt
  obtain ⟨A, hA⟩ : ∃ A, A = litM := ⟨_, rfl⟩
  have q8 : (A.prov == 453) = true := by rw [hA]; rfl
  have HM := Lib.hid (mv_101)
  rw [← hA] at HM
  have HMV := Lib.hid (mov_at HM.out)
  clear hA HM
  go_enter Tryd.func13, Tryd.ntmps13
  have hbb : Below w.heap.size w (w.alloc (.cells #[.int .i64 1, .int .i64 10, .int .i64 1005, .int .i64 0] 54)) := (Below.refl _ _).alloc (Nat.le_refl _) _
  have hdd : LoIn' (w.alloc (.cells #[.int .i64 1, .int .i64 10, .int .i64 1005, .int .i64 0] 54)) litL (some ⟨w.heap.size, 0, none⟩) none := ⟨row_of_blk' (xs := litL.ds) Bk.Blk.nw10, RowIn.none'⟩
  go_upto_region 2 with (refine wpList_store_row rfl 27 _ _ rfl _ _ rfl rfl _ _ Bk.Blk.nw21 (by kernel_rfl) rfl (one25 ..) ?_)
  have k1 : Bk.Blk (((w.alloc (.cells #[.int .i64 1, .int .i64 10, .int .i64 1005, .int .i64 0] 54)).alloc (.cells #[.int .i64 0, .int .i64 0, .int .i64 0, .int .i64 0, .int .i64 0, .int .i64 0, .int .i64 0, .int .i64 0, .int .i64 0, .int .i64 0, .int .i64 0, .int .i64 0, .int .i64 0, .int .i64 0, .int .i64 0, .int .i64 0, .int .i64 0, .int .i64 0, .int .i64 0, .int .i64 0, .int .i64 0, .string { data := #[] }, .string { data := #[] }, .slice none 0 0, .slice none 0 0] 27)).setRow (w.heap.size + 1) #[.int .i64 0, .int .i64 0, .int .i64 1, .int .i64 0, .int .i64 0, .int .i64 0, .int .i64 0, .int .i64 0, .int .i64 0, .int .i64 0, .int .i64 0, .int .i64 0, .int .i64 0, .int .i64 0, .int .i64 0, .int .i64 0, .int .i64 0, .int .i64 0, .int .i64 0, .int .i64 0, .int .i64 0, .string { data := #[] }, .string { data := #[] }, .slice (some ⟨w.heap.size, 0, none⟩) 1 1, .slice none 0 0]) (w.heap.size + 1) #[.int .i64 (litL).id, .int .i64 (litL).ac, .int .i64 (litL).st, .int .i64 (litL).pp, .int .i64 (litL).pi, .int .i64 (litL).fee, .int .i64 (litL).pen, .int .i64 (litL).chg, .int .i64 (litL).prov, .int .i64 (litL).loss, .int .i64 (litL).rcv, .int .i64 ((litL).tm).me, .int .i64 ((litL).tm).pr, .int .i64 ((litL).tm).ppm, .int .i64 ((litL).tm).stt, .int .i64 ((litL).tm).ev, .int .i64 ((litL).tm).ct, .int .i64 ((litL).tm).ba, .int .i64 ((litL).tm).mo, .int .i64 ((litL).tm).pen, .int .i64 ((litL).tm).fe, .string ((litL).tm).cal, .string ((litL).tm).cur, .slice (some ⟨w.heap.size, 0, none⟩) (litL).ds.length 1, .slice none (litL).cs.length 0] 27 := Blk_setRow_same Bk.Blk.nw21
  have hbs : Below (w.alloc (.cells #[.int .i64 1, .int .i64 10, .int .i64 1005, .int .i64 0] 54)).heap.size (w.alloc (.cells #[.int .i64 1, .int .i64 10, .int .i64 1005, .int .i64 0] 54)) (((w.alloc (.cells #[.int .i64 1, .int .i64 10, .int .i64 1005, .int .i64 0] 54)).alloc (.cells #[.int .i64 0, .int .i64 0, .int .i64 0, .int .i64 0, .int .i64 0, .int .i64 0, .int .i64 0, .int .i64 0, .int .i64 0, .int .i64 0, .int .i64 0, .int .i64 0, .int .i64 0, .int .i64 0, .int .i64 0, .int .i64 0, .int .i64 0, .int .i64 0, .int .i64 0, .int .i64 0, .int .i64 0, .string { data := #[] }, .string { data := #[] }, .slice none 0 0, .slice none 0 0] 27)).setRow (w.heap.size + 1) #[.int .i64 0, .int .i64 0, .int .i64 1, .int .i64 0, .int .i64 0, .int .i64 0, .int .i64 0, .int .i64 0, .int .i64 0, .int .i64 0, .int .i64 0, .int .i64 0, .int .i64 0, .int .i64 0, .int .i64 0, .int .i64 0, .int .i64 0, .int .i64 0, .int .i64 0, .int .i64 0, .int .i64 0, .string { data := #[] }, .string { data := #[] }, .slice (some ⟨w.heap.size, 0, none⟩) 1 1, .slice none 0 0]) := Below_setRow ((Below.refl _ _).alloc (Nat.le_refl _) _) (by simp) _
  have hl := hdd.later hbs
  have cw1 := bl2 hbs hbb
  clear hdd hbb hbs
  generalize (((w.alloc (.cells #[.int .i64 1, .int .i64 10, .int .i64 1005, .int .i64 0] 54)).alloc (.cells #[.int .i64 0, .int .i64 0, .int .i64 0, .int .i64 0, .int .i64 0, .int .i64 0, .int .i64 0, .int .i64 0, .int .i64 0, .int .i64 0, .int .i64 0, .int .i64 0, .int .i64 0, .int .i64 0, .int .i64 0, .int .i64 0, .int .i64 0, .int .i64 0, .int .i64 0, .int .i64 0, .int .i64 0, .string { data := #[] }, .string { data := #[] }, .slice none 0 0, .slice none 0 0] 27)).setRow (w.heap.size + 1) #[.int .i64 0, .int .i64 0, .int .i64 1, .int .i64 0, .int .i64 0, .int .i64 0, .int .i64 0, .int .i64 0, .int .i64 0, .int .i64 0, .int .i64 0, .int .i64 0, .int .i64 0, .int .i64 0, .int .i64 0, .int .i64 0, .int .i64 0, .int .i64 0, .int .i64 0, .int .i64 0, .int .i64 0, .string { data := #[] }, .string { data := #[] }, .slice (some ⟨w.heap.size, 0, none⟩) 1 1, .slice none 0 0]) = w1 at *
  generalize w.heap.size + 1 = g1 at *
  generalize w.heap.size = g0 at hl k1 ⊢
  go_wp2_with (refine wpList_load_row rfl 27 _ rfl _ rfl _ _ _ _ (k1) Tryd.underlying27 rfl (by kernel_rfl) ?_)
  refine (exp_at ex_10 _ _ _ _ _ hl (by decide) (HCt.out _ cw1).1 (HCt.out _ cw1).2).mono ?_
  rintro e w2 ⟨rfl, hb⟩
  replace k1 := k1.later hb
  replace hl := hl.later hb
  have cw2 := bl2 hb cw1
  clear hb cw1
  go_wp2_with (refine wpList_load_row rfl 27 _ rfl _ rfl _ _ _ _ (k1) Tryd.underlying27 rfl (by kernel_rfl) ?_)
  refine (exp_at ex_41 _ _ _ _ _ hl (by decide) (HCt.out _ cw2).1 (HCt.out _ cw2).2).mono ?_
  rintro e w3 ⟨rfl, hb⟩
  replace k1 := k1.later hb
  replace hl := hl.later hb
  have cw3 := bl2 hb cw2
  clear hb cw2
  go_wp2_with (refine wpList_load_row rfl 27 _ rfl _ rfl _ _ _ _ (k1) Tryd.underlying27 rfl (by kernel_rfl) ?_)
  refine (HMV.out _ _ _ _ _ hl (by decide) (by decide) (HCt.out _ cw3).1 (HCt.out _ cw3).2).mono ?_
  rintro e w4 ⟨da2, dk2, ca2, ck2, rfl, hlA, hb⟩
  replace k1 := k1.later hb
  replace hl := hl.later hb
  have cw4 := bl2 hb cw3
  clear hb cw3
  go_upto_region 5 with (refine wpList_store_row rfl 27 _ _ rfl _ _ rfl rfl _ _ Bk.Blk.nw10 (by kernel_rfl) rfl (one25 ..) ?_)
  have hbs : Below w4.heap.size w4 ((w4.alloc (.cells #[.int .i64 0, .int .i64 0, .int .i64 0, .int .i64 0, .int .i64 0, .int .i64 0, .int .i64 0, .int .i64 0, .int .i64 0, .int .i64 0, .int .i64 0, .int .i64 0, .int .i64 0, .int .i64 0, .int .i64 0, .int .i64 0, .int .i64 0, .int .i64 0, .int .i64 0, .int .i64 0, .int .i64 0, .string { data := #[] }, .string { data := #[] }, .slice none 0 0, .slice none 0 0] 27)).setRow w4.heap.size #[.int .i64 (A).id, .int .i64 (A).ac, .int .i64 (A).st, .int .i64 (A).pp, .int .i64 (A).pi, .int .i64 (A).fee, .int .i64 (A).pen, .int .i64 (A).chg, .int .i64 (A).prov, .int .i64 (A).loss, .int .i64 (A).rcv, .int .i64 ((A).tm).me, .int .i64 ((A).tm).pr, .int .i64 ((A).tm).ppm, .int .i64 ((A).tm).stt, .int .i64 ((A).tm).ev, .int .i64 ((A).tm).ct, .int .i64 ((A).tm).ba, .int .i64 ((A).tm).mo, .int .i64 ((A).tm).pen, .int .i64 ((A).tm).fe, .string ((A).tm).cal, .string ((A).tm).cur, .slice da2 (A).ds.length dk2, .slice ca2 (A).cs.length ck2]) := Below_setRow ((Below.refl _ _).alloc (Nat.le_refl _) _) (Nat.le_refl _) _
  have k2 : Bk.Blk ((w4.alloc (.cells #[.int .i64 0, .int .i64 0, .int .i64 0, .int .i64 0, .int .i64 0, .int .i64 0, .int .i64 0, .int .i64 0, .int .i64 0, .int .i64 0, .int .i64 0, .int .i64 0, .int .i64 0, .int .i64 0, .int .i64 0, .int .i64 0, .int .i64 0, .int .i64 0, .int .i64 0, .int .i64 0, .int .i64 0, .string { data := #[] }, .string { data := #[] }, .slice none 0 0, .slice none 0 0] 27)).setRow w4.heap.size #[.int .i64 (A).id, .int .i64 (A).ac, .int .i64 (A).st, .int .i64 (A).pp, .int .i64 (A).pi, .int .i64 (A).fee, .int .i64 (A).pen, .int .i64 (A).chg, .int .i64 (A).prov, .int .i64 (A).loss, .int .i64 (A).rcv, .int .i64 ((A).tm).me, .int .i64 ((A).tm).pr, .int .i64 ((A).tm).ppm, .int .i64 ((A).tm).stt, .int .i64 ((A).tm).ev, .int .i64 ((A).tm).ct, .int .i64 ((A).tm).ba, .int .i64 ((A).tm).mo, .int .i64 ((A).tm).pen, .int .i64 ((A).tm).fe, .string ((A).tm).cal, .string ((A).tm).cur, .slice da2 (A).ds.length dk2, .slice ca2 (A).cs.length ck2]) w4.heap.size #[.int .i64 (A).id, .int .i64 (A).ac, .int .i64 (A).st, .int .i64 (A).pp, .int .i64 (A).pi, .int .i64 (A).fee, .int .i64 (A).pen, .int .i64 (A).chg, .int .i64 (A).prov, .int .i64 (A).loss, .int .i64 (A).rcv, .int .i64 ((A).tm).me, .int .i64 ((A).tm).pr, .int .i64 ((A).tm).ppm, .int .i64 ((A).tm).stt, .int .i64 ((A).tm).ev, .int .i64 ((A).tm).ct, .int .i64 ((A).tm).ba, .int .i64 ((A).tm).mo, .int .i64 ((A).tm).pen, .int .i64 ((A).tm).fe, .string ((A).tm).cal, .string ((A).tm).cur, .slice da2 (A).ds.length dk2, .slice ca2 (A).cs.length ck2] 27 := Blk_setRow_same Bk.Blk.nw10
  replace k1 := k1.later hbs
  replace hl := hl.later hbs
  have cw5 := bl2 hbs cw4
  clear cw4 hbs
  generalize ((w4.alloc (.cells #[.int .i64 0, .int .i64 0, .int .i64 0, .int .i64 0, .int .i64 0, .int .i64 0, .int .i64 0, .int .i64 0, .int .i64 0, .int .i64 0, .int .i64 0, .int .i64 0, .int .i64 0, .int .i64 0, .int .i64 0, .int .i64 0, .int .i64 0, .int .i64 0, .int .i64 0, .int .i64 0, .int .i64 0, .string { data := #[] }, .string { data := #[] }, .slice none 0 0, .slice none 0 0] 27)).setRow w4.heap.size #[.int .i64 (A).id, .int .i64 (A).ac, .int .i64 (A).st, .int .i64 (A).pp, .int .i64 (A).pi, .int .i64 (A).fee, .int .i64 (A).pen, .int .i64 (A).chg, .int .i64 (A).prov, .int .i64 (A).loss, .int .i64 (A).rcv, .int .i64 ((A).tm).me, .int .i64 ((A).tm).pr, .int .i64 ((A).tm).ppm, .int .i64 ((A).tm).stt, .int .i64 ((A).tm).ev, .int .i64 ((A).tm).ct, .int .i64 ((A).tm).ba, .int .i64 ((A).tm).mo, .int .i64 ((A).tm).pen, .int .i64 ((A).tm).fe, .string ((A).tm).cal, .string ((A).tm).cur, .slice da2 (A).ds.length dk2, .slice ca2 (A).cs.length ck2]) = w5 at *
  generalize w4.heap.size = g2 at *
  have hLL := los2 (x := (⟨litL, some ⟨g0, 0, none⟩, none, 1, 0⟩ : LoS)) hl (show litL.ds.length ≤ 100000 by decide)
  go_wp2_with (refine wpList_load_row rfl 27 _ rfl _ rfl _ _ _ _ (k1) Tryd.underlying27 rfl (by kernel_rfl) ?_)
  refine (tot_at (x := (⟨litL, some ⟨g0, 0, none⟩, none, 1, 0⟩ : LoS)) rfl hLL.1 hLL.2 (HCt.out _ (bl2 hLL.2 cw5)).1 (HCt.out _ (bl2 hLL.2 cw5)).2).mono ?_
  clear hLL
  rintro e w6 ⟨rfl, hb⟩
  replace k1 := k1.later hb
  replace hl := hl.later hb
  replace k2 := k2.later hb
  have cw6 := bl2 hb cw5
  clear hb cw5
  have l8 := k2.c8
  go_wp2_with (refine load_guarded 27 _ rfl rfl _ rfl _ _ _ _ (k1) Tryd.underlying27 rfl (by kernel_rfl) ?_)
  clear l8
  refine (stg_at (l := litL) (on := 101) (s := 3) (by kernel_rfl) _ _ _ _ _ hl (by decide) (HCt.out _ cw6).1).mono ?_
  rintro e w7 ⟨rfl, hb⟩
  replace k1 := k1.later hb
  replace hl := hl.later hb
  replace k2 := k2.later hb
  have cw7 := bl2 hb cw6
  clear hb cw6
  go_wp2_with fail
  refine (stg_at (l := zLo') (on := 5) (s := 0) (by kernel_rfl) none none 0 0 _ ⟨RowIn.none', RowIn.none'⟩ (by decide) (HCt.out _ cw7).1).mono ?_
  rintro e w8 ⟨rfl, hb⟩
  replace k1 := k1.later hb
  replace hl := hl.later hb
  replace k2 := k2.later hb
  have cw8 := bl2 hb cw7
  clear hb cw7
  go_wp2_with fail
  refine (rte_at (s := 2) (r := 100000) (by kernel_rfl) _).mono ?_
  rintro e w9 ⟨rfl, hb⟩
  replace k1 := k1.later hb
  replace hl := hl.later hb
  replace k2 := k2.later hb
  have cw9 := bl2 hb cw8
  clear hb cw8
  go_wp2_with fail
  refine (rte_at (s := 4) (r := 0) (by kernel_rfl) _).mono ?_
  rintro e wx ⟨rfl, hb⟩
  replace k1 := k1.later hb
  replace hl := hl.later hb
  replace k2 := k2.later hb
  have cwx := bl2 hb cw9
  clear hb cw9
  go_wp2_with fail
  go_ret
  exact ⟨rfl, cwx⟩
end Go.Proofs.YtjicnlgndkcahaaDoor.Ln
