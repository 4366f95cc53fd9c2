/-
 The reference's Check.
-/
import Derived.Test.YtaanicginfjgdaaGreatDoorLb
import Derived.Test.YtaanicginfjgdaaGreatDoorLr3
namespace Go.Proofs.YtaanicginfjgdaaGreatDoor.Ln
open Go.RowKit
open Go.Proofs.YtaanicginfjgdaaGreatDoor

def RCR (w : World) (ds : List Du) (C0 : Array Value) (g : Nat) (s3 : Value) (W : World) : Prop := ∃ k : Nat, k + g = ds.length ∧ s3 = .int .i64 k ∧ (∀ i, i < k → ds[i]!.no = (i : Int) + 1 ∧ (i = 0 ∨ ds[i - 1]!.day ≤ ds[i]!.day)) ∧ Below w.heap.size w W ∧ Bk.Blk W w.heap.size C0 27

set_option maxHeartbeats 4000000 in
theorem rcheck_r (l : Lo) (da ca : Option Addr) (dk ck : Nat) (w : World) (h : DuesIn w da l.ds) (hd : Dok l.ds) (hr : rangedB l = false) :
  Calls Tryz.prog 56 #[(.agg #[.int .i64 (l).id, .int .i64 (l).ac, .int .i64 (l).st, .int .i64 (l).pp, .int .i64 (l).pi, .int .i64 (l).fee, .int .i64 (l).pen, .int .i64 (l).chg, .int .i64 (l).prov, .int .i64 (l).loss, .int .i64 (l).rcv, .int .i64 ((l).tm).me, .int .i64 ((l).tm).pr, .int .i64 ((l).tm).ppm, .int .i64 ((l).tm).stt, .int .i64 ((l).tm).ev, .int .i64 ((l).tm).ct, .int .i64 ((l).tm).ba, .int .i64 ((l).tm).mo, .int .i64 ((l).tm).pen, .int .i64 ((l).tm).fe, .string ((l).tm).cal, .string ((l).tm).cur, .slice da (l).ds.length dk, .slice ca (l).cs.length ck])] w fun e w' => e = .returned (.int .i64 (chk l)) ∧ Below w.heap.size w w' := by
 have hp := fun (W : World) (hW : Below w.heap.size w W) => rprin_any l da ca dk ck 9223372036854775807 W (h.later hW)
 have hi := fun (W : World) (hW : Below w.heap.size w W) => rint_any l da ca dk ck 9223372036854775807 W (h.later hW)
 rw [rdue_all hd] at hp hi
 have HP := Lib.hid hp
 have HI := Lib.hid hi
 have HL := Lib.hid (fun (W : World) (hW : Below w.heap.size w W) => rleft_any l da ca dk ck W (h.later hW) hd)
 have HG := Lib.hid (fun (W : World) (hW : Below w.heap.size w W) => rranged_any l da ca dk ck W (h.later hW))
 have HD := Lib.hid h
 have hn := h.1
 have bb : Below w.heap.size w (w.alloc (.cells #[.int .i64 (l).id, .int .i64 (l).ac, .int .i64 (l).st, .int .i64 (l).pp, .int .i64 (l).pi, .int .i64 (l).fee, .int .i64 (l).pen, .int .i64 (l).chg, .int .i64 (l).prov, .int .i64 (l).loss, .int .i64 (l).rcv, .int .i64 ((l).tm).me, .int .i64 ((l).tm).pr, .int .i64 ((l).tm).ppm, .int .i64 ((l).tm).stt, .int .i64 ((l).tm).ev, .int .i64 ((l).tm).ct, .int .i64 ((l).tm).ba, .int .i64 ((l).tm).mo, .int .i64 ((l).tm).pen, .int .i64 ((l).tm).fe, .string ((l).tm).cal, .string ((l).tm).cur, .slice da (l).ds.length dk, .slice ca (l).cs.length ck] 27)) := (Below.refl _ _).alloc (Nat.le_refl _) _
 clear hp hi h
 have HF := Lib.hid (chk_1 hr)
 have HV := Lib.hid hr
 clear hr
 go_enter Tryz.func56, Tryz.ntmps56
 go_wp2_with (refine wpList_load_row rfl 27 _ rfl _ rfl _ _ _ _ (Bk.Blk.nw10) Tryz.underlying27 rfl (by kernel_rfl) ?_)
 refine (HG.out _ bb).mono ?_
 rintro e w1 ⟨rfl, hb1⟩
 have hk := Bk.Blk.later (g := w.heap.size) hb1 (by first | with_reducible exact Bk.Blk.nw10 | with_reducible exact Bk.Blk.nw20 | with_reducible exact Bk.Blk.nw21 | with_reducible exact Bk.Blk.nw30 | with_reducible exact Bk.Blk.nw31 | with_reducible exact Bk.Blk.nw32 | with_reducible exact Bk.Blk.nw40 | with_reducible exact Bk.Blk.nw41 | with_reducible exact Bk.Blk.nw42 | with_reducible exact Bk.Blk.nw43)
 have bw1 := bl2 hb1 bb
 rw [HV.out]
 clear hb1
 go_wp2_with fail
 go_ret
 exact ⟨by rw [HF.out]; rfl, bw1⟩

set_option maxHeartbeats 16000000 in
set_option maxRecDepth 100000 in
theorem rcheck_any (l : Lo) (da ca : Option Addr) (dk ck : Nat) (w : World) (h : DuesIn w da l.ds) (hd : Dok l.ds) :
  Calls Tryz.prog 56 #[(.agg #[.int .i64 (l).id, .int .i64 (l).ac, .int .i64 (l).st, .int .i64 (l).pp, .int .i64 (l).pi, .int .i64 (l).fee, .int .i64 (l).pen, .int .i64 (l).chg, .int .i64 (l).prov, .int .i64 (l).loss, .int .i64 (l).rcv, .int .i64 ((l).tm).me, .int .i64 ((l).tm).pr, .int .i64 ((l).tm).ppm, .int .i64 ((l).tm).stt, .int .i64 ((l).tm).ev, .int .i64 ((l).tm).ct, .int .i64 ((l).tm).ba, .int .i64 ((l).tm).mo, .int .i64 ((l).tm).pen, .int .i64 ((l).tm).fe, .string ((l).tm).cal, .string ((l).tm).cur, .slice da (l).ds.length dk, .slice ca (l).cs.length ck])] w fun e w' => e = .returned (.int .i64 (chk l)) ∧ Below w.heap.size w w' := by
 cases hr : rangedB l
 ·exact rcheck_r l da ca dk ck w h hd hr
 have hw0 : ordB l.ds = true → Way l.pp (P l.ds) l.pi (I l.ds) l.rcv l.loss l.tm.pr l.st l.cs.length (leftB l) (chk l) := way_of l hr
 have h10 := fun (ho : ordB l.ds = false) => chk_10 hr ho
 have hp := fun (W : World) (hW : Below w.heap.size w W) => rprin_any l da ca dk ck 9223372036854775807 W (h.later hW)
 have hi := fun (W : World) (hW : Below w.heap.size w W) => rint_any l da ca dk ck 9223372036854775807 W (h.later hW)
 rw [rdue_all hd] at hp hi
 have HP := Lib.hid hp
 have HI := Lib.hid hi
 have HL := Lib.hid (fun (W : World) (hW : Below w.heap.size w W) => rleft_any l da ca dk ck W (h.later hW) hd)
 have HG := Lib.hid (fun (W : World) (hW : Below w.heap.size w W) => rranged_any l da ca dk ck W (h.later hW))
 have HD := Lib.hid h
 have hn := h.1
 have bb : Below w.heap.size w (w.alloc (.cells #[.int .i64 (l).id, .int .i64 (l).ac, .int .i64 (l).st, .int .i64 (l).pp, .int .i64 (l).pi, .int .i64 (l).fee, .int .i64 (l).pen, .int .i64 (l).chg, .int .i64 (l).prov, .int .i64 (l).loss, .int .i64 (l).rcv, .int .i64 ((l).tm).me, .int .i64 ((l).tm).pr, .int .i64 ((l).tm).ppm, .int .i64 ((l).tm).stt, .int .i64 ((l).tm).ev, .int .i64 ((l).tm).ct, .int .i64 ((l).tm).ba, .int .i64 ((l).tm).mo, .int .i64 ((l).tm).pen, .int .i64 ((l).tm).fe, .string ((l).tm).cal, .string ((l).tm).cur, .slice da (l).ds.length dk, .slice ca (l).cs.length ck] 27)) := (Below.refl _ _).alloc (Nat.le_refl _) _
 clear hp hi h
 have HV := Lib.hid hr
 have HWAY := Lib.hid hw0
 have HTEN := Lib.hid h10
 obtain ⟨c, hc⟩ : ∃ c, c = chk l := ⟨_, rfl⟩
 rw [← hc] at HWAY HTEN ⊢
 clear hr hw0 h10 hc
 go_enter Tryz.func56, Tryz.ntmps56
 go_wp2_with (refine wpList_load_row rfl 27 _ rfl _ rfl _ _ _ _ (Bk.Blk.nw10) Tryz.underlying27 rfl (by kernel_rfl) ?_)
 refine (HG.out _ bb).mono ?_
 rintro e w1 ⟨rfl, hb1⟩
 have hk := Bk.Blk.later (g := w.heap.size) hb1 (by first | with_reducible exact Bk.Blk.nw10 | with_reducible exact Bk.Blk.nw20 | with_reducible exact Bk.Blk.nw21 | with_reducible exact Bk.Blk.nw30 | with_reducible exact Bk.Blk.nw31 | with_reducible exact Bk.Blk.nw32 | with_reducible exact Bk.Blk.nw40 | with_reducible exact Bk.Blk.nw41 | with_reducible exact Bk.Blk.nw42 | with_reducible exact Bk.Blk.nw43)
 have bw1 := bl2 hb1 bb
 rw [HV.out]
 clear hb1
 have l23 := hk.c23
 go_wp2_with fail
 clear l23
 go_loopg [3] l.ds.length (RCR w l.ds #[.int .i64 (l).id, .int .i64 (l).ac, .int .i64 (l).st, .int .i64 (l).pp, .int .i64 (l).pi, .int .i64 (l).fee, .int .i64 (l).pen, .int .i64 (l).chg, .int .i64 (l).prov, .int .i64 (l).loss, .int .i64 (l).rcv, .int .i64 ((l).tm).me, .int .i64 ((l).tm).pr, .int .i64 ((l).tm).ppm, .int .i64 ((l).tm).stt, .int .i64 ((l).tm).ev, .int .i64 ((l).tm).ct, .int .i64 ((l).tm).ba, .int .i64 ((l).tm).mo, .int .i64 ((l).tm).pen, .int .i64 ((l).tm).fe, .string ((l).tm).cal, .string ((l).tm).cur, .slice da (l).ds.length dk, .slice ca (l).cs.length ck])
 case atStart => exact ⟨0, by omega, rfl, fun i hi => by omega, bw1, hk⟩
 case round =>
  clear hk bw1
  obtain ⟨k, hkk, rfl, hg, bwr, hk⟩ := hrel
  have HGG := Lib.hid hg
  have hz := bwr.size
  have l23 := hk.c23
  by_cases hlt : k < l.ds.length
  ·have HST := Lib.hid (ordB_step hg hlt)
   obtain ⟨b, off, rfl, hc⟩ := HD.out.2 (by omega)
   obtain ⟨c0, c1, c2, c3⟩ := hc k hlt
   have hcase : (¬ (l.ds[k]!.no = (k : Int) + 1)) ∨ (l.ds[k]!.no = (k : Int) + 1 ∧ k = 0) ∨ (l.ds[k]!.no = (k : Int) + 1 ∧ 0 < k ∧ l.ds[k]!.day < l.ds[k - 1]!.day) ∨ (l.ds[k]!.no = (k : Int) + 1 ∧ 0 < k ∧ l.ds[k - 1]!.day ≤ l.ds[k]!.day) := by omega
   rcases hcase with h1 | ⟨h1, h2⟩ | ⟨h1, h2, h3⟩ | ⟨h1, h2, h3⟩
   ·have HF := Lib.hid (HST.out.2 (fun h => h1 h.1))
    have g1 : (l.ds[k]!.no != (k : Int) + 1) = true := bne_iff_ne.2 h1
    clear hc hg h1 c2 c3
    generalize l.ds[k]! = d at *
    have hw : IntKind.i64.wrap ((k : Int) + 1) = (k : Int) + 1 := by rw [IntKind.wrap_i64]; omega
    go_wp2_with fail
    have q23 : ∀ W', Reg.Cls wr W' → W'.cell? ⟨w.heap.size, 23, none⟩ = _ := fun W' hW => (hk.later hW).c23
    have qa : ∀ W', Reg.Cls wr W' → W'.cell? ⟨b, off + k * 4, none⟩ = _ := fun W' hW => hW.cell (cell_later bwr c0)
    have qb : ∀ W', Reg.Cls wr W' → W'.cell? ⟨b, off + k * 4 + 1, none⟩ = _ := fun W' hW => hW.cell (cell_later bwr c1)
    clear c0 c1 l23
    have HQ := Lib.hid (fun (W' : World) (hW : Reg.Cls wr W') => hk.later hW)
    refine Reg.region_quiet (by kernel_rfl) (by kernel_rfl) ?_
    iterate 29 (first | go_big_quiet_skip | (go_big_quiet_want; (first | (refine quiet_load_row 27 _ rfl _ rfl _ _ _ _ (HQ.out) Tryz.underlying27 rfl (by kernel_rfl) ?_; (simp only [Act.put, List.setIfInBounds_toArray, List.set_cons_zero, List.set_cons_succ]; go_big_quiet_on)) | (go_big_quiet_op; go_big_quiet_on) | (apply Reg.quiet_run; (intro W hW; skip; go_simp; (first | done | rfl | exact ⟨rfl, rfl⟩ )); (simp only [Act.put, List.setIfInBounds_toArray, List.set_cons_zero, List.set_cons_succ]; go_big_quiet_on)) | (apply Reg.quiet_call; (intro W hW; go_simp; (first | done | rfl | exact ⟨rfl, rfl⟩)); (intro W hW; (first | fail)); (simp only [Act.put, List.setIfInBounds_toArray, List.set_cons_zero, List.set_cons_succ]; go_big_quiet_on)))))
    refine wpQuiet_nil ?_
    intro w2 hW
    replace hk := hk.later hW
    have b2 := bl2 hW bwr
    clear hW HQ
    go_wp2_with fail
    go_ret
    exact ⟨by rw [HTEN.out HF.out]; rfl, b2⟩
   ·have HG2 := Lib.hid (HST.out.1 ⟨h1, .inl h2⟩)
    subst h2
    rw [Nat.zero_mul, Nat.add_zero] at c0 c1
    have g1 : (l.ds[0]!.no != 1) = false := by rw [h1]; rfl
    clear hc hg h1 c2 c3
    generalize l.ds[0]! = d at *
    have hw : IntKind.i64.wrap (0 + 1) = 1 := by decide
    have hw2 : IntKind.i64.wrap 1 = 1 := by decide
    go_wp2_with fail
    have q23 : ∀ W', Reg.Cls wr W' → W'.cell? ⟨w.heap.size, 23, none⟩ = _ := fun W' hW => (hk.later hW).c23
    have qa : ∀ W', Reg.Cls wr W' → W'.cell? ⟨b, off, none⟩ = _ := fun W' hW => hW.cell (cell_later bwr c0)
    have qb : ∀ W', Reg.Cls wr W' → W'.cell? ⟨b, off + 1, none⟩ = _ := fun W' hW => hW.cell (cell_later bwr c1)
    clear c0 c1 l23
    have HQ := Lib.hid (fun (W' : World) (hW : Reg.Cls wr W') => hk.later hW)
    refine Reg.region_quiet (by kernel_rfl) (by kernel_rfl) ?_
    iterate 29 (first | go_big_quiet_skip | (go_big_quiet_want; (first | (refine quiet_load_row 27 _ rfl _ rfl _ _ _ _ (HQ.out) Tryz.underlying27 rfl (by kernel_rfl) ?_; (simp only [Act.put, List.setIfInBounds_toArray, List.set_cons_zero, List.set_cons_succ]; go_big_quiet_on)) | (go_big_quiet_op; go_big_quiet_on) | (apply Reg.quiet_run; (intro W hW; skip; go_simp; (first | done | rfl | exact ⟨rfl, rfl⟩ )); (simp only [Act.put, List.setIfInBounds_toArray, List.set_cons_zero, List.set_cons_succ]; go_big_quiet_on)) | (apply Reg.quiet_call; (intro W hW; go_simp; (first | done | rfl | exact ⟨rfl, rfl⟩)); (intro W hW; (first | fail)); (simp only [Act.put, List.setIfInBounds_toArray, List.set_cons_zero, List.set_cons_succ]; go_big_quiet_on)))))
    refine wpQuiet_nil ?_
    intro w2 hW
    replace hk := hk.later hW
    have b2 := bl2 hW bwr
    clear hW HQ
    go_wp2_with fail
    go_roundg (gk - 1)
    case measure => omega
    case rel => exact ⟨1, by omega, by go_num, HG2.out, b2, hk⟩
   ·obtain ⟨m, rfl⟩ : ∃ m, k = m + 1 := ⟨k - 1, by omega⟩
    rw [show m + 1 - 1 = m by omega] at h3 HST
    have cq := (hc m (by omega)).2.1
    have HF := Lib.hid (HST.out.2 (fun h => by rcases h.2 with h | h <;> omega))
    have g1 : (l.ds[m + 1]!.no != (m : Int) + 1 + 1) = false := by rw [h1]; exact (bne_self_eq_false _)
    clear hc hg h1 HST c2 c3
    generalize l.ds[m + 1]! = d at *
    generalize l.ds[m]!.day = pd at *
    have hw : IntKind.i64.wrap ((m : Int) + 1 + 1) = (m : Int) + 1 + 1 := by rw [IntKind.wrap_i64]; omega
    have hw2 : IntKind.i64.wrap ((m : Int) + 1 - 1) = (m : Int) := by rw [IntKind.wrap_i64]; omega
    have hw3 : IntKind.i64.wrap (m : Int) = (m : Int) := by rw [IntKind.wrap_i64]; omega
    have hml : m < l.ds.length := by omega
    go_wp2_with fail
    have q23 : ∀ W', Reg.Cls wr W' → W'.cell? ⟨w.heap.size, 23, none⟩ = _ := fun W' hW => (hk.later hW).c23
    have qa : ∀ W', Reg.Cls wr W' → W'.cell? ⟨b, off + (m + 1) * 4, none⟩ = _ := fun W' hW => hW.cell (cell_later bwr c0)
    have qb : ∀ W', Reg.Cls wr W' → W'.cell? ⟨b, off + (m + 1) * 4 + 1, none⟩ = _ := fun W' hW => hW.cell (cell_later bwr c1)
    have qd : ∀ W', Reg.Cls wr W' → W'.cell? ⟨b, off + m * 4 + 1, none⟩ = _ := fun W' hW => hW.cell (cell_later bwr cq)
    clear c0 c1 cq l23
    have HQ := Lib.hid (fun (W' : World) (hW : Reg.Cls wr W') => hk.later hW)
    refine Reg.region_quiet (by kernel_rfl) (by kernel_rfl) ?_
    iterate 29 (first | go_big_quiet_skip | (go_big_quiet_want; (first | (refine quiet_load_row 27 _ rfl _ rfl _ _ _ _ (HQ.out) Tryz.underlying27 rfl (by kernel_rfl) ?_; (simp only [Act.put, List.setIfInBounds_toArray, List.set_cons_zero, List.set_cons_succ]; go_big_quiet_on)) | (go_big_quiet_op; go_big_quiet_on) | (apply Reg.quiet_run; (intro W hW; skip; go_simp; (first | done | rfl | exact ⟨rfl, rfl⟩ )); (simp only [Act.put, List.setIfInBounds_toArray, List.set_cons_zero, List.set_cons_succ]; go_big_quiet_on)) | (apply Reg.quiet_call; (intro W hW; go_simp; (first | done | rfl | exact ⟨rfl, rfl⟩)); (intro W hW; (first | fail)); (simp only [Act.put, List.setIfInBounds_toArray, List.set_cons_zero, List.set_cons_succ]; go_big_quiet_on)))))
    refine wpQuiet_nil ?_
    intro w2 hW
    replace hk := hk.later hW
    have b2 := bl2 hW bwr
    clear hW HQ
    go_wp2_with fail
    go_ret
    exact ⟨by rw [HTEN.out HF.out]; rfl, b2⟩
   ·obtain ⟨m, rfl⟩ : ∃ m, k = m + 1 := ⟨k - 1, by omega⟩
    rw [show m + 1 - 1 = m by omega] at h3 HST
    have cq := (hc m (by omega)).2.1
    have HG2 := Lib.hid (HST.out.1 ⟨h1, .inr h3⟩)
    have g1 : (l.ds[m + 1]!.no != (m : Int) + 1 + 1) = false := by rw [h1]; exact (bne_self_eq_false _)
    clear hc hg h1 HST c2 c3
    generalize l.ds[m + 1]! = d at *
    generalize l.ds[m]!.day = pd at *
    have hw : IntKind.i64.wrap ((m : Int) + 1 + 1) = (m : Int) + 1 + 1 := by rw [IntKind.wrap_i64]; omega
    have hw2 : IntKind.i64.wrap ((m : Int) + 1 - 1) = (m : Int) := by rw [IntKind.wrap_i64]; omega
    have hw3 : IntKind.i64.wrap (m : Int) = (m : Int) := by rw [IntKind.wrap_i64]; omega
    have hml : m < l.ds.length := by omega
    go_wp2_with fail
    have q23 : ∀ W', Reg.Cls wr W' → W'.cell? ⟨w.heap.size, 23, none⟩ = _ := fun W' hW => (hk.later hW).c23
    have qa : ∀ W', Reg.Cls wr W' → W'.cell? ⟨b, off + (m + 1) * 4, none⟩ = _ := fun W' hW => hW.cell (cell_later bwr c0)
    have qb : ∀ W', Reg.Cls wr W' → W'.cell? ⟨b, off + (m + 1) * 4 + 1, none⟩ = _ := fun W' hW => hW.cell (cell_later bwr c1)
    have qd : ∀ W', Reg.Cls wr W' → W'.cell? ⟨b, off + m * 4 + 1, none⟩ = _ := fun W' hW => hW.cell (cell_later bwr cq)
    clear c0 c1 cq l23
    have HQ := Lib.hid (fun (W' : World) (hW : Reg.Cls wr W') => hk.later hW)
    refine Reg.region_quiet (by kernel_rfl) (by kernel_rfl) ?_
    iterate 29 (first | go_big_quiet_skip | (go_big_quiet_want; (first | (refine quiet_load_row 27 _ rfl _ rfl _ _ _ _ (HQ.out) Tryz.underlying27 rfl (by kernel_rfl) ?_; (simp only [Act.put, List.setIfInBounds_toArray, List.set_cons_zero, List.set_cons_succ]; go_big_quiet_on)) | (go_big_quiet_op; go_big_quiet_on) | (apply Reg.quiet_run; (intro W hW; skip; go_simp; (first | done | rfl | exact ⟨rfl, rfl⟩ )); (simp only [Act.put, List.setIfInBounds_toArray, List.set_cons_zero, List.set_cons_succ]; go_big_quiet_on)) | (apply Reg.quiet_call; (intro W hW; go_simp; (first | done | rfl | exact ⟨rfl, rfl⟩)); (intro W hW; (first | fail)); (simp only [Act.put, List.setIfInBounds_toArray, List.set_cons_zero, List.set_cons_succ]; go_big_quiet_on)))))
    refine wpQuiet_nil ?_
    intro w2 hW
    replace hk := hk.later hW
    have b2 := bl2 hW bwr
    clear hW HQ
    go_wp2_with fail
    go_roundg (gk - 1)
    case measure => omega
    case rel => exact ⟨m + 2, by omega, by go_num, HG2.out, b2, hk⟩
  ·have HT := Lib.hid (ordB_all (ds := l.ds) (fun i hi => HGG.out i (by omega)))
   have hw := HWAY.out HT.out
   clear hg
   go_wp2_with fail
   generalize P l.ds = p at *
   generalize I l.ds = i at *
   generalize leftB l = f at *
   clear l23
   cases hw with
   | a h1 =>
    have g1 : decide (p < l.pp) = true := decide_eq_true h1
    have q3 : ∀ W', Reg.Cls wr W' → W'.cell? ⟨w.heap.size, 3, none⟩ = _ := fun W' hW => (hk.later hW).c3
    have q4 : ∀ W', Reg.Cls wr W' → W'.cell? ⟨w.heap.size, 4, none⟩ = _ := fun W' hW => (hk.later hW).c4
    have q9 : ∀ W', Reg.Cls wr W' → W'.cell? ⟨w.heap.size, 9, none⟩ = _ := fun W' hW => (hk.later hW).c9
    have q10 : ∀ W', Reg.Cls wr W' → W'.cell? ⟨w.heap.size, 10, none⟩ = _ := fun W' hW => (hk.later hW).c10
    have HQ := Lib.hid (fun (W' : World) (hW : Reg.Cls wr W') => hk.later hW)
    refine Reg.region_quiet (by kernel_rfl) (by kernel_rfl) ?_
    iterate 19 (first | go_big_quiet_skip | (go_big_quiet_want; (first | (refine quiet_load_row 27 _ rfl _ rfl _ _ _ _ (HQ.out) Tryz.underlying27 rfl (by kernel_rfl) ?_; (simp only [Act.put, List.setIfInBounds_toArray, List.set_cons_zero, List.set_cons_succ]; go_big_quiet_on)) | (go_big_quiet_op; go_big_quiet_on) | (apply Reg.quiet_run; (intro W hW; skip; go_simp; (first | done | rfl | exact ⟨rfl, rfl⟩ )); (simp only [Act.put, List.setIfInBounds_toArray, List.set_cons_zero, List.set_cons_succ]; go_big_quiet_on)) | (apply Reg.quiet_call; (intro W hW; go_simp; (first | done | rfl | exact ⟨rfl, rfl⟩)); (intro W hW; (first | (go_at_call 59; exact Reg.cls_call hW (HP.out _ (bl2 hW bwr))) | (go_at_call 94; exact Reg.cls_call hW (HI.out _ (bl2 hW bwr))) | (go_at_call 95; exact Reg.cls_call hW (HL.out _ (bl2 hW bwr))))); (simp only [Act.put, List.setIfInBounds_toArray, List.set_cons_zero, List.set_cons_succ]; go_big_quiet_on)))))
    refine wpQuiet_nil ?_
    intro w3 hW
    replace hk := hk.later hW
    have bw3 := bl2 hW bwr
    clear hW HQ q3 q4 q9 q10
    go_wp2_with fail
    go_ret
    exact ⟨rfl, bw3⟩
   | b h1 h2 =>
    have g1 : decide (p < l.pp) = false := decide_eq_false (by omega)
    have g2 : decide (i < l.pi) = true := decide_eq_true h2
    have q3 : ∀ W', Reg.Cls wr W' → W'.cell? ⟨w.heap.size, 3, none⟩ = _ := fun W' hW => (hk.later hW).c3
    have q4 : ∀ W', Reg.Cls wr W' → W'.cell? ⟨w.heap.size, 4, none⟩ = _ := fun W' hW => (hk.later hW).c4
    have q9 : ∀ W', Reg.Cls wr W' → W'.cell? ⟨w.heap.size, 9, none⟩ = _ := fun W' hW => (hk.later hW).c9
    have q10 : ∀ W', Reg.Cls wr W' → W'.cell? ⟨w.heap.size, 10, none⟩ = _ := fun W' hW => (hk.later hW).c10
    have HQ := Lib.hid (fun (W' : World) (hW : Reg.Cls wr W') => hk.later hW)
    refine Reg.region_quiet (by kernel_rfl) (by kernel_rfl) ?_
    iterate 19 (first | go_big_quiet_skip | (go_big_quiet_want; (first | (refine quiet_load_row 27 _ rfl _ rfl _ _ _ _ (HQ.out) Tryz.underlying27 rfl (by kernel_rfl) ?_; (simp only [Act.put, List.setIfInBounds_toArray, List.set_cons_zero, List.set_cons_succ]; go_big_quiet_on)) | (go_big_quiet_op; go_big_quiet_on) | (apply Reg.quiet_run; (intro W hW; skip; go_simp; (first | done | rfl | exact ⟨rfl, rfl⟩ )); (simp only [Act.put, List.setIfInBounds_toArray, List.set_cons_zero, List.set_cons_succ]; go_big_quiet_on)) | (apply Reg.quiet_call; (intro W hW; go_simp; (first | done | rfl | exact ⟨rfl, rfl⟩)); (intro W hW; (first | (go_at_call 59; exact Reg.cls_call hW (HP.out _ (bl2 hW bwr))) | (go_at_call 94; exact Reg.cls_call hW (HI.out _ (bl2 hW bwr))) | (go_at_call 95; exact Reg.cls_call hW (HL.out _ (bl2 hW bwr))))); (simp only [Act.put, List.setIfInBounds_toArray, List.set_cons_zero, List.set_cons_succ]; go_big_quiet_on)))))
    refine wpQuiet_nil ?_
    intro w3 hW
    replace hk := hk.later hW
    have bw3 := bl2 hW bwr
    clear hW HQ q3 q4 q9 q10
    go_wp2_with fail
    go_ret
    exact ⟨rfl, bw3⟩
   | c h1 h2 h3 =>
    have g1 : decide (p < l.pp) = false := decide_eq_false (by omega)
    have g2 : decide (i < l.pi) = false := decide_eq_false (by omega)
    have g3 : decide (l.loss < l.rcv) = true := decide_eq_true h3
    have q3 : ∀ W', Reg.Cls wr W' → W'.cell? ⟨w.heap.size, 3, none⟩ = _ := fun W' hW => (hk.later hW).c3
    have q4 : ∀ W', Reg.Cls wr W' → W'.cell? ⟨w.heap.size, 4, none⟩ = _ := fun W' hW => (hk.later hW).c4
    have q9 : ∀ W', Reg.Cls wr W' → W'.cell? ⟨w.heap.size, 9, none⟩ = _ := fun W' hW => (hk.later hW).c9
    have q10 : ∀ W', Reg.Cls wr W' → W'.cell? ⟨w.heap.size, 10, none⟩ = _ := fun W' hW => (hk.later hW).c10
    have HQ := Lib.hid (fun (W' : World) (hW : Reg.Cls wr W') => hk.later hW)
    refine Reg.region_quiet (by kernel_rfl) (by kernel_rfl) ?_
    iterate 19 (first | go_big_quiet_skip | (go_big_quiet_want; (first | (refine quiet_load_row 27 _ rfl _ rfl _ _ _ _ (HQ.out) Tryz.underlying27 rfl (by kernel_rfl) ?_; (simp only [Act.put, List.setIfInBounds_toArray, List.set_cons_zero, List.set_cons_succ]; go_big_quiet_on)) | (go_big_quiet_op; go_big_quiet_on) | (apply Reg.quiet_run; (intro W hW; skip; go_simp; (first | done | rfl | exact ⟨rfl, rfl⟩ )); (simp only [Act.put, List.setIfInBounds_toArray, List.set_cons_zero, List.set_cons_succ]; go_big_quiet_on)) | (apply Reg.quiet_call; (intro W hW; go_simp; (first | done | rfl | exact ⟨rfl, rfl⟩)); (intro W hW; (first | (go_at_call 59; exact Reg.cls_call hW (HP.out _ (bl2 hW bwr))) | (go_at_call 94; exact Reg.cls_call hW (HI.out _ (bl2 hW bwr))) | (go_at_call 95; exact Reg.cls_call hW (HL.out _ (bl2 hW bwr))))); (simp only [Act.put, List.setIfInBounds_toArray, List.set_cons_zero, List.set_cons_succ]; go_big_quiet_on)))))
    refine wpQuiet_nil ?_
    intro w3 hW
    replace hk := hk.later hW
    have bw3 := bl2 hW bwr
    clear hW HQ q3 q4 q9 q10
    go_wp2_with fail
    go_ret
    exact ⟨rfl, bw3⟩
   | d h1 h2 h3 h4 h5 =>
    have g1 : decide (p < l.pp) = false := decide_eq_false (by omega)
    have g2 : decide (i < l.pi) = false := decide_eq_false (by omega)
    have g3 : decide (l.loss < l.rcv) = false := decide_eq_false (by omega)
    have q1 : ((l.cs.length : Int) == 0) = true := by rw [h4]; rfl
    have q2 : (p != l.tm.pr) = true := bne_iff_ne.2 h5
    clear h4 h5
    have q3 : ∀ W', Reg.Cls wr W' → W'.cell? ⟨w.heap.size, 3, none⟩ = _ := fun W' hW => (hk.later hW).c3
    have q4 : ∀ W', Reg.Cls wr W' → W'.cell? ⟨w.heap.size, 4, none⟩ = _ := fun W' hW => (hk.later hW).c4
    have q9 : ∀ W', Reg.Cls wr W' → W'.cell? ⟨w.heap.size, 9, none⟩ = _ := fun W' hW => (hk.later hW).c9
    have q10 : ∀ W', Reg.Cls wr W' → W'.cell? ⟨w.heap.size, 10, none⟩ = _ := fun W' hW => (hk.later hW).c10
    have HQ := Lib.hid (fun (W' : World) (hW : Reg.Cls wr W') => hk.later hW)
    refine Reg.region_quiet (by kernel_rfl) (by kernel_rfl) ?_
    iterate 19 (first | go_big_quiet_skip | (go_big_quiet_want; (first | (refine quiet_load_row 27 _ rfl _ rfl _ _ _ _ (HQ.out) Tryz.underlying27 rfl (by kernel_rfl) ?_; (simp only [Act.put, List.setIfInBounds_toArray, List.set_cons_zero, List.set_cons_succ]; go_big_quiet_on)) | (go_big_quiet_op; go_big_quiet_on) | (apply Reg.quiet_run; (intro W hW; skip; go_simp; (first | done | rfl | exact ⟨rfl, rfl⟩ )); (simp only [Act.put, List.setIfInBounds_toArray, List.set_cons_zero, List.set_cons_succ]; go_big_quiet_on)) | (apply Reg.quiet_call; (intro W hW; go_simp; (first | done | rfl | exact ⟨rfl, rfl⟩)); (intro W hW; (first | (go_at_call 59; exact Reg.cls_call hW (HP.out _ (bl2 hW bwr))) | (go_at_call 94; exact Reg.cls_call hW (HI.out _ (bl2 hW bwr))) | (go_at_call 95; exact Reg.cls_call hW (HL.out _ (bl2 hW bwr))))); (simp only [Act.put, List.setIfInBounds_toArray, List.set_cons_zero, List.set_cons_succ]; go_big_quiet_on)))))
    refine wpQuiet_nil ?_
    intro w3 hW
    replace hk := hk.later hW
    have bw3 := bl2 hW bwr
    clear hW HQ q3 q4 q9 q10
    go_wp2_with fail
    have q2 : ∀ W', Reg.Cls w3 W' → W'.cell? ⟨w.heap.size, 2, none⟩ = _ := fun W' hW => (hk.later hW).c2
    have q12 : ∀ W', Reg.Cls w3 W' → W'.cell? ⟨w.heap.size, 12, none⟩ = _ := fun W' hW => (hk.later hW).c12
    have q24 : ∀ W', Reg.Cls w3 W' → W'.cell? ⟨w.heap.size, 24, none⟩ = _ := fun W' hW => (hk.later hW).c24
    have HQ := Lib.hid (fun (W' : World) (hW : Reg.Cls w3 W') => hk.later hW)
    refine Reg.region_quiet (by kernel_rfl) (by kernel_rfl) ?_
    iterate 25 (first | go_big_quiet_skip | (go_big_quiet_want; (first | (refine quiet_load_row 27 _ rfl _ rfl _ _ _ _ (HQ.out) Tryz.underlying27 rfl (by kernel_rfl) ?_; (simp only [Act.put, List.setIfInBounds_toArray, List.set_cons_zero, List.set_cons_succ]; go_big_quiet_on)) | (go_big_quiet_op; go_big_quiet_on) | (apply Reg.quiet_run; (intro W hW; skip; go_simp; (first | done | rfl | exact ⟨rfl, rfl⟩ )); (simp only [Act.put, List.setIfInBounds_toArray, List.set_cons_zero, List.set_cons_succ]; go_big_quiet_on)) | (apply Reg.quiet_call; (intro W hW; go_simp; (first | done | rfl | exact ⟨rfl, rfl⟩)); (intro W hW; (first | (go_at_call 59; exact Reg.cls_call hW (HP.out _ (bl2 hW bw3))) | (go_at_call 94; exact Reg.cls_call hW (HI.out _ (bl2 hW bw3))) | (go_at_call 95; exact Reg.cls_call hW (HL.out _ (bl2 hW bw3))))); (simp only [Act.put, List.setIfInBounds_toArray, List.set_cons_zero, List.set_cons_succ]; go_big_quiet_on)))))
    refine wpQuiet_nil ?_
    intro w4 hW
    replace hk := hk.later hW
    have bw4 := bl2 hW bw3
    clear hW HQ q2 q12 q24
    go_wp2_with fail
    go_ret
    exact ⟨rfl, bw4⟩
   | e h1 h2 h3 h4 h5 =>
    have g1 : decide (p < l.pp) = false := decide_eq_false (by omega)
    have g2 : decide (i < l.pi) = false := decide_eq_false (by omega)
    have g3 : decide (l.loss < l.rcv) = false := decide_eq_false (by omega)
    have hcs : (((l.cs.length : Int) == 0) = true ∧ (p != l.tm.pr) = false) ∨ ((l.cs.length : Int) == 0) = false := by
     rcases h4 with ⟨h4, h⟩ | h4
     ·exact .inl ⟨by rw [h4]; rfl, by rw [h]; exact bne_self_eq_false _⟩
     ·exact .inr (beq_eq_false_iff_ne.2 (by omega))
    have hst : ((l.st == 1) = false ∧ (l.st != 3) = true ∧ f = true) ∨ ((l.st == 1) = true ∧ (l.st != 3) = true ∧ f = false) := by
     rcases h5 with ⟨h5, h⟩ | ⟨h5, h⟩
     ·exact .inl ⟨by rw [h5]; rfl, by rw [h5]; rfl, h⟩
     ·exact .inr ⟨by rw [h5]; rfl, by rw [h5]; rfl, h⟩
    clear h4 h5
    have q3 : ∀ W', Reg.Cls wr W' → W'.cell? ⟨w.heap.size, 3, none⟩ = _ := fun W' hW => (hk.later hW).c3
    have q4 : ∀ W', Reg.Cls wr W' → W'.cell? ⟨w.heap.size, 4, none⟩ = _ := fun W' hW => (hk.later hW).c4
    have q9 : ∀ W', Reg.Cls wr W' → W'.cell? ⟨w.heap.size, 9, none⟩ = _ := fun W' hW => (hk.later hW).c9
    have q10 : ∀ W', Reg.Cls wr W' → W'.cell? ⟨w.heap.size, 10, none⟩ = _ := fun W' hW => (hk.later hW).c10
    have HQ := Lib.hid (fun (W' : World) (hW : Reg.Cls wr W') => hk.later hW)
    refine Reg.region_quiet (by kernel_rfl) (by kernel_rfl) ?_
    iterate 19 (first | go_big_quiet_skip | (go_big_quiet_want; (first | (refine quiet_load_row 27 _ rfl _ rfl _ _ _ _ (HQ.out) Tryz.underlying27 rfl (by kernel_rfl) ?_; (simp only [Act.put, List.setIfInBounds_toArray, List.set_cons_zero, List.set_cons_succ]; go_big_quiet_on)) | (go_big_quiet_op; go_big_quiet_on) | (apply Reg.quiet_run; (intro W hW; skip; go_simp; (first | done | rfl | exact ⟨rfl, rfl⟩ )); (simp only [Act.put, List.setIfInBounds_toArray, List.set_cons_zero, List.set_cons_succ]; go_big_quiet_on)) | (apply Reg.quiet_call; (intro W hW; go_simp; (first | done | rfl | exact ⟨rfl, rfl⟩)); (intro W hW; (first | (go_at_call 59; exact Reg.cls_call hW (HP.out _ (bl2 hW bwr))) | (go_at_call 94; exact Reg.cls_call hW (HI.out _ (bl2 hW bwr))) | (go_at_call 95; exact Reg.cls_call hW (HL.out _ (bl2 hW bwr))))); (simp only [Act.put, List.setIfInBounds_toArray, List.set_cons_zero, List.set_cons_succ]; go_big_quiet_on)))))
    refine wpQuiet_nil ?_
    intro w3 hW
    replace hk := hk.later hW
    have bw3 := bl2 hW bwr
    clear hW HQ q3 q4 q9 q10
    go_wp2_with fail
    rcases hcs with ⟨q1, q2⟩ | q1
    all_goals rcases hst with ⟨s2, s3, rfl⟩ | ⟨s2, s3, rfl⟩
    all_goals
     have q2 : ∀ W', Reg.Cls w3 W' → W'.cell? ⟨w.heap.size, 2, none⟩ = _ := fun W' hW => (hk.later hW).c2
     have q12 : ∀ W', Reg.Cls w3 W' → W'.cell? ⟨w.heap.size, 12, none⟩ = _ := fun W' hW => (hk.later hW).c12
     have q24 : ∀ W', Reg.Cls w3 W' → W'.cell? ⟨w.heap.size, 24, none⟩ = _ := fun W' hW => (hk.later hW).c24
     have HQ := Lib.hid (fun (W' : World) (hW : Reg.Cls w3 W') => hk.later hW)
     refine Reg.region_quiet (by kernel_rfl) (by kernel_rfl) ?_
     iterate 25 (first | go_big_quiet_skip | (go_big_quiet_want; (first | (refine quiet_load_row 27 _ rfl _ rfl _ _ _ _ (HQ.out) Tryz.underlying27 rfl (by kernel_rfl) ?_; (simp only [Act.put, List.setIfInBounds_toArray, List.set_cons_zero, List.set_cons_succ]; go_big_quiet_on)) | (go_big_quiet_op; go_big_quiet_on) | (apply Reg.quiet_run; (intro W hW; skip; go_simp; (first | done | rfl | exact ⟨rfl, rfl⟩ )); (simp only [Act.put, List.setIfInBounds_toArray, List.set_cons_zero, List.set_cons_succ]; go_big_quiet_on)) | (apply Reg.quiet_call; (intro W hW; go_simp; (first | done | rfl | exact ⟨rfl, rfl⟩)); (intro W hW; (first | (go_at_call 59; exact Reg.cls_call hW (HP.out _ (bl2 hW bw3))) | (go_at_call 94; exact Reg.cls_call hW (HI.out _ (bl2 hW bw3))) | (go_at_call 95; exact Reg.cls_call hW (HL.out _ (bl2 hW bw3))))); (simp only [Act.put, List.setIfInBounds_toArray, List.set_cons_zero, List.set_cons_succ]; go_big_quiet_on)))))
     refine wpQuiet_nil ?_
     intro w4 hW
     replace hk := hk.later hW
     have bw4 := bl2 hW bw3
     clear hW HQ q2 q12 q24
     go_wp2_with fail
     go_ret
     exact ⟨rfl, bw4⟩
   | g h1 h2 h3 h4 h5 h6 =>
    have g1 : decide (p < l.pp) = false := decide_eq_false (by omega)
    have g2 : decide (i < l.pi) = false := decide_eq_false (by omega)
    have g3 : decide (l.loss < l.rcv) = false := decide_eq_false (by omega)
    have hcs : (((l.cs.length : Int) == 0) = true ∧ (p != l.tm.pr) = false) ∨ ((l.cs.length : Int) == 0) = false := by
     rcases h4 with ⟨h4, h⟩ | h4
     ·exact .inl ⟨by rw [h4]; rfl, by rw [h]; exact bne_self_eq_false _⟩
     ·exact .inr (beq_eq_false_iff_ne.2 (by omega))
    have hst : ((l.st == 1) = false ∧ (l.st != 3) = true ∧ f = false) ∨ ((l.st == 1) = true ∧ (l.st != 3) = true ∧ f = true) := by
     rcases h5 with ⟨h5, h⟩ | ⟨h5, h⟩
     ·exact .inl ⟨by rw [h5]; rfl, by rw [h5]; rfl, h⟩
     ·exact .inr ⟨by rw [h5]; rfl, by rw [h5]; rfl, h⟩
    have hls : (l.loss != 0) = true ∨ ((l.loss != 0) = false ∧ (l.rcv != 0) = true) := by
     rcases h6 with h | ⟨h, h'⟩
     ·exact .inl (bne_iff_ne.2 h)
     ·exact .inr ⟨by rw [h]; rfl, bne_iff_ne.2 h'⟩
    clear h4 h5 h6
    have q3 : ∀ W', Reg.Cls wr W' → W'.cell? ⟨w.heap.size, 3, none⟩ = _ := fun W' hW => (hk.later hW).c3
    have q4 : ∀ W', Reg.Cls wr W' → W'.cell? ⟨w.heap.size, 4, none⟩ = _ := fun W' hW => (hk.later hW).c4
    have q9 : ∀ W', Reg.Cls wr W' → W'.cell? ⟨w.heap.size, 9, none⟩ = _ := fun W' hW => (hk.later hW).c9
    have q10 : ∀ W', Reg.Cls wr W' → W'.cell? ⟨w.heap.size, 10, none⟩ = _ := fun W' hW => (hk.later hW).c10
    have HQ := Lib.hid (fun (W' : World) (hW : Reg.Cls wr W') => hk.later hW)
    refine Reg.region_quiet (by kernel_rfl) (by kernel_rfl) ?_
    iterate 19 (first | go_big_quiet_skip | (go_big_quiet_want; (first | (refine quiet_load_row 27 _ rfl _ rfl _ _ _ _ (HQ.out) Tryz.underlying27 rfl (by kernel_rfl) ?_; (simp only [Act.put, List.setIfInBounds_toArray, List.set_cons_zero, List.set_cons_succ]; go_big_quiet_on)) | (go_big_quiet_op; go_big_quiet_on) | (apply Reg.quiet_run; (intro W hW; skip; go_simp; (first | done | rfl | exact ⟨rfl, rfl⟩ )); (simp only [Act.put, List.setIfInBounds_toArray, List.set_cons_zero, List.set_cons_succ]; go_big_quiet_on)) | (apply Reg.quiet_call; (intro W hW; go_simp; (first | done | rfl | exact ⟨rfl, rfl⟩)); (intro W hW; (first | (go_at_call 59; exact Reg.cls_call hW (HP.out _ (bl2 hW bwr))) | (go_at_call 94; exact Reg.cls_call hW (HI.out _ (bl2 hW bwr))) | (go_at_call 95; exact Reg.cls_call hW (HL.out _ (bl2 hW bwr))))); (simp only [Act.put, List.setIfInBounds_toArray, List.set_cons_zero, List.set_cons_succ]; go_big_quiet_on)))))
    refine wpQuiet_nil ?_
    intro w3 hW
    replace hk := hk.later hW
    have bw3 := bl2 hW bwr
    clear hW HQ q3 q4 q9 q10
    go_wp2_with fail
    rcases hcs with ⟨q1, q2⟩ | q1
    all_goals rcases hst with ⟨s2, s3, rfl⟩ | ⟨s2, s3, rfl⟩
    all_goals
     have q2 : ∀ W', Reg.Cls w3 W' → W'.cell? ⟨w.heap.size, 2, none⟩ = _ := fun W' hW => (hk.later hW).c2
     have q12 : ∀ W', Reg.Cls w3 W' → W'.cell? ⟨w.heap.size, 12, none⟩ = _ := fun W' hW => (hk.later hW).c12
     have q24 : ∀ W', Reg.Cls w3 W' → W'.cell? ⟨w.heap.size, 24, none⟩ = _ := fun W' hW => (hk.later hW).c24
     have HQ := Lib.hid (fun (W' : World) (hW : Reg.Cls w3 W') => hk.later hW)
     refine Reg.region_quiet (by kernel_rfl) (by kernel_rfl) ?_
     iterate 25 (first | go_big_quiet_skip | (go_big_quiet_want; (first | (refine quiet_load_row 27 _ rfl _ rfl _ _ _ _ (HQ.out) Tryz.underlying27 rfl (by kernel_rfl) ?_; (simp only [Act.put, List.setIfInBounds_toArray, List.set_cons_zero, List.set_cons_succ]; go_big_quiet_on)) | (go_big_quiet_op; go_big_quiet_on) | (apply Reg.quiet_run; (intro W hW; skip; go_simp; (first | done | rfl | exact ⟨rfl, rfl⟩ )); (simp only [Act.put, List.setIfInBounds_toArray, List.set_cons_zero, List.set_cons_succ]; go_big_quiet_on)) | (apply Reg.quiet_call; (intro W hW; go_simp; (first | done | rfl | exact ⟨rfl, rfl⟩)); (intro W hW; (first | (go_at_call 59; exact Reg.cls_call hW (HP.out _ (bl2 hW bw3))) | (go_at_call 94; exact Reg.cls_call hW (HI.out _ (bl2 hW bw3))) | (go_at_call 95; exact Reg.cls_call hW (HL.out _ (bl2 hW bw3))))); (simp only [Act.put, List.setIfInBounds_toArray, List.set_cons_zero, List.set_cons_succ]; go_big_quiet_on)))))
     refine wpQuiet_nil ?_
     intro w4 hW
     replace hk := hk.later hW
     have bw4 := bl2 hW bw3
     clear hW HQ q2 q12 q24
     have l2 := hk.c2
     have l9 := hk.c9
     have l10 := hk.c10
     rcases hls with r1 | ⟨r1, r2⟩
     all_goals
      go_wp2_with fail
      go_ret
      exact ⟨rfl, bw4⟩
   | k h1 h2 h3 h4 h5 h6 h7 =>
    have g1 : decide (p < l.pp) = false := decide_eq_false (by omega)
    have g2 : decide (i < l.pi) = false := decide_eq_false (by omega)
    have g3 : decide (l.loss < l.rcv) = false := decide_eq_false (by omega)
    have hcs : (((l.cs.length : Int) == 0) = true ∧ (p != l.tm.pr) = false) ∨ ((l.cs.length : Int) == 0) = false := by
     rcases h4 with ⟨h4, h⟩ | h4
     ·exact .inl ⟨by rw [h4]; rfl, by rw [h]; exact bne_self_eq_false _⟩
     ·exact .inr (beq_eq_false_iff_ne.2 (by omega))
    have hst : ((l.st == 1) = false ∧ (l.st != 3) = true ∧ f = false) ∨ ((l.st == 1) = true ∧ (l.st != 3) = true ∧ f = true) := by
     rcases h5 with ⟨h5, h⟩ | ⟨h5, h⟩
     ·exact .inl ⟨by rw [h5]; rfl, by rw [h5]; rfl, h⟩
     ·exact .inr ⟨by rw [h5]; rfl, by rw [h5]; rfl, h⟩
    have r1 : (l.loss != 0) = false := by rw [h6]; rfl
    have r2 : (l.rcv != 0) = false := by rw [h7]; rfl
    clear h4 h5 h6 h7
    have q3 : ∀ W', Reg.Cls wr W' → W'.cell? ⟨w.heap.size, 3, none⟩ = _ := fun W' hW => (hk.later hW).c3
    have q4 : ∀ W', Reg.Cls wr W' → W'.cell? ⟨w.heap.size, 4, none⟩ = _ := fun W' hW => (hk.later hW).c4
    have q9 : ∀ W', Reg.Cls wr W' → W'.cell? ⟨w.heap.size, 9, none⟩ = _ := fun W' hW => (hk.later hW).c9
    have q10 : ∀ W', Reg.Cls wr W' → W'.cell? ⟨w.heap.size, 10, none⟩ = _ := fun W' hW => (hk.later hW).c10
    have HQ := Lib.hid (fun (W' : World) (hW : Reg.Cls wr W') => hk.later hW)
    refine Reg.region_quiet (by kernel_rfl) (by kernel_rfl) ?_
    iterate 19 (first | go_big_quiet_skip | (go_big_quiet_want; (first | (refine quiet_load_row 27 _ rfl _ rfl _ _ _ _ (HQ.out) Tryz.underlying27 rfl (by kernel_rfl) ?_; (simp only [Act.put, List.setIfInBounds_toArray, List.set_cons_zero, List.set_cons_succ]; go_big_quiet_on)) | (go_big_quiet_op; go_big_quiet_on) | (apply Reg.quiet_run; (intro W hW; skip; go_simp; (first | done | rfl | exact ⟨rfl, rfl⟩ )); (simp only [Act.put, List.setIfInBounds_toArray, List.set_cons_zero, List.set_cons_succ]; go_big_quiet_on)) | (apply Reg.quiet_call; (intro W hW; go_simp; (first | done | rfl | exact ⟨rfl, rfl⟩)); (intro W hW; (first | (go_at_call 59; exact Reg.cls_call hW (HP.out _ (bl2 hW bwr))) | (go_at_call 94; exact Reg.cls_call hW (HI.out _ (bl2 hW bwr))) | (go_at_call 95; exact Reg.cls_call hW (HL.out _ (bl2 hW bwr))))); (simp only [Act.put, List.setIfInBounds_toArray, List.set_cons_zero, List.set_cons_succ]; go_big_quiet_on)))))
    refine wpQuiet_nil ?_
    intro w3 hW
    replace hk := hk.later hW
    have bw3 := bl2 hW bwr
    clear hW HQ q3 q4 q9 q10
    go_wp2_with fail
    rcases hcs with ⟨q1, q2⟩ | q1
    all_goals rcases hst with ⟨s2, s3, rfl⟩ | ⟨s2, s3, rfl⟩
    all_goals
     have q2 : ∀ W', Reg.Cls w3 W' → W'.cell? ⟨w.heap.size, 2, none⟩ = _ := fun W' hW => (hk.later hW).c2
     have q12 : ∀ W', Reg.Cls w3 W' → W'.cell? ⟨w.heap.size, 12, none⟩ = _ := fun W' hW => (hk.later hW).c12
     have q24 : ∀ W', Reg.Cls w3 W' → W'.cell? ⟨w.heap.size, 24, none⟩ = _ := fun W' hW => (hk.later hW).c24
     have HQ := Lib.hid (fun (W' : World) (hW : Reg.Cls w3 W') => hk.later hW)
     refine Reg.region_quiet (by kernel_rfl) (by kernel_rfl) ?_
     iterate 25 (first | go_big_quiet_skip | (go_big_quiet_want; (first | (refine quiet_load_row 27 _ rfl _ rfl _ _ _ _ (HQ.out) Tryz.underlying27 rfl (by kernel_rfl) ?_; (simp only [Act.put, List.setIfInBounds_toArray, List.set_cons_zero, List.set_cons_succ]; go_big_quiet_on)) | (go_big_quiet_op; go_big_quiet_on) | (apply Reg.quiet_run; (intro W hW; skip; go_simp; (first | done | rfl | exact ⟨rfl, rfl⟩ )); (simp only [Act.put, List.setIfInBounds_toArray, List.set_cons_zero, List.set_cons_succ]; go_big_quiet_on)) | (apply Reg.quiet_call; (intro W hW; go_simp; (first | done | rfl | exact ⟨rfl, rfl⟩)); (intro W hW; (first | (go_at_call 59; exact Reg.cls_call hW (HP.out _ (bl2 hW bw3))) | (go_at_call 94; exact Reg.cls_call hW (HI.out _ (bl2 hW bw3))) | (go_at_call 95; exact Reg.cls_call hW (HL.out _ (bl2 hW bw3))))); (simp only [Act.put, List.setIfInBounds_toArray, List.set_cons_zero, List.set_cons_succ]; go_big_quiet_on)))))
     refine wpQuiet_nil ?_
     intro w4 hW
     replace hk := hk.later hW
     have bw4 := bl2 hW bw3
     clear hW HQ q2 q12 q24
     have l2 := hk.c2
     have l9 := hk.c9
     have l10 := hk.c10
     go_wp2_with fail
     go_ret
     exact ⟨rfl, bw4⟩
   | m h1 h2 h3 h4 h5 =>
    have g1 : decide (p < l.pp) = false := decide_eq_false (by omega)
    have g2 : decide (i < l.pi) = false := decide_eq_false (by omega)
    have g3 : decide (l.loss < l.rcv) = false := decide_eq_false (by omega)
    have hcs : (((l.cs.length : Int) == 0) = true ∧ (p != l.tm.pr) = false) ∨ ((l.cs.length : Int) == 0) = false := by
     rcases h4 with ⟨h4, h⟩ | h4
     ·exact .inl ⟨by rw [h4]; rfl, by rw [h]; exact bne_self_eq_false _⟩
     ·exact .inr (beq_eq_false_iff_ne.2 (by omega))
    have s3 : (l.st != 3) = false := by rw [h5]; rfl
    clear h4 h5
    have q3 : ∀ W', Reg.Cls wr W' → W'.cell? ⟨w.heap.size, 3, none⟩ = _ := fun W' hW => (hk.later hW).c3
    have q4 : ∀ W', Reg.Cls wr W' → W'.cell? ⟨w.heap.size, 4, none⟩ = _ := fun W' hW => (hk.later hW).c4
    have q9 : ∀ W', Reg.Cls wr W' → W'.cell? ⟨w.heap.size, 9, none⟩ = _ := fun W' hW => (hk.later hW).c9
    have q10 : ∀ W', Reg.Cls wr W' → W'.cell? ⟨w.heap.size, 10, none⟩ = _ := fun W' hW => (hk.later hW).c10
    have HQ := Lib.hid (fun (W' : World) (hW : Reg.Cls wr W') => hk.later hW)
    refine Reg.region_quiet (by kernel_rfl) (by kernel_rfl) ?_
    iterate 19 (first | go_big_quiet_skip | (go_big_quiet_want; (first | (refine quiet_load_row 27 _ rfl _ rfl _ _ _ _ (HQ.out) Tryz.underlying27 rfl (by kernel_rfl) ?_; (simp only [Act.put, List.setIfInBounds_toArray, List.set_cons_zero, List.set_cons_succ]; go_big_quiet_on)) | (go_big_quiet_op; go_big_quiet_on) | (apply Reg.quiet_run; (intro W hW; skip; go_simp; (first | done | rfl | exact ⟨rfl, rfl⟩ )); (simp only [Act.put, List.setIfInBounds_toArray, List.set_cons_zero, List.set_cons_succ]; go_big_quiet_on)) | (apply Reg.quiet_call; (intro W hW; go_simp; (first | done | rfl | exact ⟨rfl, rfl⟩)); (intro W hW; (first | (go_at_call 59; exact Reg.cls_call hW (HP.out _ (bl2 hW bwr))) | (go_at_call 94; exact Reg.cls_call hW (HI.out _ (bl2 hW bwr))) | (go_at_call 95; exact Reg.cls_call hW (HL.out _ (bl2 hW bwr))))); (simp only [Act.put, List.setIfInBounds_toArray, List.set_cons_zero, List.set_cons_succ]; go_big_quiet_on)))))
    refine wpQuiet_nil ?_
    intro w3 hW
    replace hk := hk.later hW
    have bw3 := bl2 hW bwr
    clear hW HQ q3 q4 q9 q10
    go_wp2_with fail
    rcases hcs with ⟨q1, q2⟩ | q1
    all_goals
     have q2 : ∀ W', Reg.Cls w3 W' → W'.cell? ⟨w.heap.size, 2, none⟩ = _ := fun W' hW => (hk.later hW).c2
     have q12 : ∀ W', Reg.Cls w3 W' → W'.cell? ⟨w.heap.size, 12, none⟩ = _ := fun W' hW => (hk.later hW).c12
     have q24 : ∀ W', Reg.Cls w3 W' → W'.cell? ⟨w.heap.size, 24, none⟩ = _ := fun W' hW => (hk.later hW).c24
     have HQ := Lib.hid (fun (W' : World) (hW : Reg.Cls w3 W') => hk.later hW)
     refine Reg.region_quiet (by kernel_rfl) (by kernel_rfl) ?_
     iterate 25 (first | go_big_quiet_skip | (go_big_quiet_want; (first | (refine quiet_load_row 27 _ rfl _ rfl _ _ _ _ (HQ.out) Tryz.underlying27 rfl (by kernel_rfl) ?_; (simp only [Act.put, List.setIfInBounds_toArray, List.set_cons_zero, List.set_cons_succ]; go_big_quiet_on)) | (go_big_quiet_op; go_big_quiet_on) | (apply Reg.quiet_run; (intro W hW; skip; go_simp; (first | done | rfl | exact ⟨rfl, rfl⟩ )); (simp only [Act.put, List.setIfInBounds_toArray, List.set_cons_zero, List.set_cons_succ]; go_big_quiet_on)) | (apply Reg.quiet_call; (intro W hW; go_simp; (first | done | rfl | exact ⟨rfl, rfl⟩)); (intro W hW; (first | (go_at_call 59; exact Reg.cls_call hW (HP.out _ (bl2 hW bw3))) | (go_at_call 94; exact Reg.cls_call hW (HI.out _ (bl2 hW bw3))) | (go_at_call 95; exact Reg.cls_call hW (HL.out _ (bl2 hW bw3))))); (simp only [Act.put, List.setIfInBounds_toArray, List.set_cons_zero, List.set_cons_succ]; go_big_quiet_on)))))
     refine wpQuiet_nil ?_
     intro w4 hW
     replace hk := hk.later hW
     have bw4 := bl2 hW bw3
     clear hW HQ q2 q12 q24
     have l2 := hk.c2
     have l9 := hk.c9
     have l10 := hk.c10
     go_wp2_with fail
     go_ret
     exact ⟨rfl, bw4⟩
end Go.Proofs.YtaanicginfjgdaaGreatDoor.Ln
