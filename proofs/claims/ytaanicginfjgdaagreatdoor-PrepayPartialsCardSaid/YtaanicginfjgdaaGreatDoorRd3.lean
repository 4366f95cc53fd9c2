/-
 The contract of the reference's Divide.
-/
import Derived.Test.YtaanicginfjgdaaGreatDoorRd2
namespace Go.Proofs.YtaanicginfjgdaaGreatDoor.Rd
open Go.RowKit
open Go.Proofs.YtaanicginfjgdaaGreatDoor
open Go.Proofs.YtaanicginfjgdaaGreatDoor.Wm Go.Proofs.YtaanicginfjgdaaGreatDoor.Wt

set_option maxHeartbeats 2000000 in
theorem rrd_bad (x n mode : Int) (w : World) (h : ¬ rok n mode) : Calls Tryz.prog 53 #[.agg #[.int .i64 (hi x), .int .u64 (lo x)], .int .i64 n, .int .i64 mode] w (DPost x n mode w) := by
 have H := Lib.hid h
 have b0 := Below.refl w.heap.size w
 by_cases hn : n < 1
 ·clear h
  go_enter Tryz.func53, Tryz.ntmps53
  go_wp2_with fail
  go_ret2
  exact dpost_no H.out Bk.be
 ·have hm : mode < 1 ∨ 6 < mode := by unfold rok at h; omega
  have hn1 : 1 ≤ n := by omega
  clear h hn
  go_enter Tryz.func53, Tryz.ntmps53
  go_wp2_with fail
  refine (rvalid_no _ _ hm).mono ?_
  rintro e w' ⟨rfl, rfl⟩
  go_wp2_with fail
  go_ret2
  exact dpost_no H.out Bk.be

set_option maxHeartbeats 4000000 in
theorem rrd_exact_walk (x n mode : Int) (w : World) (hx : I128 x) (hn : I64 n) (h : rok n mode) (hr : ¬ 0 < x % n) : Calls Tryz.prog 53 #[.agg #[.int .i64 (hi x), .int .u64 (lo x)], .int .i64 n, .int .i64 mode] w (DPost x n mode w) := by
 have H := Lib.hid h
 have HE := Lib.hid (rd_exact (mode := mode) hr)
 obtain ⟨n1, m1, m6⟩ := h
 have hd := fun W => rdiv_any x n W hx hn
 rw [show dq x n = x / n from if_neg (by omega), show dr x n = x % n from if_neg (by omega), show de n = 0 from if_neg (by omega)] at hd
 have HD := Lib.hid hd
 have HI := Lib.hid (fun W => rint_any (x / n) W)
 rw [← HE.out] at HD HI
 have hq : x % n ≤ 0 := by omega
 clear hd hx hn hr
 generalize x % n = r at *
 have b0 := Below.refl w.heap.size w
 cases hv : iin (rd x n mode)
 all_goals
  rw [hv] at HI
  have HV := Lib.hid hv
  clear hv
  generalize hq' : rd x n mode = q at HD HI
  have HQ := Lib.hid hq'
  clear hq'
  go_enter Tryz.func53, Tryz.ntmps53
  go_wp2_with fail
  refine (rvalid_yes _ _ m1 m6).mono ?_
  rintro e w' ⟨rfl, rfl⟩
  go_wp2_with fail
  refine (HD.out _).mono ?_
  rintro e w1 ⟨rfl, hb1⟩
  have b1 : Below w.heap.size w w1 := bl2 hb1 Bk.be
  have z1 := b1.size
  repeat (rename Bk.Blk w _ _ _ => hq; (first | (have hq' := Bk.Blk.carry hq hb1 (by (repeat (first | with_reducible refine Bk.Blk.drew ?_ | with_reducible refine Bk.Blk.set_same ?_ | with_reducible refine Bk.Blk.set_ne ?_ (by omega) | with_reducible refine Bk.Blk.alloc ?_)); (with_reducible exact hq))) | (have hq' := Bk.Blk.later hb1 (Bk.Blk.set2 hq)) | skip); clear hq)
  try (have hn := Bk.nx ((w).heap.size) hb1)
  try (have hn := Bk.nx ((w).heap.size + 1) hb1)
  try (have hn := Bk.nx ((w).heap.size + 2) hb1)
  try (have hn := Bk.nx ((w).heap.size + 3) hb1)
  clear hb1
  repeat (rename World.cell? w _ = _ => hq; clear hq)
  repeat (rename World.frozen? w _ = _ => hq; clear hq)
  repeat (rename Bk.Blk w1 _ _ _ => hq; (first | (have _k0 := (hq).c0; have _m0 := (hq).f0) | skip); (first | (have _k1 := (hq).c1; have _m1 := (hq).f1) | skip); (first | (have _k2 := (hq).c2; have _m2 := (hq).f2) | skip); (first | (have _k3 := (hq).c3; have _m3 := (hq).f3) | skip); have _z := (hq).lt; have hk := Bk.Kept.mk hq; clear hq)
  repeat (rename Bk.Kept (Bk.Blk w1 _ _ _) => hq; have hq' := hq.out; clear hq)
  go_wp2_with fail
  refine (HI.out _).mono ?_
  rintro e w2 ⟨rfl, hb2⟩
  have b2 : Below w.heap.size w w2 := bl2 hb2 Bk.be
  have z2 := b2.size
  repeat (rename Bk.Blk w1 _ _ _ => hq; (first | (have hq' := Bk.Blk.carry hq hb2 (by (repeat (first | with_reducible refine Bk.Blk.drew ?_ | with_reducible refine Bk.Blk.set_same ?_ | with_reducible refine Bk.Blk.set_ne ?_ (by omega) | with_reducible refine Bk.Blk.alloc ?_)); (with_reducible exact hq))) | (have hq' := Bk.Blk.later hb2 (Bk.Blk.set2 hq)) | skip); clear hq)
  try (have hn := Bk.nx ((w1).heap.size) hb2)
  try (have hn := Bk.nx ((w1).heap.size + 1) hb2)
  try (have hn := Bk.nx ((w1).heap.size + 2) hb2)
  try (have hn := Bk.nx ((w1).heap.size + 3) hb2)
  clear hb2
  repeat (rename World.cell? w1 _ = _ => hq; clear hq)
  repeat (rename World.frozen? w1 _ = _ => hq; clear hq)
  repeat (rename Bk.Blk w2 _ _ _ => hq; (first | (have _k0 := (hq).c0; have _m0 := (hq).f0) | skip); (first | (have _k1 := (hq).c1; have _m1 := (hq).f1) | skip); (first | (have _k2 := (hq).c2; have _m2 := (hq).f2) | skip); (first | (have _k3 := (hq).c3; have _m3 := (hq).f3) | skip); have _z := (hq).lt; have hk := Bk.Kept.mk hq; clear hq)
  repeat (rename Bk.Kept (Bk.Blk w2 _ _ _) => hq; have hq' := hq.out; clear hq)
  go_wp2_with fail
  go_ret2
  rw [← HQ.out]
  first | exact dpost_in H.out HV.out Bk.be | exact dpost_out H.out HV.out Bk.be

theorem lo_odd (q : Int) : (lo q % 2 == 1) = decide (q % 2 = 1) := by
 rw [lo_mod]
 rfl

set_option maxHeartbeats 8000000 in
theorem rrd_step_walk (x n mode : Int) (w : World) (hx : I128 x) (hn : I64 n) (h : rok n mode) (hr : 0 < x % n) : Calls Tryz.prog 53 #[.agg #[.int .i64 (hi x), .int .u64 (lo x)], .int .i64 n, .int .i64 mode] w (DPost x n mode w) := by
 have H := Lib.hid h
 have hst := rd_step (mode := mode) hr
 obtain ⟨n1, m1, m6⟩ := h
 have hrn := Int.emod_lt_of_pos x (show 0 < n by omega)
 have hd := fun W => rdiv_any x n W hx hn
 rw [show dq x n = x / n from if_neg (by omega), show dr x n = x % n from if_neg (by omega), show de n = 0 from if_neg (by omega)] at hd
 have hqb := quo_bd hx (show 0 < n by omega)
 have hM := fun (W : World) => up_any (decide (x < 0)) (decide (x / n % 2 = 1)) (x % n) n mode W hn.2 hr hrn m1 m6
 have hdx := hi_decide x
 have hod := lo_odd (x / n)
 have hl0 := (lo_bd (x / n)).1
 unfold moreI at hst
 generalize upB (decide (x < 0)) (decide (x / n % 2 = 1)) (x % n) n mode = u at *
 generalize decide (x / n % 2 = 1) = od at *
 generalize decide (x < 0) = ng at *
 have hin := rd_bd (mode := mode) hx n1
 have HD := Lib.hid hd
 have HM := Lib.hid hM
 have HI := Lib.hid (fun W => rint_any (rd x n mode) W)
 unfold I64 at hn
 have b0 := Below.refl w.heap.size w
 clear hd hM
 cases u with
 | false =>
  have hst' : rd x n mode = x / n := by rw [hst]; simp
  rw [← hst'] at HD hod hl0
  clear hst hst' hin hqb hx
  generalize x % n = r at *
  cases hv : iin (rd x n mode)
  all_goals
   rw [hv] at HI
   have HV := Lib.hid hv
   clear hv
   generalize hq' : rd x n mode = p at HI HD hod hl0
   have HQ := Lib.hid hq'
   clear hq'
   go_enter Tryz.func53, Tryz.ntmps53
   go_wp2_with fail
   refine (rvalid_yes _ _ m1 m6).mono ?_
   rintro e w' ⟨rfl, rfl⟩
   go_wp2_with fail
   refine (HD.out _).mono ?_
   rintro e w1 ⟨rfl, hb1⟩
   have b1 : Below w.heap.size w w1 := bl2 hb1 Bk.be
   have z1 := b1.size
   repeat (rename Bk.Blk w _ _ _ => hq; (first | (have hq' := Bk.Blk.carry hq hb1 (by (repeat (first | with_reducible refine Bk.Blk.drew ?_ | with_reducible refine Bk.Blk.set_same ?_ | with_reducible refine Bk.Blk.set_ne ?_ (by omega) | with_reducible refine Bk.Blk.alloc ?_)); (with_reducible exact hq))) | (have hq' := Bk.Blk.later hb1 (Bk.Blk.set2 hq)) | skip); clear hq)
   try (have hn := Bk.nx ((w).heap.size) hb1)
   try (have hn := Bk.nx ((w).heap.size + 1) hb1)
   try (have hn := Bk.nx ((w).heap.size + 2) hb1)
   try (have hn := Bk.nx ((w).heap.size + 3) hb1)
   clear hb1
   repeat (rename World.cell? w _ = _ => hq; clear hq)
   repeat (rename World.frozen? w _ = _ => hq; clear hq)
   repeat (rename Bk.Blk w1 _ _ _ => hq; (first | (have _k0 := (hq).c0; have _m0 := (hq).f0) | skip); (first | (have _k1 := (hq).c1; have _m1 := (hq).f1) | skip); (first | (have _k2 := (hq).c2; have _m2 := (hq).f2) | skip); (first | (have _k3 := (hq).c3; have _m3 := (hq).f3) | skip); have _z := (hq).lt; have hk := Bk.Kept.mk hq; clear hq)
   repeat (rename Bk.Kept (Bk.Blk w1 _ _ _) => hq; have hq' := hq.out; clear hq)
   go_wp2_with fail
   refine (HM.out _).mono ?_
   rintro e w' ⟨rfl, rfl⟩
   go_wp2_with fail
   refine (HI.out _).mono ?_
   rintro e w4 ⟨rfl, hb4⟩
   have b4 : Below w.heap.size w w4 := bl2 hb4 Bk.be
   have z4 := b4.size
   repeat (rename Bk.Blk w1 _ _ _ => hq; (first | (have hq' := Bk.Blk.carry hq hb4 (by (repeat (first | with_reducible refine Bk.Blk.drew ?_ | with_reducible refine Bk.Blk.set_same ?_ | with_reducible refine Bk.Blk.set_ne ?_ (by omega) | with_reducible refine Bk.Blk.alloc ?_)); (with_reducible exact hq))) | (have hq' := Bk.Blk.later hb4 (Bk.Blk.set2 hq)) | skip); clear hq)
   try (have hn := Bk.nx ((w1).heap.size) hb4)
   try (have hn := Bk.nx ((w1).heap.size + 1) hb4)
   try (have hn := Bk.nx ((w1).heap.size + 2) hb4)
   try (have hn := Bk.nx ((w1).heap.size + 3) hb4)
   clear hb4
   repeat (rename World.cell? w1 _ = _ => hq; clear hq)
   repeat (rename World.frozen? w1 _ = _ => hq; clear hq)
   repeat (rename Bk.Blk w4 _ _ _ => hq; (first | (have _k0 := (hq).c0; have _m0 := (hq).f0) | skip); (first | (have _k1 := (hq).c1; have _m1 := (hq).f1) | skip); (first | (have _k2 := (hq).c2; have _m2 := (hq).f2) | skip); (first | (have _k3 := (hq).c3; have _m3 := (hq).f3) | skip); have _z := (hq).lt; have hk := Bk.Kept.mk hq; clear hq)
   repeat (rename Bk.Kept (Bk.Blk w4 _ _ _) => hq; have hq' := hq.out; clear hq)
   go_wp2_with fail
   go_ret2
   rw [← HQ.out]
   first | exact dpost_in H.out HV.out Bk.be | exact dpost_out H.out HV.out Bk.be
 | true =>
  have hst' : rd x n mode = x / n + 1 := by rw [hst]; simp
  have ha := fun W => radd_any (x / n) 1 W hqb (by unfold I128; omega)
  unfold SumPost at ha
  rw [← hst', fit_in hin, ovf_in hin] at ha
  have HA := Lib.hid ha
  have HO := Lib.hid (fun W => rof_any 1 W (by unfold I64; omega))
  clear hst hst' hin hqb hx ha
  generalize x % n = r at *
  generalize x / n = q at *
  cases hv : iin (rd x n mode)
  all_goals
   rw [hv] at HI
   have HV := Lib.hid hv
   clear hv
   generalize hq' : rd x n mode = p at HI HA
   have HQ := Lib.hid hq'
   clear hq'
   go_enter Tryz.func53, Tryz.ntmps53
   go_wp2_with fail
   refine (rvalid_yes _ _ m1 m6).mono ?_
   rintro e w' ⟨rfl, rfl⟩
   go_wp2_with fail
   refine (HD.out _).mono ?_
   rintro e w1 ⟨rfl, hb1⟩
   have b1 : Below w.heap.size w w1 := bl2 hb1 Bk.be
   have z1 := b1.size
   repeat (rename Bk.Blk w _ _ _ => hq; (first | (have hq' := Bk.Blk.carry hq hb1 (by (repeat (first | with_reducible refine Bk.Blk.drew ?_ | with_reducible refine Bk.Blk.set_same ?_ | with_reducible refine Bk.Blk.set_ne ?_ (by omega) | with_reducible refine Bk.Blk.alloc ?_)); (with_reducible exact hq))) | (have hq' := Bk.Blk.later hb1 (Bk.Blk.set2 hq)) | skip); clear hq)
   try (have hn := Bk.nx ((w).heap.size) hb1)
   try (have hn := Bk.nx ((w).heap.size + 1) hb1)
   try (have hn := Bk.nx ((w).heap.size + 2) hb1)
   try (have hn := Bk.nx ((w).heap.size + 3) hb1)
   clear hb1
   repeat (rename World.cell? w _ = _ => hq; clear hq)
   repeat (rename World.frozen? w _ = _ => hq; clear hq)
   repeat (rename Bk.Blk w1 _ _ _ => hq; (first | (have _k0 := (hq).c0; have _m0 := (hq).f0) | skip); (first | (have _k1 := (hq).c1; have _m1 := (hq).f1) | skip); (first | (have _k2 := (hq).c2; have _m2 := (hq).f2) | skip); (first | (have _k3 := (hq).c3; have _m3 := (hq).f3) | skip); have _z := (hq).lt; have hk := Bk.Kept.mk hq; clear hq)
   repeat (rename Bk.Kept (Bk.Blk w1 _ _ _) => hq; have hq' := hq.out; clear hq)
   go_wp2_with fail
   refine (HM.out _).mono ?_
   rintro e w' ⟨rfl, rfl⟩
   go_wp2_with fail
   have hn := Bk.Blk.nw10 (W := w1) (cs := #[.int .i64 (hi q), .int .u64 (lo q)]) (t := 89)
   have hb2 : Below (w1).heap.size w1 ((w1).alloc (.cells #[.int .i64 (hi q), .int .u64 (lo q)] 89)) := (Below.refl _ _).alloc (Nat.le_refl _) _
   generalize (w1).alloc (.cells #[.int .i64 (hi q), .int .u64 (lo q)] 89) = w2 at *
   have b2 : Below w.heap.size w w2 := bl2 hb2 Bk.be
   have z2 := b2.size
   repeat (rename Bk.Blk w1 _ _ _ => hq; (first | (have hq' := Bk.Blk.carry hq hb2 (by (repeat (first | with_reducible refine Bk.Blk.drew ?_ | with_reducible refine Bk.Blk.set_same ?_ | with_reducible refine Bk.Blk.set_ne ?_ (by omega) | with_reducible refine Bk.Blk.alloc ?_)); (with_reducible exact hq))) | (have hq' := Bk.Blk.later hb2 (Bk.Blk.set2 hq)) | skip); clear hq)
   try (have hn := Bk.nx ((w1).heap.size) hb2)
   try (have hn := Bk.nx ((w1).heap.size + 1) hb2)
   try (have hn := Bk.nx ((w1).heap.size + 2) hb2)
   try (have hn := Bk.nx ((w1).heap.size + 3) hb2)
   clear hb2
   repeat (rename World.cell? w1 _ = _ => hq; clear hq)
   repeat (rename World.frozen? w1 _ = _ => hq; clear hq)
   repeat (rename Bk.Blk w2 _ _ _ => hq; (first | (have _k0 := (hq).c0; have _m0 := (hq).f0) | skip); (first | (have _k1 := (hq).c1; have _m1 := (hq).f1) | skip); (first | (have _k2 := (hq).c2; have _m2 := (hq).f2) | skip); (first | (have _k3 := (hq).c3; have _m3 := (hq).f3) | skip); have _z := (hq).lt; have hk := Bk.Kept.mk hq; clear hq)
   repeat (rename Bk.Kept (Bk.Blk w2 _ _ _) => hq; have hq' := hq.out; clear hq)
   refine Reg.region_alloc 7 6 11 (.cells #[.int .i64 0, .int .u64 0] 89) [(5, 7)] (by kernel_rfl) (by kernel_rfl) (by kernel_rfl) (fun d _ _ _ _ h => by cases d <;> exact h) _ rfl rfl rfl (fun ρ W => by simp [go_sem, Reg.ptr]) ?_
   simp only [Reg.edges, Reg.edge]
   have key := Bk.key0 (W := w2)
   repeat (rename Bk.Blk w2 _ _ _ => hq; (first | replace key := Bk.kadd key (hq).gall1 | replace key := Bk.kadd key (hq).gall2 | replace key := Bk.kadd key (hq).gall3 | replace key := Bk.kadd key (hq).gall4 | replace key := Bk.kadd key (hq).gall5 | replace key := Bk.kadd key (hq).gall6 | replace key := Bk.kadd key (hq).gall7 | replace key := Bk.kadd key (hq).gall8 | replace key := Bk.kadd key (hq).gall9 | replace key := Bk.kadd key (hq).gall10 | replace key := Bk.kadd key (hq).gall11 | replace key := Bk.kadd key (hq).gall12 | replace key := Bk.kadd key (hq).gall13 | replace key := Bk.kadd key (hq).gall14 | replace key := Bk.kadd key (hq).gall15 | replace key := Bk.kadd key (hq).gall16 | replace key := Bk.kadd key (hq).gall17 | replace key := Bk.kadd key (hq).gall18 | replace key := Bk.kadd key (hq).gall19 | replace key := Bk.kadd key (hq).gall20 | skip); have hk := Bk.Kept.mk hq; clear hq)
   repeat (rename Bk.Kept (Bk.Blk w2 _ _ _) => hq; have hq' := hq.out; clear hq)
   apply Exists.intro
   refine ⟨?_, ?_⟩
   ·(intro C hC; simp only [Reg.blank, List.take_succ_cons, List.take_zero]; have kk := key C hC; (try have _a := kk.1.1); (try have _a := kk.1.2.1); (try have _a := kk.1.2.2.1); (try have _a := kk.2.1.1); (try have _a := kk.2.1.2.1); (try have _a := kk.2.1.2.2.1); (try have _a := kk.2.2.1.1); (try have _a := kk.2.2.1.2.1); (try have _a := kk.2.2.1.2.2.1); (try have _a := kk.2.2.2.1.1); (try have _a := kk.2.2.2.1.2.1); (try have _a := kk.2.2.2.1.2.2.1); (try have _a := kk.2.2.2.2.1.1); (try have _a := kk.2.2.2.2.1.2.1); (try have _a := kk.2.2.2.2.1.2.2.1); (try have _a := kk.2.2.2.2.2.1.1); (try have _a := kk.2.2.2.2.2.1.2.1); (try have _a := kk.2.2.2.2.2.1.2.2.1); (try have _a := kk.2.2.2.2.2.2.1.1); (try have _a := kk.2.2.2.2.2.2.1.2.1); (try have _a := kk.2.2.2.2.2.2.1.2.2.1); (try have _a := kk.2.2.2.2.2.2.2.1.1); (try have _a := kk.2.2.2.2.2.2.2.1.2.1); (try have _a := kk.2.2.2.2.2.2.2.1.2.2.1); (try have _a := kk.2.2.2.2.2.2.2.2.1.1); (try have _a := kk.2.2.2.2.2.2.2.2.1.2.1); (try have _a := kk.2.2.2.2.2.2.2.2.1.2.2.1); (try have _a := kk.2.2.2.2.2.2.2.2.2.1.1); (try have _a := kk.2.2.2.2.2.2.2.2.2.1.2.1); (try have _a := kk.2.2.2.2.2.2.2.2.2.1.2.2.1); (iterate 7 (first | go_big_quiet_skip | (go_big_quiet_want; (first | (go_big_quiet_op; go_big_quiet_on) | (apply Reg.quiet_run; (intro W hW; have hI : Bk.In C W := hW; go_simp; (first | done | rfl | exact ⟨rfl, rfl⟩ )); (simp only [Act.put, List.setIfInBounds_toArray, List.set_cons_zero, List.set_cons_succ]; go_big_quiet_on)) | (apply Reg.quiet_call; (intro W hW; go_simp; (first | done | rfl | exact ⟨rfl, rfl⟩)); (intro W hW; (first | (go_at_call 90; exact hC.call hW (HO.out _)) | (go_at_call 89; exact hC.call hW (HA.out _)))); (simp only [Act.put, List.setIfInBounds_toArray, List.set_cons_zero, List.set_cons_succ]; go_big_quiet_on)))))); exact wpQuiet_nil rfl)
   clear key
   intro W w3 hW hb
   have hW3 := Reg.alc_back hW hb
   have hn := Bk.Blk.made hb
   have k3 := Below.size hW
   have b3 := bl2 hW3 Bk.be
   have z3 := b3.size
   repeat (rename Bk.Blk w2 _ _ _ => hq; (first | (have hq' := Bk.Blk.later hW3 hq) | skip); clear hq)
   clear hb hW hW3
   repeat (rename World.cell? w2 _ = _ => hq; clear hq)
   repeat (rename World.frozen? w2 _ = _ => hq; clear hq)
   repeat (rename Bk.Blk w3 _ _ _ => hq; (first | (have _k0 := (hq).c0; have _m0 := (hq).f0) | skip); (first | (have _k1 := (hq).c1; have _m1 := (hq).f1) | skip); (first | (have _k2 := (hq).c2; have _m2 := (hq).f2) | skip); (first | (have _k3 := (hq).c3; have _m3 := (hq).f3) | skip); have _z := (hq).lt; have hk := Bk.Kept.mk hq; clear hq)
   repeat (rename Bk.Kept (Bk.Blk w3 _ _ _) => hq; have hq' := hq.out; clear hq)
   simp only [List.drop_succ_cons, List.drop_zero, Act.put, List.setIfInBounds_toArray, List.set_cons_zero, List.set_cons_succ, Reg.ptr]
   generalize W.heap.size = g3 at *
   go_wp2_with fail
   refine (HI.out _).mono ?_
   rintro e w4 ⟨rfl, hb4⟩
   have b4 : Below w.heap.size w w4 := bl2 hb4 Bk.be
   have z4 := b4.size
   repeat (rename Bk.Blk w3 _ _ _ => hq; (first | (have hq' := Bk.Blk.carry hq hb4 (by (repeat (first | with_reducible refine Bk.Blk.drew ?_ | with_reducible refine Bk.Blk.set_same ?_ | with_reducible refine Bk.Blk.set_ne ?_ (by omega) | with_reducible refine Bk.Blk.alloc ?_)); (with_reducible exact hq))) | (have hq' := Bk.Blk.later hb4 (Bk.Blk.set2 hq)) | skip); clear hq)
   try (have hn := Bk.nx ((w3).heap.size) hb4)
   try (have hn := Bk.nx ((w3).heap.size + 1) hb4)
   try (have hn := Bk.nx ((w3).heap.size + 2) hb4)
   try (have hn := Bk.nx ((w3).heap.size + 3) hb4)
   clear hb4
   repeat (rename World.cell? w3 _ = _ => hq; clear hq)
   repeat (rename World.frozen? w3 _ = _ => hq; clear hq)
   repeat (rename Bk.Blk w4 _ _ _ => hq; (first | (have _k0 := (hq).c0; have _m0 := (hq).f0) | skip); (first | (have _k1 := (hq).c1; have _m1 := (hq).f1) | skip); (first | (have _k2 := (hq).c2; have _m2 := (hq).f2) | skip); (first | (have _k3 := (hq).c3; have _m3 := (hq).f3) | skip); have _z := (hq).lt; have hk := Bk.Kept.mk hq; clear hq)
   repeat (rename Bk.Kept (Bk.Blk w4 _ _ _) => hq; have hq' := hq.out; clear hq)
   go_wp2_with fail
   go_ret2
   rw [← HQ.out]
   first | exact dpost_in H.out HV.out Bk.be | exact dpost_out H.out HV.out Bk.be
theorem rrd_any (x n mode : Int) (w : World) (hx : I128 x) (hn : I64 n) : Calls Tryz.prog 53 #[.agg #[.int .i64 (hi x), .int .u64 (lo x)], .int .i64 n, .int .i64 mode] w (DPost x n mode w) := by
 by_cases h : rok n mode
 ·by_cases hr : 0 < x % n
  ·exact rrd_step_walk x n mode w hx hn h hr
  ·exact rrd_exact_walk x n mode w hx hn h hr
 ·exact rrd_bad x n mode w h
end Go.Proofs.YtaanicginfjgdaaGreatDoor.Rd
