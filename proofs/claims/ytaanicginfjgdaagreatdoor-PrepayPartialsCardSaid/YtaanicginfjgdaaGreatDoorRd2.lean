/-
 The contracts of Divide, of package rounding and of the reference.
-/
import Derived.Test.YtaanicginfjgdaaGreatDoorRd1
import Derived.Test.YtaanicginfjgdaaGreatDoorBa
import Derived.Test.YtaanicginfjgdaaGreatDoorRb
namespace Go.Proofs.YtaanicginfjgdaaGreatDoor.Rd
open Go.RowKit
open Go.Proofs.YtaanicginfjgdaaGreatDoor
open Go.Proofs.YtaanicginfjgdaaGreatDoor.Wm Go.Proofs.YtaanicginfjgdaaGreatDoor.Wt

theorem valid_yes (m : Int) (w : World) (h1 : 1 ≤ m) (h6 : m ≤ 6) : Calls Tryz.prog 50 #[.int .i64 m] w fun e w' => e = .returned (.bool true) ∧ w = w' := by
 go_enter Tryz.func50, Tryz.ntmps50
 go_wp2_with fail
 go_ret
 exact ⟨by simp, rfl⟩
theorem valid_no (m : Int) (w : World) (h : m < 1 ∨ 6 < m) : Calls Tryz.prog 50 #[.int .i64 m] w fun e w' => e = .returned (.bool false) ∧ w = w' := by
 rcases h with h | h
 ·go_enter Tryz.func50, Tryz.ntmps50
  go_wp2_with fail
  go_ret
  exact ⟨by simp, rfl⟩
 ·have h1 : 1 ≤ m := by omega
  go_enter Tryz.func50, Tryz.ntmps50
  go_wp2_with fail
  go_ret
  exact ⟨by simpa using h, rfl⟩
theorem rvalid_yes (m : Int) (w : World) (h1 : 1 ≤ m) (h6 : m ≤ 6) : Calls Tryz.prog 86 #[.int .i64 m] w fun e w' => e = .returned (.bool true) ∧ w = w' := by
 go_enter Tryz.func86, Tryz.ntmps86
 go_wp2_with fail
 go_ret
 exact ⟨by simp, rfl⟩
theorem rvalid_no (m : Int) (w : World) (h : m < 1 ∨ 6 < m) : Calls Tryz.prog 86 #[.int .i64 m] w fun e w' => e = .returned (.bool false) ∧ w = w' := by
 rcases h with h | h
 ·go_enter Tryz.func86, Tryz.ntmps86
  go_wp2_with fail
  go_ret
  exact ⟨by simp, rfl⟩
 ·have h1 : 1 ≤ m := by omega
  go_enter Tryz.func86, Tryz.ntmps86
  go_wp2_with fail
  go_ret
  exact ⟨by simpa using h, rfl⟩

theorem rd_no {x n mode : Int} (h : ¬ rok n mode) : rdV x n mode = 0 ∧ rdE x n mode = 1 := ⟨if_neg h, if_neg h⟩
theorem rd_yes {x n mode : Int} (h : rok n mode) : rdV x n mode = ifit (rd x n mode) ∧ rdE x n mode = if iin (rd x n mode) then 0 else 6 := ⟨if_pos h, if_pos h⟩
def DPost (x n mode : Int) (w : World) (e : Ending) (w' : World) : Prop := e = .returned (.tuple #[.int .i64 (rdV x n mode), .int .i64 (rdE x n mode)]) ∧ Below w.heap.size w w'
theorem dpost_no {x n mode : Int} {w w' : World} (h : ¬ rok n mode) (hb : Below w.heap.size w w') : DPost x n mode w (.returned (.tuple #[.int .i64 0, .int .i64 1])) w' := by
 unfold DPost; rw [(rd_no h).1, (rd_no h).2]; exact ⟨rfl, hb⟩
theorem dpost_in {x n mode : Int} {w w' : World} (h : rok n mode) (hi : iin (rd x n mode) = true) (hb : Below w.heap.size w w') : DPost x n mode w (.returned (.tuple #[.int .i64 (ifit (rd x n mode)), .int .i64 0])) w' := by
 unfold DPost; rw [(rd_yes h).1, (rd_yes h).2, hi]; exact ⟨rfl, hb⟩
theorem dpost_out {x n mode : Int} {w w' : World} (h : rok n mode) (hi : iin (rd x n mode) = false) (hb : Below w.heap.size w w') : DPost x n mode w (.returned (.tuple #[.int .i64 0, .int .i64 6])) w' := by
 have h2 : ifit (rd x n mode) = 0 := (int_no (fun h => by rw [show iin (rd x n mode) = true from decide_eq_true h] at hi; cases hi)).2.2.2.1
 unfold DPost; rw [(rd_yes h).1, (rd_yes h).2, hi, h2]; exact ⟨rfl, hb⟩

set_option maxHeartbeats 2000000 in
theorem rd_bad (x n mode : Int) (w : World) (h : ¬ rok n mode) : Calls Tryz.prog 51 #[.agg #[.int .i64 (hi x), .int .u64 (lo x)], .int .i64 n, .int .i64 mode] w (DPost x n mode w) := by
 have H := Lib.hid h
 have b0 := Below.refl w.heap.size w
 by_cases hn : n < 1
 ·clear h
  go_enter Tryz.func51, Tryz.ntmps51
  go_wp2_with fail
  go_ret2
  exact dpost_no H.out Bk.be
 ·have hm : mode < 1 ∨ 6 < mode := by unfold rok at h; omega
  have hn1 : 1 ≤ n := by omega
  clear h hn
  go_enter Tryz.func51, Tryz.ntmps51
  go_wp2_with fail
  refine (valid_no _ _ hm).mono ?_
  rintro e w' ⟨rfl, rfl⟩
  go_wp2_with fail
  go_ret2
  exact dpost_no H.out Bk.be

set_option maxHeartbeats 4000000 in
theorem rd_exact_walk (x n mode : Int) (w : World) (hx : I128 x) (hn : I64 n) (h : rok n mode) (hr : ¬ 0 < x % n) : Calls Tryz.prog 51 #[.agg #[.int .i64 (hi x), .int .u64 (lo x)], .int .i64 n, .int .i64 mode] w (DPost x n mode w) := by
 have H := Lib.hid h
 have HE := Lib.hid (rd_exact (mode := mode) hr)
 obtain ⟨n1, m1, m6⟩ := h
 have hd := fun W => div_any x n W hx hn
 rw [show dq x n = x / n from if_neg (by omega), show dr x n = x % n from if_neg (by omega), show de n = 0 from if_neg (by omega)] at hd
 have HD := Lib.hid hd
 have HI := Lib.hid (fun W => int_any (x / n) W)
 rw [← HE.out] at HD HI
 have hq : x % n ≤ 0 := by omega
 clear hd hx hn hr
 generalize x % n = r at *
 have b0 := Below.refl w.heap.size w
 cases hv : iin (rd x n mode)
 all_goals
  rw [hv] at HI
  have HV := Lib.hid hv
  clear hv
  generalize hq' : rd x n mode = q at HD HI
  have HQ := Lib.hid hq'
  clear hq'
  go_enter Tryz.func51, Tryz.ntmps51
  go_wp2_with fail
  refine (valid_yes _ _ m1 m6).mono ?_
  rintro e w' ⟨rfl, rfl⟩
  go_wp2_with fail
  refine (HD.out _).mono ?_
  rintro e w1 ⟨rfl, hb1⟩
  have b1 : Below w.heap.size w w1 := bl2 hb1 Bk.be
  have z1 := b1.size
  repeat (rename Bk.Blk w _ _ _ => hq; (first | (have hq' := Bk.Blk.carry hq hb1 (by (repeat (first | with_reducible refine Bk.Blk.drew ?_ | with_reducible refine Bk.Blk.set_same ?_ | with_reducible refine Bk.Blk.set_ne ?_ (by omega) | with_reducible refine Bk.Blk.alloc ?_)); (with_reducible exact hq))) | (have hq' := Bk.Blk.later hb1 (Bk.Blk.set2 hq)) | skip); clear hq)
  try (have hn := Bk.nx ((w).heap.size) hb1)
  try (have hn := Bk.nx ((w).heap.size + 1) hb1)
  try (have hn := Bk.nx ((w).heap.size + 2) hb1)
  try (have hn := Bk.nx ((w).heap.size + 3) hb1)
  clear hb1
  repeat (rename World.cell? w _ = _ => hq; clear hq)
  repeat (rename World.frozen? w _ = _ => hq; clear hq)
  repeat (rename Bk.Blk w1 _ _ _ => hq; (first | (have _k0 := (hq).c0; have _m0 := (hq).f0) | skip); (first | (have _k1 := (hq).c1; have _m1 := (hq).f1) | skip); (first | (have _k2 := (hq).c2; have _m2 := (hq).f2) | skip); (first | (have _k3 := (hq).c3; have _m3 := (hq).f3) | skip); have _z := (hq).lt; have hk := Bk.Kept.mk hq; clear hq)
  repeat (rename Bk.Kept (Bk.Blk w1 _ _ _) => hq; have hq' := hq.out; clear hq)
  go_wp2_with fail
  refine (HI.out _).mono ?_
  rintro e w2 ⟨rfl, hb2⟩
  have b2 : Below w.heap.size w w2 := bl2 hb2 Bk.be
  have z2 := b2.size
  repeat (rename Bk.Blk w1 _ _ _ => hq; (first | (have hq' := Bk.Blk.carry hq hb2 (by (repeat (first | with_reducible refine Bk.Blk.drew ?_ | with_reducible refine Bk.Blk.set_same ?_ | with_reducible refine Bk.Blk.set_ne ?_ (by omega) | with_reducible refine Bk.Blk.alloc ?_)); (with_reducible exact hq))) | (have hq' := Bk.Blk.later hb2 (Bk.Blk.set2 hq)) | skip); clear hq)
  try (have hn := Bk.nx ((w1).heap.size) hb2)
  try (have hn := Bk.nx ((w1).heap.size + 1) hb2)
  try (have hn := Bk.nx ((w1).heap.size + 2) hb2)
  try (have hn := Bk.nx ((w1).heap.size + 3) hb2)
  clear hb2
  repeat (rename World.cell? w1 _ = _ => hq; clear hq)
  repeat (rename World.frozen? w1 _ = _ => hq; clear hq)
  repeat (rename Bk.Blk w2 _ _ _ => hq; (first | (have _k0 := (hq).c0; have _m0 := (hq).f0) | skip); (first | (have _k1 := (hq).c1; have _m1 := (hq).f1) | skip); (first | (have _k2 := (hq).c2; have _m2 := (hq).f2) | skip); (first | (have _k3 := (hq).c3; have _m3 := (hq).f3) | skip); have _z := (hq).lt; have hk := Bk.Kept.mk hq; clear hq)
  repeat (rename Bk.Kept (Bk.Blk w2 _ _ _) => hq; have hq' := hq.out; clear hq)
  go_wp2_with fail
  go_ret2
  rw [← HQ.out]
  first | exact dpost_in H.out HV.out Bk.be | exact dpost_out H.out HV.out Bk.be

set_option maxHeartbeats 8000000 in
theorem rd_step_walk (x n mode : Int) (w : World) (hS : Stp w) (hx : I128 x) (hn : I64 n) (h : rok n mode) (hr : 0 < x % n) : Calls Tryz.prog 51 #[.agg #[.int .i64 (hi x), .int .u64 (lo x)], .int .i64 n, .int .i64 mode] w (DPost x n mode w) := by
 have H := Lib.hid h
 have hst := rd_step (mode := mode) hr
 obtain ⟨n1, m1, m6⟩ := h
 have hrn := Int.emod_lt_of_pos x (show 0 < n by omega)
 have hd := fun W => div_any x n W hx hn
 rw [show dq x n = x / n from if_neg (by omega), show dr x n = x % n from if_neg (by omega), show de n = 0 from if_neg (by omega)] at hd
 have hqb := quo_bd hx (show 0 < n by omega)
 have hM := fun (W : World) (hS : Stp W) => more_any (x / n) (x % n) n mode W hS hn.2 hr hrn m1 m6
 simp only [quo_sign n1] at hM
 have hmb := moreI_bd (decide (x < 0)) (decide (x / n % 2 = 1)) (x % n) n mode
 generalize moreI (decide (x < 0)) (decide (x / n % 2 = 1)) (x % n) n mode = m at *
 have ha := fun W => add_any (x / n) m W hqb (by unfold I128; omega)
 rw [← hst] at ha
 unfold WSum at ha
 rw [fit_in (rd_bd hx n1), ovf_in (rd_bd hx n1)] at ha
 have HD := Lib.hid hd
 have HM := Lib.hid hM
 have HA := Lib.hid ha
 have HO := Lib.hid (fun W => of_any m W (by unfold I64; omega))
 have HI := Lib.hid (fun W => int_any (rd x n mode) W)
 unfold I64 at hn
 clear hd hM ha hx hqb hst
 generalize x % n = r at *
 generalize x / n = q at *
 have b0 := Below.refl w.heap.size w
 cases hv : iin (rd x n mode)
 all_goals
  rw [hv] at HI
  have HV := Lib.hid hv
  clear hv
  generalize hq' : rd x n mode = p at HI HA
  have HQ := Lib.hid hq'
  clear hq'
  go_enter Tryz.func51, Tryz.ntmps51
  go_wp2_with fail
  refine (valid_yes _ _ m1 m6).mono ?_
  rintro e w' ⟨rfl, rfl⟩
  go_wp2_with fail
  refine (HD.out _).mono ?_
  rintro e w1 ⟨rfl, hb1⟩
  have b1 : Below w.heap.size w w1 := bl2 hb1 Bk.be
  have z1 := b1.size
  repeat (rename Bk.Blk w _ _ _ => hq; (first | (have hq' := Bk.Blk.carry hq hb1 (by (repeat (first | with_reducible refine Bk.Blk.drew ?_ | with_reducible refine Bk.Blk.set_same ?_ | with_reducible refine Bk.Blk.set_ne ?_ (by omega) | with_reducible refine Bk.Blk.alloc ?_)); (with_reducible exact hq))) | (have hq' := Bk.Blk.later hb1 (Bk.Blk.set2 hq)) | skip); clear hq)
  try (have hn := Bk.nx ((w).heap.size) hb1)
  try (have hn := Bk.nx ((w).heap.size + 1) hb1)
  try (have hn := Bk.nx ((w).heap.size + 2) hb1)
  try (have hn := Bk.nx ((w).heap.size + 3) hb1)
  clear hb1
  repeat (rename World.cell? w _ = _ => hq; clear hq)
  repeat (rename World.frozen? w _ = _ => hq; clear hq)
  repeat (rename Bk.Blk w1 _ _ _ => hq; (first | (have _k0 := (hq).c0; have _m0 := (hq).f0) | skip); (first | (have _k1 := (hq).c1; have _m1 := (hq).f1) | skip); (first | (have _k2 := (hq).c2; have _m2 := (hq).f2) | skip); (first | (have _k3 := (hq).c3; have _m3 := (hq).f3) | skip); have _z := (hq).lt; have hk := Bk.Kept.mk hq; clear hq)
  repeat (rename Bk.Kept (Bk.Blk w1 _ _ _) => hq; have hq' := hq.out; clear hq)
  go_wp2_with fail
  have hn := Bk.Blk.nw10 (W := w1) (cs := #[.int .i64 (hi q), .int .u64 (lo q)]) (t := 89)
  have hb2 : Below (w1).heap.size w1 ((w1).alloc (.cells #[.int .i64 (hi q), .int .u64 (lo q)] 89)) := (Below.refl _ _).alloc (Nat.le_refl _) _
  generalize (w1).alloc (.cells #[.int .i64 (hi q), .int .u64 (lo q)] 89) = w2 at *
  have b2 : Below w.heap.size w w2 := bl2 hb2 Bk.be
  have z2 := b2.size
  repeat (rename Bk.Blk w1 _ _ _ => hq; (first | (have hq' := Bk.Blk.carry hq hb2 (by (repeat (first | with_reducible refine Bk.Blk.drew ?_ | with_reducible refine Bk.Blk.set_same ?_ | with_reducible refine Bk.Blk.set_ne ?_ (by omega) | with_reducible refine Bk.Blk.alloc ?_)); (with_reducible exact hq))) | (have hq' := Bk.Blk.later hb2 (Bk.Blk.set2 hq)) | skip); clear hq)
  try (have hn := Bk.nx ((w1).heap.size) hb2)
  try (have hn := Bk.nx ((w1).heap.size + 1) hb2)
  try (have hn := Bk.nx ((w1).heap.size + 2) hb2)
  try (have hn := Bk.nx ((w1).heap.size + 3) hb2)
  clear hb2
  repeat (rename World.cell? w1 _ = _ => hq; clear hq)
  repeat (rename World.frozen? w1 _ = _ => hq; clear hq)
  repeat (rename Bk.Blk w2 _ _ _ => hq; (first | (have _k0 := (hq).c0; have _m0 := (hq).f0) | skip); (first | (have _k1 := (hq).c1; have _m1 := (hq).f1) | skip); (first | (have _k2 := (hq).c2; have _m2 := (hq).f2) | skip); (first | (have _k3 := (hq).c3; have _m3 := (hq).f3) | skip); have _z := (hq).lt; have hk := Bk.Kept.mk hq; clear hq)
  repeat (rename Bk.Kept (Bk.Blk w2 _ _ _) => hq; have hq' := hq.out; clear hq)
  repeat (rename Bk.Blk w2 _ _ _ => hq; (first | (have _q0 := (hq).q0) | skip); (first | (have _q1 := (hq).q1) | skip); (first | (have _q2 := (hq).q2) | skip); (first | (have _q3 := (hq).q3) | skip); have hk := Bk.Kept.mk hq; clear hq)
  repeat (rename Bk.Kept (Bk.Blk w2 _ _ _) => hq; have hq' := hq.out; clear hq)
  refine Reg.region_tail_e 11 [(10, 11)] (by kernel_rfl) (by kernel_rfl) (by kernel_rfl) (fun d _ _ _ _ h => by cases d <;> exact h) ?_
  simp only [Reg.edges, Reg.edge, List.take_succ_cons, List.take_zero]
  iterate 11 (first | go_big_quiet_skip | (go_big_quiet_want; (first | (go_big_quiet_op; go_big_quiet_on) | (apply Reg.quiet_run; (intro W hW; skip; go_simp; (first | done | rfl | exact ⟨rfl, rfl⟩ )); (simp only [Act.put, List.setIfInBounds_toArray, List.set_cons_zero, List.set_cons_succ]; go_big_quiet_on)) | (apply Reg.quiet_call; (intro W hW; go_simp; (first | done | rfl | exact ⟨rfl, rfl⟩)); (intro W hW; (first  | (go_at_call 81; exact Reg.cls_call hW (HM.out _ (hS.of (bl2 hW b2)))) | (go_at_call 80; exact Reg.cls_call hW (HO.out _)) | (go_at_call 79; exact Reg.cls_call hW (HA.out _)))); (simp only [Act.put, List.setIfInBounds_toArray, List.set_cons_zero, List.set_cons_succ]; go_big_quiet_on)))))
  repeat (rename ∀ W', Reg.Cls w2 W' → _ => hq; clear hq)
  refine wpQuiet_nil ?_
  intro w3 hW
  have hb3 : Below (w2).heap.size w2 w3 := hW
  clear hW
  have b3 : Below w.heap.size w w3 := bl2 hb3 Bk.be
  have z3 := b3.size
  repeat (rename Bk.Blk w2 _ _ _ => hq; (first | (have hq' := Bk.Blk.carry hq hb3 (by (repeat (first | with_reducible refine Bk.Blk.drew ?_ | with_reducible refine Bk.Blk.set_same ?_ | with_reducible refine Bk.Blk.set_ne ?_ (by omega) | with_reducible refine Bk.Blk.alloc ?_)); (with_reducible exact hq))) | (have hq' := Bk.Blk.later hb3 (Bk.Blk.set2 hq)) | skip); clear hq)
  try (have hn := Bk.nx ((w2).heap.size) hb3)
  try (have hn := Bk.nx ((w2).heap.size + 1) hb3)
  try (have hn := Bk.nx ((w2).heap.size + 2) hb3)
  try (have hn := Bk.nx ((w2).heap.size + 3) hb3)
  clear hb3
  repeat (rename World.cell? w2 _ = _ => hq; clear hq)
  repeat (rename World.frozen? w2 _ = _ => hq; clear hq)
  repeat (rename Bk.Blk w3 _ _ _ => hq; (first | (have _k0 := (hq).c0; have _m0 := (hq).f0) | skip); (first | (have _k1 := (hq).c1; have _m1 := (hq).f1) | skip); (first | (have _k2 := (hq).c2; have _m2 := (hq).f2) | skip); (first | (have _k3 := (hq).c3; have _m3 := (hq).f3) | skip); have _z := (hq).lt; have hk := Bk.Kept.mk hq; clear hq)
  repeat (rename Bk.Kept (Bk.Blk w3 _ _ _) => hq; have hq' := hq.out; clear hq)
  simp only [List.drop_succ_cons, List.drop_zero]
  go_wp2_with fail
  refine (HI.out _).mono ?_
  rintro e w4 ⟨rfl, hb4⟩
  have b4 : Below w.heap.size w w4 := bl2 hb4 Bk.be
  have z4 := b4.size
  repeat (rename Bk.Blk w3 _ _ _ => hq; (first | (have hq' := Bk.Blk.carry hq hb4 (by (repeat (first | with_reducible refine Bk.Blk.drew ?_ | with_reducible refine Bk.Blk.set_same ?_ | with_reducible refine Bk.Blk.set_ne ?_ (by omega) | with_reducible refine Bk.Blk.alloc ?_)); (with_reducible exact hq))) | (have hq' := Bk.Blk.later hb4 (Bk.Blk.set2 hq)) | skip); clear hq)
  try (have hn := Bk.nx ((w3).heap.size) hb4)
  try (have hn := Bk.nx ((w3).heap.size + 1) hb4)
  try (have hn := Bk.nx ((w3).heap.size + 2) hb4)
  try (have hn := Bk.nx ((w3).heap.size + 3) hb4)
  clear hb4
  repeat (rename World.cell? w3 _ = _ => hq; clear hq)
  repeat (rename World.frozen? w3 _ = _ => hq; clear hq)
  repeat (rename Bk.Blk w4 _ _ _ => hq; (first | (have _k0 := (hq).c0; have _m0 := (hq).f0) | skip); (first | (have _k1 := (hq).c1; have _m1 := (hq).f1) | skip); (first | (have _k2 := (hq).c2; have _m2 := (hq).f2) | skip); (first | (have _k3 := (hq).c3; have _m3 := (hq).f3) | skip); have _z := (hq).lt; have hk := Bk.Kept.mk hq; clear hq)
  repeat (rename Bk.Kept (Bk.Blk w4 _ _ _) => hq; have hq' := hq.out; clear hq)
  go_wp2_with fail
  go_ret2
  rw [← HQ.out]
  first | exact dpost_in H.out HV.out Bk.be | exact dpost_out H.out HV.out Bk.be
theorem rd_any (x n mode : Int) (w : World) (hS : Stp w) (hx : I128 x) (hn : I64 n) : Calls Tryz.prog 51 #[.agg #[.int .i64 (hi x), .int .u64 (lo x)], .int .i64 n, .int .i64 mode] w (DPost x n mode w) := by
 by_cases h : rok n mode
 ·by_cases hr : 0 < x % n
  ·exact rd_step_walk x n mode w hS hx hn h hr
  ·exact rd_exact_walk x n mode w hx hn h hr
 ·exact rd_bad x n mode w h
end Go.Proofs.YtaanicginfjgdaaGreatDoor.Rd
