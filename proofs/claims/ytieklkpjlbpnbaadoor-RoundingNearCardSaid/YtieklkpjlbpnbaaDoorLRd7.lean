/-
  The walk of the statement RoundingNear: it returns true, for every argument.
-/
import Derived.Test.YtieklkpjlbpnbaaDoorLRd6
namespace Go.Proofs.YtieklkpjlbpnbaaDoor.Sp
open Go.RowKit
open Go.Proofs.YtieklkpjlbpnbaaDoor
open Go.Proofs.YtieklkpjlbpnbaaDoor.Wm Go.Proofs.YtieklkpjlbpnbaaDoor.Wt Go.Proofs.YtieklkpjlbpnbaaDoor.Rd

set_option maxHeartbeats 8000000 in
theorem near_bad (x n m : Int) (w : World) (hS : Stp w) (hx : I128 x) (hn : I64 n) (h : ¬ rok n m) :
    Calls Tryd.prog 9 #[.agg #[.int .i64 (hi x), .int .u64 (lo x)], .int .i64 n, .int .i64 m] w fun e w' => e = .returned (.bool true) ∧ Below w.heap.size w w' := by
  have b0 := Below.refl w.heap.size w
  have HL := Lib.hid (fun (W : World) (hS : Stp W) => live_any W hS)
  have h1 := fun (W : World) (hS : Stp W) => rd_any x n m W hS hx hn
  unfold DPost at h1
  rw [(rd_no h).1, (rd_no h).2] at h1
  have H1 := Lib.hid h1
  clear h1 hx hn
  by_cases h0 : n < 1
  · clear h
    go_enter Tryd.func9, Tryd.ntmps9
    go_wp2_with fail
    refine (H1.out _ (hS.of (by repeat (first | assumption | exact Below.refl _ _ | refine Below.setCell ?_ (by first | exact Nat.le_refl _ | (simp; done) | (simp; omega) | omega) _ | refine Below.alloc ?_ (by first | exact Nat.le_refl _ | (simp; done) | (simp; omega) | omega) _ | refine Below.drew ?_ | exact Nat.le_refl _)))).mono ?_
    rintro e w1 ⟨rfl, hb1⟩
    have b1 : Below w.heap.size w w1 := bl2 hb1 (by repeat (first | assumption | exact Below.refl _ _ | refine Below.setCell ?_ (by first | exact Nat.le_refl _ | (simp; done) | (simp; omega) | omega) _ | refine Below.alloc ?_ (by first | exact Nat.le_refl _ | (simp; done) | (simp; omega) | omega) _ | refine Below.drew ?_ | exact Nat.le_refl _))
    have z1 := b1.size
    repeat (rename Bk.Blk w _ _ _ => hq; (first | (have hq' := Bk.Blk.carry hq hb1 (by (repeat (first | with_reducible refine Bk.Blk.drew ?_ | with_reducible refine Bk.Blk.set_same ?_ | with_reducible refine Bk.Blk.set_ne ?_ (by omega) | with_reducible refine Bk.Blk.alloc ?_)); (with_reducible exact hq))) | (have hq' := Bk.Blk.later hb1 (Bk.Blk.set2 hq)) | skip); clear hq)
    try (have hn := Bk.Blk.later (g := (w).heap.size) hb1 (by first | with_reducible exact Bk.Blk.nw10 | with_reducible exact Bk.Blk.nw20 | with_reducible exact Bk.Blk.nw21 | with_reducible exact Bk.Blk.nw30 | with_reducible exact Bk.Blk.nw31 | with_reducible exact Bk.Blk.nw32 | with_reducible exact Bk.Blk.nw40 | with_reducible exact Bk.Blk.nw41 | with_reducible exact Bk.Blk.nw42 | with_reducible exact Bk.Blk.nw43))
    try (have hn := Bk.Blk.later (g := (w).heap.size + 1) hb1 (by first | with_reducible exact Bk.Blk.nw10 | with_reducible exact Bk.Blk.nw20 | with_reducible exact Bk.Blk.nw21 | with_reducible exact Bk.Blk.nw30 | with_reducible exact Bk.Blk.nw31 | with_reducible exact Bk.Blk.nw32 | with_reducible exact Bk.Blk.nw40 | with_reducible exact Bk.Blk.nw41 | with_reducible exact Bk.Blk.nw42 | with_reducible exact Bk.Blk.nw43))
    try (have hn := Bk.Blk.later (g := (w).heap.size + 2) hb1 (by first | with_reducible exact Bk.Blk.nw10 | with_reducible exact Bk.Blk.nw20 | with_reducible exact Bk.Blk.nw21 | with_reducible exact Bk.Blk.nw30 | with_reducible exact Bk.Blk.nw31 | with_reducible exact Bk.Blk.nw32 | with_reducible exact Bk.Blk.nw40 | with_reducible exact Bk.Blk.nw41 | with_reducible exact Bk.Blk.nw42 | with_reducible exact Bk.Blk.nw43))
    try (have hn := Bk.Blk.later (g := (w).heap.size + 3) hb1 (by first | with_reducible exact Bk.Blk.nw10 | with_reducible exact Bk.Blk.nw20 | with_reducible exact Bk.Blk.nw21 | with_reducible exact Bk.Blk.nw30 | with_reducible exact Bk.Blk.nw31 | with_reducible exact Bk.Blk.nw32 | with_reducible exact Bk.Blk.nw40 | with_reducible exact Bk.Blk.nw41 | with_reducible exact Bk.Blk.nw42 | with_reducible exact Bk.Blk.nw43))
    clear hb1
    repeat (rename World.cell? w _ = _ => hq; clear hq)
    repeat (rename World.frozen? w _ = _ => hq; clear hq)
    repeat (rename Bk.Blk w1 _ _ _ => hq; (first | (have _k0 := (hq).c0; have _m0 := (hq).f0) | skip); (first | (have _k1 := (hq).c1; have _m1 := (hq).f1) | skip); (first | (have _k2 := (hq).c2; have _m2 := (hq).f2) | skip); (first | (have _k3 := (hq).c3; have _m3 := (hq).f3) | skip); have _z := (hq).lt; have hk := Bk.Kept.mk hq; clear hq)
    repeat (rename Bk.Kept (Bk.Blk w1 _ _ _) => hq; have hq' := hq.out; clear hq)
    go_wp2_with fail
    refine (HL.out _ (hS.of (by repeat (first | assumption | exact Below.refl _ _ | refine Below.setCell ?_ (by first | exact Nat.le_refl _ | (simp; done) | (simp; omega) | omega) _ | refine Below.alloc ?_ (by first | exact Nat.le_refl _ | (simp; done) | (simp; omega) | omega) _ | refine Below.drew ?_ | exact Nat.le_refl _)))).mono ?_
    rintro e w2 ⟨rfl, hb2⟩
    have b2 : Below w.heap.size w w2 := bl2 hb2 (by repeat (first | assumption | exact Below.refl _ _ | refine Below.setCell ?_ (by first | exact Nat.le_refl _ | (simp; done) | (simp; omega) | omega) _ | refine Below.alloc ?_ (by first | exact Nat.le_refl _ | (simp; done) | (simp; omega) | omega) _ | refine Below.drew ?_ | exact Nat.le_refl _))
    have z2 := b2.size
    repeat (rename Bk.Blk w1 _ _ _ => hq; (first | (have hq' := Bk.Blk.carry hq hb2 (by (repeat (first | with_reducible refine Bk.Blk.drew ?_ | with_reducible refine Bk.Blk.set_same ?_ | with_reducible refine Bk.Blk.set_ne ?_ (by omega) | with_reducible refine Bk.Blk.alloc ?_)); (with_reducible exact hq))) | (have hq' := Bk.Blk.later hb2 (Bk.Blk.set2 hq)) | skip); clear hq)
    try (have hn := Bk.Blk.later (g := (w1).heap.size) hb2 (by first | with_reducible exact Bk.Blk.nw10 | with_reducible exact Bk.Blk.nw20 | with_reducible exact Bk.Blk.nw21 | with_reducible exact Bk.Blk.nw30 | with_reducible exact Bk.Blk.nw31 | with_reducible exact Bk.Blk.nw32 | with_reducible exact Bk.Blk.nw40 | with_reducible exact Bk.Blk.nw41 | with_reducible exact Bk.Blk.nw42 | with_reducible exact Bk.Blk.nw43))
    try (have hn := Bk.Blk.later (g := (w1).heap.size + 1) hb2 (by first | with_reducible exact Bk.Blk.nw10 | with_reducible exact Bk.Blk.nw20 | with_reducible exact Bk.Blk.nw21 | with_reducible exact Bk.Blk.nw30 | with_reducible exact Bk.Blk.nw31 | with_reducible exact Bk.Blk.nw32 | with_reducible exact Bk.Blk.nw40 | with_reducible exact Bk.Blk.nw41 | with_reducible exact Bk.Blk.nw42 | with_reducible exact Bk.Blk.nw43))
    try (have hn := Bk.Blk.later (g := (w1).heap.size + 2) hb2 (by first | with_reducible exact Bk.Blk.nw10 | with_reducible exact Bk.Blk.nw20 | with_reducible exact Bk.Blk.nw21 | with_reducible exact Bk.Blk.nw30 | with_reducible exact Bk.Blk.nw31 | with_reducible exact Bk.Blk.nw32 | with_reducible exact Bk.Blk.nw40 | with_reducible exact Bk.Blk.nw41 | with_reducible exact Bk.Blk.nw42 | with_reducible exact Bk.Blk.nw43))
    try (have hn := Bk.Blk.later (g := (w1).heap.size + 3) hb2 (by first | with_reducible exact Bk.Blk.nw10 | with_reducible exact Bk.Blk.nw20 | with_reducible exact Bk.Blk.nw21 | with_reducible exact Bk.Blk.nw30 | with_reducible exact Bk.Blk.nw31 | with_reducible exact Bk.Blk.nw32 | with_reducible exact Bk.Blk.nw40 | with_reducible exact Bk.Blk.nw41 | with_reducible exact Bk.Blk.nw42 | with_reducible exact Bk.Blk.nw43))
    clear hb2
    repeat (rename World.cell? w1 _ = _ => hq; clear hq)
    repeat (rename World.frozen? w1 _ = _ => hq; clear hq)
    repeat (rename Bk.Blk w2 _ _ _ => hq; (first | (have _k0 := (hq).c0; have _m0 := (hq).f0) | skip); (first | (have _k1 := (hq).c1; have _m1 := (hq).f1) | skip); (first | (have _k2 := (hq).c2; have _m2 := (hq).f2) | skip); (first | (have _k3 := (hq).c3; have _m3 := (hq).f3) | skip); have _z := (hq).lt; have hk := Bk.Kept.mk hq; clear hq)
    repeat (rename Bk.Kept (Bk.Blk w2 _ _ _) => hq; have hq' := hq.out; clear hq)
    go_wp2_with fail
    go_ret
    exact ⟨rfl, (by repeat (first | assumption | exact Below.refl _ _ | refine Below.setCell ?_ (by first | exact Nat.le_refl _ | (simp; done) | (simp; omega) | omega) _ | refine Below.alloc ?_ (by first | exact Nat.le_refl _ | (simp; done) | (simp; omega) | omega) _ | refine Below.drew ?_ | exact Nat.le_refl _))⟩
  · have hm : m < 1 ∨ 6 < m := by unfold rok at h; omega
    have HV := Lib.hid (fun (W : World) => rvalid_no m W hm)
    have h00 : 1 ≤ n := by omega
    clear h h0 hm
    go_enter Tryd.func9, Tryd.ntmps9
    go_wp2_with fail
    refine (H1.out _ (hS.of (by repeat (first | assumption | exact Below.refl _ _ | refine Below.setCell ?_ (by first | exact Nat.le_refl _ | (simp; done) | (simp; omega) | omega) _ | refine Below.alloc ?_ (by first | exact Nat.le_refl _ | (simp; done) | (simp; omega) | omega) _ | refine Below.drew ?_ | exact Nat.le_refl _)))).mono ?_
    rintro e w1 ⟨rfl, hb1⟩
    have b1 : Below w.heap.size w w1 := bl2 hb1 (by repeat (first | assumption | exact Below.refl _ _ | refine Below.setCell ?_ (by first | exact Nat.le_refl _ | (simp; done) | (simp; omega) | omega) _ | refine Below.alloc ?_ (by first | exact Nat.le_refl _ | (simp; done) | (simp; omega) | omega) _ | refine Below.drew ?_ | exact Nat.le_refl _))
    have z1 := b1.size
    repeat (rename Bk.Blk w _ _ _ => hq; (first | (have hq' := Bk.Blk.carry hq hb1 (by (repeat (first | with_reducible refine Bk.Blk.drew ?_ | with_reducible refine Bk.Blk.set_same ?_ | with_reducible refine Bk.Blk.set_ne ?_ (by omega) | with_reducible refine Bk.Blk.alloc ?_)); (with_reducible exact hq))) | (have hq' := Bk.Blk.later hb1 (Bk.Blk.set2 hq)) | skip); clear hq)
    try (have hn := Bk.Blk.later (g := (w).heap.size) hb1 (by first | with_reducible exact Bk.Blk.nw10 | with_reducible exact Bk.Blk.nw20 | with_reducible exact Bk.Blk.nw21 | with_reducible exact Bk.Blk.nw30 | with_reducible exact Bk.Blk.nw31 | with_reducible exact Bk.Blk.nw32 | with_reducible exact Bk.Blk.nw40 | with_reducible exact Bk.Blk.nw41 | with_reducible exact Bk.Blk.nw42 | with_reducible exact Bk.Blk.nw43))
    try (have hn := Bk.Blk.later (g := (w).heap.size + 1) hb1 (by first | with_reducible exact Bk.Blk.nw10 | with_reducible exact Bk.Blk.nw20 | with_reducible exact Bk.Blk.nw21 | with_reducible exact Bk.Blk.nw30 | with_reducible exact Bk.Blk.nw31 | with_reducible exact Bk.Blk.nw32 | with_reducible exact Bk.Blk.nw40 | with_reducible exact Bk.Blk.nw41 | with_reducible exact Bk.Blk.nw42 | with_reducible exact Bk.Blk.nw43))
    try (have hn := Bk.Blk.later (g := (w).heap.size + 2) hb1 (by first | with_reducible exact Bk.Blk.nw10 | with_reducible exact Bk.Blk.nw20 | with_reducible exact Bk.Blk.nw21 | with_reducible exact Bk.Blk.nw30 | with_reducible exact Bk.Blk.nw31 | with_reducible exact Bk.Blk.nw32 | with_reducible exact Bk.Blk.nw40 | with_reducible exact Bk.Blk.nw41 | with_reducible exact Bk.Blk.nw42 | with_reducible exact Bk.Blk.nw43))
    try (have hn := Bk.Blk.later (g := (w).heap.size + 3) hb1 (by first | with_reducible exact Bk.Blk.nw10 | with_reducible exact Bk.Blk.nw20 | with_reducible exact Bk.Blk.nw21 | with_reducible exact Bk.Blk.nw30 | with_reducible exact Bk.Blk.nw31 | with_reducible exact Bk.Blk.nw32 | with_reducible exact Bk.Blk.nw40 | with_reducible exact Bk.Blk.nw41 | with_reducible exact Bk.Blk.nw42 | with_reducible exact Bk.Blk.nw43))
    clear hb1
    repeat (rename World.cell? w _ = _ => hq; clear hq)
    repeat (rename World.frozen? w _ = _ => hq; clear hq)
    repeat (rename Bk.Blk w1 _ _ _ => hq; (first | (have _k0 := (hq).c0; have _m0 := (hq).f0) | skip); (first | (have _k1 := (hq).c1; have _m1 := (hq).f1) | skip); (first | (have _k2 := (hq).c2; have _m2 := (hq).f2) | skip); (first | (have _k3 := (hq).c3; have _m3 := (hq).f3) | skip); have _z := (hq).lt; have hk := Bk.Kept.mk hq; clear hq)
    repeat (rename Bk.Kept (Bk.Blk w1 _ _ _) => hq; have hq' := hq.out; clear hq)
    go_wp2_with fail
    refine (HV.out _).mono ?_
    rintro e w' ⟨rfl, rfl⟩
    go_wp2_with fail
    refine (HL.out _ (hS.of (by repeat (first | assumption | exact Below.refl _ _ | refine Below.setCell ?_ (by first | exact Nat.le_refl _ | (simp; done) | (simp; omega) | omega) _ | refine Below.alloc ?_ (by first | exact Nat.le_refl _ | (simp; done) | (simp; omega) | omega) _ | refine Below.drew ?_ | exact Nat.le_refl _)))).mono ?_
    rintro e w2 ⟨rfl, hb2⟩
    have b2 : Below w.heap.size w w2 := bl2 hb2 (by repeat (first | assumption | exact Below.refl _ _ | refine Below.setCell ?_ (by first | exact Nat.le_refl _ | (simp; done) | (simp; omega) | omega) _ | refine Below.alloc ?_ (by first | exact Nat.le_refl _ | (simp; done) | (simp; omega) | omega) _ | refine Below.drew ?_ | exact Nat.le_refl _))
    have z2 := b2.size
    repeat (rename Bk.Blk w1 _ _ _ => hq; (first | (have hq' := Bk.Blk.carry hq hb2 (by (repeat (first | with_reducible refine Bk.Blk.drew ?_ | with_reducible refine Bk.Blk.set_same ?_ | with_reducible refine Bk.Blk.set_ne ?_ (by omega) | with_reducible refine Bk.Blk.alloc ?_)); (with_reducible exact hq))) | (have hq' := Bk.Blk.later hb2 (Bk.Blk.set2 hq)) | skip); clear hq)
    try (have hn := Bk.Blk.later (g := (w1).heap.size) hb2 (by first | with_reducible exact Bk.Blk.nw10 | with_reducible exact Bk.Blk.nw20 | with_reducible exact Bk.Blk.nw21 | with_reducible exact Bk.Blk.nw30 | with_reducible exact Bk.Blk.nw31 | with_reducible exact Bk.Blk.nw32 | with_reducible exact Bk.Blk.nw40 | with_reducible exact Bk.Blk.nw41 | with_reducible exact Bk.Blk.nw42 | with_reducible exact Bk.Blk.nw43))
    try (have hn := Bk.Blk.later (g := (w1).heap.size + 1) hb2 (by first | with_reducible exact Bk.Blk.nw10 | with_reducible exact Bk.Blk.nw20 | with_reducible exact Bk.Blk.nw21 | with_reducible exact Bk.Blk.nw30 | with_reducible exact Bk.Blk.nw31 | with_reducible exact Bk.Blk.nw32 | with_reducible exact Bk.Blk.nw40 | with_reducible exact Bk.Blk.nw41 | with_reducible exact Bk.Blk.nw42 | with_reducible exact Bk.Blk.nw43))
    try (have hn := Bk.Blk.later (g := (w1).heap.size + 2) hb2 (by first | with_reducible exact Bk.Blk.nw10 | with_reducible exact Bk.Blk.nw20 | with_reducible exact Bk.Blk.nw21 | with_reducible exact Bk.Blk.nw30 | with_reducible exact Bk.Blk.nw31 | with_reducible exact Bk.Blk.nw32 | with_reducible exact Bk.Blk.nw40 | with_reducible exact Bk.Blk.nw41 | with_reducible exact Bk.Blk.nw42 | with_reducible exact Bk.Blk.nw43))
    try (have hn := Bk.Blk.later (g := (w1).heap.size + 3) hb2 (by first | with_reducible exact Bk.Blk.nw10 | with_reducible exact Bk.Blk.nw20 | with_reducible exact Bk.Blk.nw21 | with_reducible exact Bk.Blk.nw30 | with_reducible exact Bk.Blk.nw31 | with_reducible exact Bk.Blk.nw32 | with_reducible exact Bk.Blk.nw40 | with_reducible exact Bk.Blk.nw41 | with_reducible exact Bk.Blk.nw42 | with_reducible exact Bk.Blk.nw43))
    clear hb2
    repeat (rename World.cell? w1 _ = _ => hq; clear hq)
    repeat (rename World.frozen? w1 _ = _ => hq; clear hq)
    repeat (rename Bk.Blk w2 _ _ _ => hq; (first | (have _k0 := (hq).c0; have _m0 := (hq).f0) | skip); (first | (have _k1 := (hq).c1; have _m1 := (hq).f1) | skip); (first | (have _k2 := (hq).c2; have _m2 := (hq).f2) | skip); (first | (have _k3 := (hq).c3; have _m3 := (hq).f3) | skip); have _z := (hq).lt; have hk := Bk.Kept.mk hq; clear hq)
    repeat (rename Bk.Kept (Bk.Blk w2 _ _ _) => hq; have hq' := hq.out; clear hq)
    go_wp2_with fail
    go_ret
    exact ⟨rfl, (by repeat (first | assumption | exact Below.refl _ _ | refine Below.setCell ?_ (by first | exact Nat.le_refl _ | (simp; done) | (simp; omega) | omega) _ | refine Below.alloc ?_ (by first | exact Nat.le_refl _ | (simp; done) | (simp; omega) | omega) _ | refine Below.drew ?_ | exact Nat.le_refl _))⟩
set_option maxHeartbeats 8000000 in
theorem near_over (x n m : Int) (w : World) (hS : Stp w) (hx : I128 x) (hn : I64 n) (h : rok n m) (hv : ¬ I64 (rd x n m)) :
    Calls Tryd.prog 9 #[.agg #[.int .i64 (hi x), .int .u64 (lo x)], .int .i64 n, .int .i64 m] w fun e w' => e = .returned (.bool true) ∧ Below w.heap.size w w' := by
  have b0 := Below.refl w.heap.size w
  have HL := Lib.hid (fun (W : World) (hS : Stp W) => live_any W hS)
  have h1 := fun (W : World) (hS : Stp W) => rd_any x n m W hS hx hn
  unfold DPost at h1
  have hiv : iin (rd x n m) = false := decide_eq_false hv
  rw [(rd_yes h).1, (rd_yes h).2, hiv, show ifit (rd x n m) = 0 from if_neg hv] at h1
  obtain ⟨n1, m1, m6⟩ := h
  have hd := fun (W : World) => rdiv_any x n W hx hn
  rw [show dq x n = x / n from if_neg (by omega), show dr x n = x % n from if_neg (by omega), show de n = 0 from if_neg (by omega)] at hd
  have hi := fun (W : World) => rint_any (x / n) W
  have hcase : (ifit (x / n) = 9223372036854775807 ∧ iin (x / n) = true) ∨ iin (x / n) = false := by
    by_cases hq : I64 (x / n)
    · refine .inl ⟨?_, decide_eq_true hq⟩
      rw [show ifit (x / n) = x / n from if_pos hq]
      have hb := moreI_bd (decide (x < 0)) (decide (x / n % 2 = 1)) (x % n) n m
      by_cases hr : 0 < x % n
      · rw [rd_step hr] at hv
        unfold I64 at *
        omega
      · rw [rd_exact hr] at hv
        exact absurd hq hv
    · exact .inr (decide_eq_false hq)
  have H1 := Lib.hid h1
  have HD := Lib.hid hd
  have HV := Lib.hid (fun (W : World) => rvalid_yes m W m1 m6)
  clear h1 hd hx hn hv hiv
  rcases hcase with ⟨e1, e2⟩ | e2
  · rw [e1, e2] at hi
    have HI := Lib.hid hi
    clear e1 e2 hi
    generalize x / n = q at *
    generalize x % n = r at *
    go_enter Tryd.func9, Tryd.ntmps9
    go_wp2_with fail
    refine (H1.out _ (hS.of (by repeat (first | assumption | exact Below.refl _ _ | refine Below.setCell ?_ (by first | exact Nat.le_refl _ | (simp; done) | (simp; omega) | omega) _ | refine Below.alloc ?_ (by first | exact Nat.le_refl _ | (simp; done) | (simp; omega) | omega) _ | refine Below.drew ?_ | exact Nat.le_refl _)))).mono ?_
    rintro e w1 ⟨rfl, hb1⟩
    have b1 : Below w.heap.size w w1 := bl2 hb1 (by repeat (first | assumption | exact Below.refl _ _ | refine Below.setCell ?_ (by first | exact Nat.le_refl _ | (simp; done) | (simp; omega) | omega) _ | refine Below.alloc ?_ (by first | exact Nat.le_refl _ | (simp; done) | (simp; omega) | omega) _ | refine Below.drew ?_ | exact Nat.le_refl _))
    have z1 := b1.size
    repeat (rename Bk.Blk w _ _ _ => hq; (first | (have hq' := Bk.Blk.carry hq hb1 (by (repeat (first | with_reducible refine Bk.Blk.drew ?_ | with_reducible refine Bk.Blk.set_same ?_ | with_reducible refine Bk.Blk.set_ne ?_ (by omega) | with_reducible refine Bk.Blk.alloc ?_)); (with_reducible exact hq))) | (have hq' := Bk.Blk.later hb1 (Bk.Blk.set2 hq)) | skip); clear hq)
    try (have hn := Bk.Blk.later (g := (w).heap.size) hb1 (by first | with_reducible exact Bk.Blk.nw10 | with_reducible exact Bk.Blk.nw20 | with_reducible exact Bk.Blk.nw21 | with_reducible exact Bk.Blk.nw30 | with_reducible exact Bk.Blk.nw31 | with_reducible exact Bk.Blk.nw32 | with_reducible exact Bk.Blk.nw40 | with_reducible exact Bk.Blk.nw41 | with_reducible exact Bk.Blk.nw42 | with_reducible exact Bk.Blk.nw43))
    try (have hn := Bk.Blk.later (g := (w).heap.size + 1) hb1 (by first | with_reducible exact Bk.Blk.nw10 | with_reducible exact Bk.Blk.nw20 | with_reducible exact Bk.Blk.nw21 | with_reducible exact Bk.Blk.nw30 | with_reducible exact Bk.Blk.nw31 | with_reducible exact Bk.Blk.nw32 | with_reducible exact Bk.Blk.nw40 | with_reducible exact Bk.Blk.nw41 | with_reducible exact Bk.Blk.nw42 | with_reducible exact Bk.Blk.nw43))
    try (have hn := Bk.Blk.later (g := (w).heap.size + 2) hb1 (by first | with_reducible exact Bk.Blk.nw10 | with_reducible exact Bk.Blk.nw20 | with_reducible exact Bk.Blk.nw21 | with_reducible exact Bk.Blk.nw30 | with_reducible exact Bk.Blk.nw31 | with_reducible exact Bk.Blk.nw32 | with_reducible exact Bk.Blk.nw40 | with_reducible exact Bk.Blk.nw41 | with_reducible exact Bk.Blk.nw42 | with_reducible exact Bk.Blk.nw43))
    try (have hn := Bk.Blk.later (g := (w).heap.size + 3) hb1 (by first | with_reducible exact Bk.Blk.nw10 | with_reducible exact Bk.Blk.nw20 | with_reducible exact Bk.Blk.nw21 | with_reducible exact Bk.Blk.nw30 | with_reducible exact Bk.Blk.nw31 | with_reducible exact Bk.Blk.nw32 | with_reducible exact Bk.Blk.nw40 | with_reducible exact Bk.Blk.nw41 | with_reducible exact Bk.Blk.nw42 | with_reducible exact Bk.Blk.nw43))
    clear hb1
    repeat (rename World.cell? w _ = _ => hq; clear hq)
    repeat (rename World.frozen? w _ = _ => hq; clear hq)
    repeat (rename Bk.Blk w1 _ _ _ => hq; (first | (have _k0 := (hq).c0; have _m0 := (hq).f0) | skip); (first | (have _k1 := (hq).c1; have _m1 := (hq).f1) | skip); (first | (have _k2 := (hq).c2; have _m2 := (hq).f2) | skip); (first | (have _k3 := (hq).c3; have _m3 := (hq).f3) | skip); have _z := (hq).lt; have hk := Bk.Kept.mk hq; clear hq)
    repeat (rename Bk.Kept (Bk.Blk w1 _ _ _) => hq; have hq' := hq.out; clear hq)
    go_wp2_with fail
    refine (HV.out _).mono ?_
    rintro e w' ⟨rfl, rfl⟩
    go_wp2_with fail
    refine (HD.out _).mono ?_
    rintro e w2 ⟨rfl, hb2⟩
    have b2 : Below w.heap.size w w2 := bl2 hb2 (by repeat (first | assumption | exact Below.refl _ _ | refine Below.setCell ?_ (by first | exact Nat.le_refl _ | (simp; done) | (simp; omega) | omega) _ | refine Below.alloc ?_ (by first | exact Nat.le_refl _ | (simp; done) | (simp; omega) | omega) _ | refine Below.drew ?_ | exact Nat.le_refl _))
    have z2 := b2.size
    repeat (rename Bk.Blk w1 _ _ _ => hq; (first | (have hq' := Bk.Blk.carry hq hb2 (by (repeat (first | with_reducible refine Bk.Blk.drew ?_ | with_reducible refine Bk.Blk.set_same ?_ | with_reducible refine Bk.Blk.set_ne ?_ (by omega) | with_reducible refine Bk.Blk.alloc ?_)); (with_reducible exact hq))) | (have hq' := Bk.Blk.later hb2 (Bk.Blk.set2 hq)) | skip); clear hq)
    try (have hn := Bk.Blk.later (g := (w1).heap.size) hb2 (by first | with_reducible exact Bk.Blk.nw10 | with_reducible exact Bk.Blk.nw20 | with_reducible exact Bk.Blk.nw21 | with_reducible exact Bk.Blk.nw30 | with_reducible exact Bk.Blk.nw31 | with_reducible exact Bk.Blk.nw32 | with_reducible exact Bk.Blk.nw40 | with_reducible exact Bk.Blk.nw41 | with_reducible exact Bk.Blk.nw42 | with_reducible exact Bk.Blk.nw43))
    try (have hn := Bk.Blk.later (g := (w1).heap.size + 1) hb2 (by first | with_reducible exact Bk.Blk.nw10 | with_reducible exact Bk.Blk.nw20 | with_reducible exact Bk.Blk.nw21 | with_reducible exact Bk.Blk.nw30 | with_reducible exact Bk.Blk.nw31 | with_reducible exact Bk.Blk.nw32 | with_reducible exact Bk.Blk.nw40 | with_reducible exact Bk.Blk.nw41 | with_reducible exact Bk.Blk.nw42 | with_reducible exact Bk.Blk.nw43))
    try (have hn := Bk.Blk.later (g := (w1).heap.size + 2) hb2 (by first | with_reducible exact Bk.Blk.nw10 | with_reducible exact Bk.Blk.nw20 | with_reducible exact Bk.Blk.nw21 | with_reducible exact Bk.Blk.nw30 | with_reducible exact Bk.Blk.nw31 | with_reducible exact Bk.Blk.nw32 | with_reducible exact Bk.Blk.nw40 | with_reducible exact Bk.Blk.nw41 | with_reducible exact Bk.Blk.nw42 | with_reducible exact Bk.Blk.nw43))
    try (have hn := Bk.Blk.later (g := (w1).heap.size + 3) hb2 (by first | with_reducible exact Bk.Blk.nw10 | with_reducible exact Bk.Blk.nw20 | with_reducible exact Bk.Blk.nw21 | with_reducible exact Bk.Blk.nw30 | with_reducible exact Bk.Blk.nw31 | with_reducible exact Bk.Blk.nw32 | with_reducible exact Bk.Blk.nw40 | with_reducible exact Bk.Blk.nw41 | with_reducible exact Bk.Blk.nw42 | with_reducible exact Bk.Blk.nw43))
    clear hb2
    repeat (rename World.cell? w1 _ = _ => hq; clear hq)
    repeat (rename World.frozen? w1 _ = _ => hq; clear hq)
    repeat (rename Bk.Blk w2 _ _ _ => hq; (first | (have _k0 := (hq).c0; have _m0 := (hq).f0) | skip); (first | (have _k1 := (hq).c1; have _m1 := (hq).f1) | skip); (first | (have _k2 := (hq).c2; have _m2 := (hq).f2) | skip); (first | (have _k3 := (hq).c3; have _m3 := (hq).f3) | skip); have _z := (hq).lt; have hk := Bk.Kept.mk hq; clear hq)
    repeat (rename Bk.Kept (Bk.Blk w2 _ _ _) => hq; have hq' := hq.out; clear hq)
    go_wp2_with fail
    refine (HI.out _).mono ?_
    rintro e w3 ⟨rfl, hb3⟩
    have b3 : Below w.heap.size w w3 := bl2 hb3 (by repeat (first | assumption | exact Below.refl _ _ | refine Below.setCell ?_ (by first | exact Nat.le_refl _ | (simp; done) | (simp; omega) | omega) _ | refine Below.alloc ?_ (by first | exact Nat.le_refl _ | (simp; done) | (simp; omega) | omega) _ | refine Below.drew ?_ | exact Nat.le_refl _))
    have z3 := b3.size
    repeat (rename Bk.Blk w2 _ _ _ => hq; (first | (have hq' := Bk.Blk.carry hq hb3 (by (repeat (first | with_reducible refine Bk.Blk.drew ?_ | with_reducible refine Bk.Blk.set_same ?_ | with_reducible refine Bk.Blk.set_ne ?_ (by omega) | with_reducible refine Bk.Blk.alloc ?_)); (with_reducible exact hq))) | (have hq' := Bk.Blk.later hb3 (Bk.Blk.set2 hq)) | skip); clear hq)
    try (have hn := Bk.Blk.later (g := (w2).heap.size) hb3 (by first | with_reducible exact Bk.Blk.nw10 | with_reducible exact Bk.Blk.nw20 | with_reducible exact Bk.Blk.nw21 | with_reducible exact Bk.Blk.nw30 | with_reducible exact Bk.Blk.nw31 | with_reducible exact Bk.Blk.nw32 | with_reducible exact Bk.Blk.nw40 | with_reducible exact Bk.Blk.nw41 | with_reducible exact Bk.Blk.nw42 | with_reducible exact Bk.Blk.nw43))
    try (have hn := Bk.Blk.later (g := (w2).heap.size + 1) hb3 (by first | with_reducible exact Bk.Blk.nw10 | with_reducible exact Bk.Blk.nw20 | with_reducible exact Bk.Blk.nw21 | with_reducible exact Bk.Blk.nw30 | with_reducible exact Bk.Blk.nw31 | with_reducible exact Bk.Blk.nw32 | with_reducible exact Bk.Blk.nw40 | with_reducible exact Bk.Blk.nw41 | with_reducible exact Bk.Blk.nw42 | with_reducible exact Bk.Blk.nw43))
    try (have hn := Bk.Blk.later (g := (w2).heap.size + 2) hb3 (by first | with_reducible exact Bk.Blk.nw10 | with_reducible exact Bk.Blk.nw20 | with_reducible exact Bk.Blk.nw21 | with_reducible exact Bk.Blk.nw30 | with_reducible exact Bk.Blk.nw31 | with_reducible exact Bk.Blk.nw32 | with_reducible exact Bk.Blk.nw40 | with_reducible exact Bk.Blk.nw41 | with_reducible exact Bk.Blk.nw42 | with_reducible exact Bk.Blk.nw43))
    try (have hn := Bk.Blk.later (g := (w2).heap.size + 3) hb3 (by first | with_reducible exact Bk.Blk.nw10 | with_reducible exact Bk.Blk.nw20 | with_reducible exact Bk.Blk.nw21 | with_reducible exact Bk.Blk.nw30 | with_reducible exact Bk.Blk.nw31 | with_reducible exact Bk.Blk.nw32 | with_reducible exact Bk.Blk.nw40 | with_reducible exact Bk.Blk.nw41 | with_reducible exact Bk.Blk.nw42 | with_reducible exact Bk.Blk.nw43))
    clear hb3
    repeat (rename World.cell? w2 _ = _ => hq; clear hq)
    repeat (rename World.frozen? w2 _ = _ => hq; clear hq)
    repeat (rename Bk.Blk w3 _ _ _ => hq; (first | (have _k0 := (hq).c0; have _m0 := (hq).f0) | skip); (first | (have _k1 := (hq).c1; have _m1 := (hq).f1) | skip); (first | (have _k2 := (hq).c2; have _m2 := (hq).f2) | skip); (first | (have _k3 := (hq).c3; have _m3 := (hq).f3) | skip); have _z := (hq).lt; have hk := Bk.Kept.mk hq; clear hq)
    repeat (rename Bk.Kept (Bk.Blk w3 _ _ _) => hq; have hq' := hq.out; clear hq)
    go_wp2_with fail
    refine (HL.out _ (hS.of (by repeat (first | assumption | exact Below.refl _ _ | refine Below.setCell ?_ (by first | exact Nat.le_refl _ | (simp; done) | (simp; omega) | omega) _ | refine Below.alloc ?_ (by first | exact Nat.le_refl _ | (simp; done) | (simp; omega) | omega) _ | refine Below.drew ?_ | exact Nat.le_refl _)))).mono ?_
    rintro e w4 ⟨rfl, hb4⟩
    have b4 : Below w.heap.size w w4 := bl2 hb4 (by repeat (first | assumption | exact Below.refl _ _ | refine Below.setCell ?_ (by first | exact Nat.le_refl _ | (simp; done) | (simp; omega) | omega) _ | refine Below.alloc ?_ (by first | exact Nat.le_refl _ | (simp; done) | (simp; omega) | omega) _ | refine Below.drew ?_ | exact Nat.le_refl _))
    have z4 := b4.size
    repeat (rename Bk.Blk w3 _ _ _ => hq; (first | (have hq' := Bk.Blk.carry hq hb4 (by (repeat (first | with_reducible refine Bk.Blk.drew ?_ | with_reducible refine Bk.Blk.set_same ?_ | with_reducible refine Bk.Blk.set_ne ?_ (by omega) | with_reducible refine Bk.Blk.alloc ?_)); (with_reducible exact hq))) | (have hq' := Bk.Blk.later hb4 (Bk.Blk.set2 hq)) | skip); clear hq)
    try (have hn := Bk.Blk.later (g := (w3).heap.size) hb4 (by first | with_reducible exact Bk.Blk.nw10 | with_reducible exact Bk.Blk.nw20 | with_reducible exact Bk.Blk.nw21 | with_reducible exact Bk.Blk.nw30 | with_reducible exact Bk.Blk.nw31 | with_reducible exact Bk.Blk.nw32 | with_reducible exact Bk.Blk.nw40 | with_reducible exact Bk.Blk.nw41 | with_reducible exact Bk.Blk.nw42 | with_reducible exact Bk.Blk.nw43))
    try (have hn := Bk.Blk.later (g := (w3).heap.size + 1) hb4 (by first | with_reducible exact Bk.Blk.nw10 | with_reducible exact Bk.Blk.nw20 | with_reducible exact Bk.Blk.nw21 | with_reducible exact Bk.Blk.nw30 | with_reducible exact Bk.Blk.nw31 | with_reducible exact Bk.Blk.nw32 | with_reducible exact Bk.Blk.nw40 | with_reducible exact Bk.Blk.nw41 | with_reducible exact Bk.Blk.nw42 | with_reducible exact Bk.Blk.nw43))
    try (have hn := Bk.Blk.later (g := (w3).heap.size + 2) hb4 (by first | with_reducible exact Bk.Blk.nw10 | with_reducible exact Bk.Blk.nw20 | with_reducible exact Bk.Blk.nw21 | with_reducible exact Bk.Blk.nw30 | with_reducible exact Bk.Blk.nw31 | with_reducible exact Bk.Blk.nw32 | with_reducible exact Bk.Blk.nw40 | with_reducible exact Bk.Blk.nw41 | with_reducible exact Bk.Blk.nw42 | with_reducible exact Bk.Blk.nw43))
    try (have hn := Bk.Blk.later (g := (w3).heap.size + 3) hb4 (by first | with_reducible exact Bk.Blk.nw10 | with_reducible exact Bk.Blk.nw20 | with_reducible exact Bk.Blk.nw21 | with_reducible exact Bk.Blk.nw30 | with_reducible exact Bk.Blk.nw31 | with_reducible exact Bk.Blk.nw32 | with_reducible exact Bk.Blk.nw40 | with_reducible exact Bk.Blk.nw41 | with_reducible exact Bk.Blk.nw42 | with_reducible exact Bk.Blk.nw43))
    clear hb4
    repeat (rename World.cell? w3 _ = _ => hq; clear hq)
    repeat (rename World.frozen? w3 _ = _ => hq; clear hq)
    repeat (rename Bk.Blk w4 _ _ _ => hq; (first | (have _k0 := (hq).c0; have _m0 := (hq).f0) | skip); (first | (have _k1 := (hq).c1; have _m1 := (hq).f1) | skip); (first | (have _k2 := (hq).c2; have _m2 := (hq).f2) | skip); (first | (have _k3 := (hq).c3; have _m3 := (hq).f3) | skip); have _z := (hq).lt; have hk := Bk.Kept.mk hq; clear hq)
    repeat (rename Bk.Kept (Bk.Blk w4 _ _ _) => hq; have hq' := hq.out; clear hq)
    go_wp2_with fail
    go_ret
    exact ⟨rfl, (by repeat (first | assumption | exact Below.refl _ _ | refine Below.setCell ?_ (by first | exact Nat.le_refl _ | (simp; done) | (simp; omega) | omega) _ | refine Below.alloc ?_ (by first | exact Nat.le_refl _ | (simp; done) | (simp; omega) | omega) _ | refine Below.drew ?_ | exact Nat.le_refl _))⟩
  · rw [e2] at hi
    have HI := Lib.hid hi
    clear e2 hi
    generalize ifit (x / n) = k at *
    generalize x / n = q at *
    generalize x % n = r at *
    go_enter Tryd.func9, Tryd.ntmps9
    go_wp2_with fail
    refine (H1.out _ (hS.of (by repeat (first | assumption | exact Below.refl _ _ | refine Below.setCell ?_ (by first | exact Nat.le_refl _ | (simp; done) | (simp; omega) | omega) _ | refine Below.alloc ?_ (by first | exact Nat.le_refl _ | (simp; done) | (simp; omega) | omega) _ | refine Below.drew ?_ | exact Nat.le_refl _)))).mono ?_
    rintro e w1 ⟨rfl, hb1⟩
    have b1 : Below w.heap.size w w1 := bl2 hb1 (by repeat (first | assumption | exact Below.refl _ _ | refine Below.setCell ?_ (by first | exact Nat.le_refl _ | (simp; done) | (simp; omega) | omega) _ | refine Below.alloc ?_ (by first | exact Nat.le_refl _ | (simp; done) | (simp; omega) | omega) _ | refine Below.drew ?_ | exact Nat.le_refl _))
    have z1 := b1.size
    repeat (rename Bk.Blk w _ _ _ => hq; (first | (have hq' := Bk.Blk.carry hq hb1 (by (repeat (first | with_reducible refine Bk.Blk.drew ?_ | with_reducible refine Bk.Blk.set_same ?_ | with_reducible refine Bk.Blk.set_ne ?_ (by omega) | with_reducible refine Bk.Blk.alloc ?_)); (with_reducible exact hq))) | (have hq' := Bk.Blk.later hb1 (Bk.Blk.set2 hq)) | skip); clear hq)
    try (have hn := Bk.Blk.later (g := (w).heap.size) hb1 (by first | with_reducible exact Bk.Blk.nw10 | with_reducible exact Bk.Blk.nw20 | with_reducible exact Bk.Blk.nw21 | with_reducible exact Bk.Blk.nw30 | with_reducible exact Bk.Blk.nw31 | with_reducible exact Bk.Blk.nw32 | with_reducible exact Bk.Blk.nw40 | with_reducible exact Bk.Blk.nw41 | with_reducible exact Bk.Blk.nw42 | with_reducible exact Bk.Blk.nw43))
    try (have hn := Bk.Blk.later (g := (w).heap.size + 1) hb1 (by first | with_reducible exact Bk.Blk.nw10 | with_reducible exact Bk.Blk.nw20 | with_reducible exact Bk.Blk.nw21 | with_reducible exact Bk.Blk.nw30 | with_reducible exact Bk.Blk.nw31 | with_reducible exact Bk.Blk.nw32 | with_reducible exact Bk.Blk.nw40 | with_reducible exact Bk.Blk.nw41 | with_reducible exact Bk.Blk.nw42 | with_reducible exact Bk.Blk.nw43))
    try (have hn := Bk.Blk.later (g := (w).heap.size + 2) hb1 (by first | with_reducible exact Bk.Blk.nw10 | with_reducible exact Bk.Blk.nw20 | with_reducible exact Bk.Blk.nw21 | with_reducible exact Bk.Blk.nw30 | with_reducible exact Bk.Blk.nw31 | with_reducible exact Bk.Blk.nw32 | with_reducible exact Bk.Blk.nw40 | with_reducible exact Bk.Blk.nw41 | with_reducible exact Bk.Blk.nw42 | with_reducible exact Bk.Blk.nw43))
    try (have hn := Bk.Blk.later (g := (w).heap.size + 3) hb1 (by first | with_reducible exact Bk.Blk.nw10 | with_reducible exact Bk.Blk.nw20 | with_reducible exact Bk.Blk.nw21 | with_reducible exact Bk.Blk.nw30 | with_reducible exact Bk.Blk.nw31 | with_reducible exact Bk.Blk.nw32 | with_reducible exact Bk.Blk.nw40 | with_reducible exact Bk.Blk.nw41 | with_reducible exact Bk.Blk.nw42 | with_reducible exact Bk.Blk.nw43))
    clear hb1
    repeat (rename World.cell? w _ = _ => hq; clear hq)
    repeat (rename World.frozen? w _ = _ => hq; clear hq)
    repeat (rename Bk.Blk w1 _ _ _ => hq; (first | (have _k0 := (hq).c0; have _m0 := (hq).f0) | skip); (first | (have _k1 := (hq).c1; have _m1 := (hq).f1) | skip); (first | (have _k2 := (hq).c2; have _m2 := (hq).f2) | skip); (first | (have _k3 := (hq).c3; have _m3 := (hq).f3) | skip); have _z := (hq).lt; have hk := Bk.Kept.mk hq; clear hq)
    repeat (rename Bk.Kept (Bk.Blk w1 _ _ _) => hq; have hq' := hq.out; clear hq)
    go_wp2_with fail
    refine (HV.out _).mono ?_
    rintro e w' ⟨rfl, rfl⟩
    go_wp2_with fail
    refine (HD.out _).mono ?_
    rintro e w2 ⟨rfl, hb2⟩
    have b2 : Below w.heap.size w w2 := bl2 hb2 (by repeat (first | assumption | exact Below.refl _ _ | refine Below.setCell ?_ (by first | exact Nat.le_refl _ | (simp; done) | (simp; omega) | omega) _ | refine Below.alloc ?_ (by first | exact Nat.le_refl _ | (simp; done) | (simp; omega) | omega) _ | refine Below.drew ?_ | exact Nat.le_refl _))
    have z2 := b2.size
    repeat (rename Bk.Blk w1 _ _ _ => hq; (first | (have hq' := Bk.Blk.carry hq hb2 (by (repeat (first | with_reducible refine Bk.Blk.drew ?_ | with_reducible refine Bk.Blk.set_same ?_ | with_reducible refine Bk.Blk.set_ne ?_ (by omega) | with_reducible refine Bk.Blk.alloc ?_)); (with_reducible exact hq))) | (have hq' := Bk.Blk.later hb2 (Bk.Blk.set2 hq)) | skip); clear hq)
    try (have hn := Bk.Blk.later (g := (w1).heap.size) hb2 (by first | with_reducible exact Bk.Blk.nw10 | with_reducible exact Bk.Blk.nw20 | with_reducible exact Bk.Blk.nw21 | with_reducible exact Bk.Blk.nw30 | with_reducible exact Bk.Blk.nw31 | with_reducible exact Bk.Blk.nw32 | with_reducible exact Bk.Blk.nw40 | with_reducible exact Bk.Blk.nw41 | with_reducible exact Bk.Blk.nw42 | with_reducible exact Bk.Blk.nw43))
    try (have hn := Bk.Blk.later (g := (w1).heap.size + 1) hb2 (by first | with_reducible exact Bk.Blk.nw10 | with_reducible exact Bk.Blk.nw20 | with_reducible exact Bk.Blk.nw21 | with_reducible exact Bk.Blk.nw30 | with_reducible exact Bk.Blk.nw31 | with_reducible exact Bk.Blk.nw32 | with_reducible exact Bk.Blk.nw40 | with_reducible exact Bk.Blk.nw41 | with_reducible exact Bk.Blk.nw42 | with_reducible exact Bk.Blk.nw43))
    try (have hn := Bk.Blk.later (g := (w1).heap.size + 2) hb2 (by first | with_reducible exact Bk.Blk.nw10 | with_reducible exact Bk.Blk.nw20 | with_reducible exact Bk.Blk.nw21 | with_reducible exact Bk.Blk.nw30 | with_reducible exact Bk.Blk.nw31 | with_reducible exact Bk.Blk.nw32 | with_reducible exact Bk.Blk.nw40 | with_reducible exact Bk.Blk.nw41 | with_reducible exact Bk.Blk.nw42 | with_reducible exact Bk.Blk.nw43))
    try (have hn := Bk.Blk.later (g := (w1).heap.size + 3) hb2 (by first | with_reducible exact Bk.Blk.nw10 | with_reducible exact Bk.Blk.nw20 | with_reducible exact Bk.Blk.nw21 | with_reducible exact Bk.Blk.nw30 | with_reducible exact Bk.Blk.nw31 | with_reducible exact Bk.Blk.nw32 | with_reducible exact Bk.Blk.nw40 | with_reducible exact Bk.Blk.nw41 | with_reducible exact Bk.Blk.nw42 | with_reducible exact Bk.Blk.nw43))
    clear hb2
    repeat (rename World.cell? w1 _ = _ => hq; clear hq)
    repeat (rename World.frozen? w1 _ = _ => hq; clear hq)
    repeat (rename Bk.Blk w2 _ _ _ => hq; (first | (have _k0 := (hq).c0; have _m0 := (hq).f0) | skip); (first | (have _k1 := (hq).c1; have _m1 := (hq).f1) | skip); (first | (have _k2 := (hq).c2; have _m2 := (hq).f2) | skip); (first | (have _k3 := (hq).c3; have _m3 := (hq).f3) | skip); have _z := (hq).lt; have hk := Bk.Kept.mk hq; clear hq)
    repeat (rename Bk.Kept (Bk.Blk w2 _ _ _) => hq; have hq' := hq.out; clear hq)
    go_wp2_with fail
    refine (HI.out _).mono ?_
    rintro e w3 ⟨rfl, hb3⟩
    have b3 : Below w.heap.size w w3 := bl2 hb3 (by repeat (first | assumption | exact Below.refl _ _ | refine Below.setCell ?_ (by first | exact Nat.le_refl _ | (simp; done) | (simp; omega) | omega) _ | refine Below.alloc ?_ (by first | exact Nat.le_refl _ | (simp; done) | (simp; omega) | omega) _ | refine Below.drew ?_ | exact Nat.le_refl _))
    have z3 := b3.size
    repeat (rename Bk.Blk w2 _ _ _ => hq; (first | (have hq' := Bk.Blk.carry hq hb3 (by (repeat (first | with_reducible refine Bk.Blk.drew ?_ | with_reducible refine Bk.Blk.set_same ?_ | with_reducible refine Bk.Blk.set_ne ?_ (by omega) | with_reducible refine Bk.Blk.alloc ?_)); (with_reducible exact hq))) | (have hq' := Bk.Blk.later hb3 (Bk.Blk.set2 hq)) | skip); clear hq)
    try (have hn := Bk.Blk.later (g := (w2).heap.size) hb3 (by first | with_reducible exact Bk.Blk.nw10 | with_reducible exact Bk.Blk.nw20 | with_reducible exact Bk.Blk.nw21 | with_reducible exact Bk.Blk.nw30 | with_reducible exact Bk.Blk.nw31 | with_reducible exact Bk.Blk.nw32 | with_reducible exact Bk.Blk.nw40 | with_reducible exact Bk.Blk.nw41 | with_reducible exact Bk.Blk.nw42 | with_reducible exact Bk.Blk.nw43))
    try (have hn := Bk.Blk.later (g := (w2).heap.size + 1) hb3 (by first | with_reducible exact Bk.Blk.nw10 | with_reducible exact Bk.Blk.nw20 | with_reducible exact Bk.Blk.nw21 | with_reducible exact Bk.Blk.nw30 | with_reducible exact Bk.Blk.nw31 | with_reducible exact Bk.Blk.nw32 | with_reducible exact Bk.Blk.nw40 | with_reducible exact Bk.Blk.nw41 | with_reducible exact Bk.Blk.nw42 | with_reducible exact Bk.Blk.nw43))
    try (have hn := Bk.Blk.later (g := (w2).heap.size + 2) hb3 (by first | with_reducible exact Bk.Blk.nw10 | with_reducible exact Bk.Blk.nw20 | with_reducible exact Bk.Blk.nw21 | with_reducible exact Bk.Blk.nw30 | with_reducible exact Bk.Blk.nw31 | with_reducible exact Bk.Blk.nw32 | with_reducible exact Bk.Blk.nw40 | with_reducible exact Bk.Blk.nw41 | with_reducible exact Bk.Blk.nw42 | with_reducible exact Bk.Blk.nw43))
    try (have hn := Bk.Blk.later (g := (w2).heap.size + 3) hb3 (by first | with_reducible exact Bk.Blk.nw10 | with_reducible exact Bk.Blk.nw20 | with_reducible exact Bk.Blk.nw21 | with_reducible exact Bk.Blk.nw30 | with_reducible exact Bk.Blk.nw31 | with_reducible exact Bk.Blk.nw32 | with_reducible exact Bk.Blk.nw40 | with_reducible exact Bk.Blk.nw41 | with_reducible exact Bk.Blk.nw42 | with_reducible exact Bk.Blk.nw43))
    clear hb3
    repeat (rename World.cell? w2 _ = _ => hq; clear hq)
    repeat (rename World.frozen? w2 _ = _ => hq; clear hq)
    repeat (rename Bk.Blk w3 _ _ _ => hq; (first | (have _k0 := (hq).c0; have _m0 := (hq).f0) | skip); (first | (have _k1 := (hq).c1; have _m1 := (hq).f1) | skip); (first | (have _k2 := (hq).c2; have _m2 := (hq).f2) | skip); (first | (have _k3 := (hq).c3; have _m3 := (hq).f3) | skip); have _z := (hq).lt; have hk := Bk.Kept.mk hq; clear hq)
    repeat (rename Bk.Kept (Bk.Blk w3 _ _ _) => hq; have hq' := hq.out; clear hq)
    go_wp2_with fail
    refine (HL.out _ (hS.of (by repeat (first | assumption | exact Below.refl _ _ | refine Below.setCell ?_ (by first | exact Nat.le_refl _ | (simp; done) | (simp; omega) | omega) _ | refine Below.alloc ?_ (by first | exact Nat.le_refl _ | (simp; done) | (simp; omega) | omega) _ | refine Below.drew ?_ | exact Nat.le_refl _)))).mono ?_
    rintro e w4 ⟨rfl, hb4⟩
    have b4 : Below w.heap.size w w4 := bl2 hb4 (by repeat (first | assumption | exact Below.refl _ _ | refine Below.setCell ?_ (by first | exact Nat.le_refl _ | (simp; done) | (simp; omega) | omega) _ | refine Below.alloc ?_ (by first | exact Nat.le_refl _ | (simp; done) | (simp; omega) | omega) _ | refine Below.drew ?_ | exact Nat.le_refl _))
    have z4 := b4.size
    repeat (rename Bk.Blk w3 _ _ _ => hq; (first | (have hq' := Bk.Blk.carry hq hb4 (by (repeat (first | with_reducible refine Bk.Blk.drew ?_ | with_reducible refine Bk.Blk.set_same ?_ | with_reducible refine Bk.Blk.set_ne ?_ (by omega) | with_reducible refine Bk.Blk.alloc ?_)); (with_reducible exact hq))) | (have hq' := Bk.Blk.later hb4 (Bk.Blk.set2 hq)) | skip); clear hq)
    try (have hn := Bk.Blk.later (g := (w3).heap.size) hb4 (by first | with_reducible exact Bk.Blk.nw10 | with_reducible exact Bk.Blk.nw20 | with_reducible exact Bk.Blk.nw21 | with_reducible exact Bk.Blk.nw30 | with_reducible exact Bk.Blk.nw31 | with_reducible exact Bk.Blk.nw32 | with_reducible exact Bk.Blk.nw40 | with_reducible exact Bk.Blk.nw41 | with_reducible exact Bk.Blk.nw42 | with_reducible exact Bk.Blk.nw43))
    try (have hn := Bk.Blk.later (g := (w3).heap.size + 1) hb4 (by first | with_reducible exact Bk.Blk.nw10 | with_reducible exact Bk.Blk.nw20 | with_reducible exact Bk.Blk.nw21 | with_reducible exact Bk.Blk.nw30 | with_reducible exact Bk.Blk.nw31 | with_reducible exact Bk.Blk.nw32 | with_reducible exact Bk.Blk.nw40 | with_reducible exact Bk.Blk.nw41 | with_reducible exact Bk.Blk.nw42 | with_reducible exact Bk.Blk.nw43))
    try (have hn := Bk.Blk.later (g := (w3).heap.size + 2) hb4 (by first | with_reducible exact Bk.Blk.nw10 | with_reducible exact Bk.Blk.nw20 | with_reducible exact Bk.Blk.nw21 | with_reducible exact Bk.Blk.nw30 | with_reducible exact Bk.Blk.nw31 | with_reducible exact Bk.Blk.nw32 | with_reducible exact Bk.Blk.nw40 | with_reducible exact Bk.Blk.nw41 | with_reducible exact Bk.Blk.nw42 | with_reducible exact Bk.Blk.nw43))
    try (have hn := Bk.Blk.later (g := (w3).heap.size + 3) hb4 (by first | with_reducible exact Bk.Blk.nw10 | with_reducible exact Bk.Blk.nw20 | with_reducible exact Bk.Blk.nw21 | with_reducible exact Bk.Blk.nw30 | with_reducible exact Bk.Blk.nw31 | with_reducible exact Bk.Blk.nw32 | with_reducible exact Bk.Blk.nw40 | with_reducible exact Bk.Blk.nw41 | with_reducible exact Bk.Blk.nw42 | with_reducible exact Bk.Blk.nw43))
    clear hb4
    repeat (rename World.cell? w3 _ = _ => hq; clear hq)
    repeat (rename World.frozen? w3 _ = _ => hq; clear hq)
    repeat (rename Bk.Blk w4 _ _ _ => hq; (first | (have _k0 := (hq).c0; have _m0 := (hq).f0) | skip); (first | (have _k1 := (hq).c1; have _m1 := (hq).f1) | skip); (first | (have _k2 := (hq).c2; have _m2 := (hq).f2) | skip); (first | (have _k3 := (hq).c3; have _m3 := (hq).f3) | skip); have _z := (hq).lt; have hk := Bk.Kept.mk hq; clear hq)
    repeat (rename Bk.Kept (Bk.Blk w4 _ _ _) => hq; have hq' := hq.out; clear hq)
    go_wp2_with fail
    go_ret
    exact ⟨rfl, (by repeat (first | assumption | exact Below.refl _ _ | refine Below.setCell ?_ (by first | exact Nat.le_refl _ | (simp; done) | (simp; omega) | omega) _ | refine Below.alloc ?_ (by first | exact Nat.le_refl _ | (simp; done) | (simp; omega) | omega) _ | refine Below.drew ?_ | exact Nat.le_refl _))⟩
set_option maxHeartbeats 8000000 in
theorem near_fit (x n m : Int) (w : World) (hS : Stp w) (hx : I128 x) (hn : I64 n) (h : rok n m) (hv : I64 (rd x n m)) :
    Calls Tryd.prog 9 #[.agg #[.int .i64 (hi x), .int .u64 (lo x)], .int .i64 n, .int .i64 m] w fun e w' => e = .returned (.bool true) ∧ Below w.heap.size w w' := by
  have b0 := Below.refl w.heap.size w
  have HL := Lib.hid (fun (W : World) (hS : Stp W) => live_any W hS)
  have h1 := fun (W : World) (hS : Stp W) => rd_any x n m W hS hx hn
  unfold DPost at h1
  have hiv : iin (rd x n m) = true := decide_eq_true hv
  rw [(rd_yes h).1, (rd_yes h).2, hiv, show ifit (rd x n m) = rd x n m from if_pos hv] at h1
  obtain ⟨n1, m1, m6⟩ := h
  have hN := near_all (a := x) n1 m1 m6
  have hB := dist_bd (a := x) (mode := m) n1
  have hm := fun (W : World) => rmul_any (rd x n m) n W hv hn
  have hI : I128 (dist x n m) := by unfold I64 at hn; unfold I128; omega
  have hp : I128 (rd x n m * n) := by
    have : rd x n m * n = dist x n m + x := by unfold dist; omega
    have hx1 := (mul_bd hv hn).1
    exact hx1
  have hs := fun (W : World) => rsub_any (rd x n m * n) x W hp hx
  unfold SumPost at hs
  rw [show rd x n m * n - x = dist x n m from rfl, fit_in hI, ovf_in hI] at hs
  have hnr := fun (W : World) => near_any x (rd x n m) n (dist x n m) m W ⟨n1, hn.2, hB.1, hB.2⟩ hN m1 m6
  have H1 := Lib.hid h1
  have HM := Lib.hid hm
  have HU := Lib.hid hs
  have HN := Lib.hid hnr
  have HV := Lib.hid (fun (W : World) => rvalid_yes m W m1 m6)
  clear h1 hm hs hnr hx hn hv hiv hN hB hI hp
  generalize dist x n m = d at *
  generalize rd x n m * n = p at *
  generalize rd x n m = q at *
  go_enter Tryd.func9, Tryd.ntmps9
  go_wp2_with fail
  refine (H1.out _ (hS.of (by repeat (first | assumption | exact Below.refl _ _ | refine Below.setCell ?_ (by first | exact Nat.le_refl _ | (simp; done) | (simp; omega) | omega) _ | refine Below.alloc ?_ (by first | exact Nat.le_refl _ | (simp; done) | (simp; omega) | omega) _ | refine Below.drew ?_ | exact Nat.le_refl _)))).mono ?_
  rintro e w1 ⟨rfl, hb1⟩
  have b1 : Below w.heap.size w w1 := bl2 hb1 (by repeat (first | assumption | exact Below.refl _ _ | refine Below.setCell ?_ (by first | exact Nat.le_refl _ | (simp; done) | (simp; omega) | omega) _ | refine Below.alloc ?_ (by first | exact Nat.le_refl _ | (simp; done) | (simp; omega) | omega) _ | refine Below.drew ?_ | exact Nat.le_refl _))
  have z1 := b1.size
  repeat (rename Bk.Blk w _ _ _ => hq; (first | (have hq' := Bk.Blk.carry hq hb1 (by (repeat (first | with_reducible refine Bk.Blk.drew ?_ | with_reducible refine Bk.Blk.set_same ?_ | with_reducible refine Bk.Blk.set_ne ?_ (by omega) | with_reducible refine Bk.Blk.alloc ?_)); (with_reducible exact hq))) | (have hq' := Bk.Blk.later hb1 (Bk.Blk.set2 hq)) | skip); clear hq)
  try (have hn := Bk.Blk.later (g := (w).heap.size) hb1 (by first | with_reducible exact Bk.Blk.nw10 | with_reducible exact Bk.Blk.nw20 | with_reducible exact Bk.Blk.nw21 | with_reducible exact Bk.Blk.nw30 | with_reducible exact Bk.Blk.nw31 | with_reducible exact Bk.Blk.nw32 | with_reducible exact Bk.Blk.nw40 | with_reducible exact Bk.Blk.nw41 | with_reducible exact Bk.Blk.nw42 | with_reducible exact Bk.Blk.nw43))
  try (have hn := Bk.Blk.later (g := (w).heap.size + 1) hb1 (by first | with_reducible exact Bk.Blk.nw10 | with_reducible exact Bk.Blk.nw20 | with_reducible exact Bk.Blk.nw21 | with_reducible exact Bk.Blk.nw30 | with_reducible exact Bk.Blk.nw31 | with_reducible exact Bk.Blk.nw32 | with_reducible exact Bk.Blk.nw40 | with_reducible exact Bk.Blk.nw41 | with_reducible exact Bk.Blk.nw42 | with_reducible exact Bk.Blk.nw43))
  try (have hn := Bk.Blk.later (g := (w).heap.size + 2) hb1 (by first | with_reducible exact Bk.Blk.nw10 | with_reducible exact Bk.Blk.nw20 | with_reducible exact Bk.Blk.nw21 | with_reducible exact Bk.Blk.nw30 | with_reducible exact Bk.Blk.nw31 | with_reducible exact Bk.Blk.nw32 | with_reducible exact Bk.Blk.nw40 | with_reducible exact Bk.Blk.nw41 | with_reducible exact Bk.Blk.nw42 | with_reducible exact Bk.Blk.nw43))
  try (have hn := Bk.Blk.later (g := (w).heap.size + 3) hb1 (by first | with_reducible exact Bk.Blk.nw10 | with_reducible exact Bk.Blk.nw20 | with_reducible exact Bk.Blk.nw21 | with_reducible exact Bk.Blk.nw30 | with_reducible exact Bk.Blk.nw31 | with_reducible exact Bk.Blk.nw32 | with_reducible exact Bk.Blk.nw40 | with_reducible exact Bk.Blk.nw41 | with_reducible exact Bk.Blk.nw42 | with_reducible exact Bk.Blk.nw43))
  clear hb1
  repeat (rename World.cell? w _ = _ => hq; clear hq)
  repeat (rename World.frozen? w _ = _ => hq; clear hq)
  repeat (rename Bk.Blk w1 _ _ _ => hq; (first | (have _k0 := (hq).c0; have _m0 := (hq).f0) | skip); (first | (have _k1 := (hq).c1; have _m1 := (hq).f1) | skip); (first | (have _k2 := (hq).c2; have _m2 := (hq).f2) | skip); (first | (have _k3 := (hq).c3; have _m3 := (hq).f3) | skip); have _z := (hq).lt; have hk := Bk.Kept.mk hq; clear hq)
  repeat (rename Bk.Kept (Bk.Blk w1 _ _ _) => hq; have hq' := hq.out; clear hq)
  go_wp2_with fail
  refine (HV.out _).mono ?_
  rintro e w' ⟨rfl, rfl⟩
  go_wp2_with fail
  refine Reg.region_alloc 9 8 14 (.cells #[.int .i64 0, .int .u64 0] 24) [(7, 9)] (by kernel_rfl) (by kernel_rfl) (by kernel_rfl) (fun d _ _ _ _ h => by cases d <;> exact h) _ rfl rfl rfl (fun ρ W => by simp [go_sem, Reg.ptr]) ?_
  simp only [Reg.edges, Reg.edge]
  have key := Bk.key0 (W := w1)
  repeat (rename Bk.Blk w1 _ _ _ => hq; (first | replace key := Bk.kadd key (hq).gall1 | replace key := Bk.kadd key (hq).gall2 | replace key := Bk.kadd key (hq).gall3 | replace key := Bk.kadd key (hq).gall4 | replace key := Bk.kadd key (hq).gall5 | replace key := Bk.kadd key (hq).gall6 | replace key := Bk.kadd key (hq).gall7 | replace key := Bk.kadd key (hq).gall8 | replace key := Bk.kadd key (hq).gall9 | replace key := Bk.kadd key (hq).gall10 | replace key := Bk.kadd key (hq).gall11 | replace key := Bk.kadd key (hq).gall12 | replace key := Bk.kadd key (hq).gall13 | replace key := Bk.kadd key (hq).gall14 | replace key := Bk.kadd key (hq).gall15 | replace key := Bk.kadd key (hq).gall16 | replace key := Bk.kadd key (hq).gall17 | replace key := Bk.kadd key (hq).gall18 | replace key := Bk.kadd key (hq).gall19 | replace key := Bk.kadd key (hq).gall20 | skip); have hk := Bk.Kept.mk hq; clear hq)
  repeat (rename Bk.Kept (Bk.Blk w1 _ _ _) => hq; have hq' := hq.out; clear hq)
  apply Exists.intro
  refine ⟨?_, ?_⟩
  · (intro C hC; simp only [Reg.blank, List.take_succ_cons, List.take_zero]; have kk := key C hC; (try have _a := kk.1.1); (try have _a := kk.1.2.1); (try have _a := kk.1.2.2.1); (try have _a := kk.2.1.1); (try have _a := kk.2.1.2.1); (try have _a := kk.2.1.2.2.1); (try have _a := kk.2.2.1.1); (try have _a := kk.2.2.1.2.1); (try have _a := kk.2.2.1.2.2.1); (try have _a := kk.2.2.2.1.1); (try have _a := kk.2.2.2.1.2.1); (try have _a := kk.2.2.2.1.2.2.1); (try have _a := kk.2.2.2.2.1.1); (try have _a := kk.2.2.2.2.1.2.1); (try have _a := kk.2.2.2.2.1.2.2.1); (try have _a := kk.2.2.2.2.2.1.1); (try have _a := kk.2.2.2.2.2.1.2.1); (try have _a := kk.2.2.2.2.2.1.2.2.1); (try have _a := kk.2.2.2.2.2.2.1.1); (try have _a := kk.2.2.2.2.2.2.1.2.1); (try have _a := kk.2.2.2.2.2.2.1.2.2.1); (try have _a := kk.2.2.2.2.2.2.2.1.1); (try have _a := kk.2.2.2.2.2.2.2.1.2.1); (try have _a := kk.2.2.2.2.2.2.2.1.2.2.1); (try have _a := kk.2.2.2.2.2.2.2.2.1.1); (try have _a := kk.2.2.2.2.2.2.2.2.1.2.1); (try have _a := kk.2.2.2.2.2.2.2.2.1.2.2.1); (try have _a := kk.2.2.2.2.2.2.2.2.2.1.1); (try have _a := kk.2.2.2.2.2.2.2.2.2.1.2.1); (try have _a := kk.2.2.2.2.2.2.2.2.2.1.2.2.1); (iterate 9 (first | go_big_quiet_skip | (go_big_quiet_want; (first | (go_big_quiet_op; go_big_quiet_on) | (apply Reg.quiet_run; (intro W hW; have hI : Bk.In C W := hW; go_simp; (first | done | rfl | exact ⟨rfl, rfl⟩ )); (simp only [Act.put, List.setIfInBounds_toArray, List.set_cons_zero, List.set_cons_succ]; go_big_quiet_on)) | (apply Reg.quiet_call; (intro W hW; go_simp; (first | done | rfl | exact ⟨rfl, rfl⟩)); (intro W hW; (first | (go_at_call 19; exact hC.call hW (HM.out _)) | (go_at_call 28; exact hC.call hW (HU.out _)))); (simp only [Act.put, List.setIfInBounds_toArray, List.set_cons_zero, List.set_cons_succ]; go_big_quiet_on)))))); exact wpQuiet_nil rfl)
  clear key
  intro W w2 hW hb
  have hW2 := Reg.alc_back hW hb
  have hn := Bk.Blk.made hb
  have k2 := Below.size hW
  have b2 := bl2 hW2 (by repeat (first | assumption | exact Below.refl _ _ | refine Below.setCell ?_ (by first | exact Nat.le_refl _ | (simp; done) | (simp; omega) | omega) _ | refine Below.alloc ?_ (by first | exact Nat.le_refl _ | (simp; done) | (simp; omega) | omega) _ | refine Below.drew ?_ | exact Nat.le_refl _))
  have z2 := b2.size
  repeat (rename Bk.Blk w1 _ _ _ => hq; (first | (have hq' := Bk.Blk.later hW2 hq) | skip); clear hq)
  clear hb hW hW2
  repeat (rename World.cell? w1 _ = _ => hq; clear hq)
  repeat (rename World.frozen? w1 _ = _ => hq; clear hq)
  repeat (rename Bk.Blk w2 _ _ _ => hq; (first | (have _k0 := (hq).c0; have _m0 := (hq).f0) | skip); (first | (have _k1 := (hq).c1; have _m1 := (hq).f1) | skip); (first | (have _k2 := (hq).c2; have _m2 := (hq).f2) | skip); (first | (have _k3 := (hq).c3; have _m3 := (hq).f3) | skip); have _z := (hq).lt; have hk := Bk.Kept.mk hq; clear hq)
  repeat (rename Bk.Kept (Bk.Blk w2 _ _ _) => hq; have hq' := hq.out; clear hq)
  simp only [List.drop_succ_cons, List.drop_zero, Act.put, List.setIfInBounds_toArray, List.set_cons_zero, List.set_cons_succ, Reg.ptr]
  generalize W.heap.size = g2 at *
  go_wp2_with fail
  have b3 : Below w.heap.size w (((w2).setCell ⟨g2, 0, none⟩ (.int .i64 (hi d))).setCell ⟨g2, 1, none⟩ (.int .u64 (lo d))) := (by repeat (first | assumption | exact Below.refl _ _ | refine Below.setCell ?_ (by first | exact Nat.le_refl _ | (simp; done) | (simp; omega) | omega) _ | refine Below.alloc ?_ (by first | exact Nat.le_refl _ | (simp; done) | (simp; omega) | omega) _ | refine Below.drew ?_ | exact Nat.le_refl _))
  have z3 := b3.size
  repeat (rename Bk.Blk w2 _ _ _ => hq; (first | (have hq' := Bk.Blk.carry0 (W := ((w2).setCell ⟨g2, 0, none⟩ (.int .i64 (hi d))).setCell ⟨g2, 1, none⟩ (.int .u64 (lo d))) hq (by (repeat (first | with_reducible refine Bk.Blk.drew ?_ | with_reducible refine Bk.Blk.set_same ?_ | with_reducible refine Bk.Blk.set_ne ?_ (by omega) | with_reducible refine Bk.Blk.alloc ?_)); (with_reducible exact hq))) | (have hq' := Bk.Blk.set2 (u := .int .i64 (hi d)) (v := .int .u64 (lo d)) hq) | skip); clear hq)
  generalize ((w2).setCell ⟨g2, 0, none⟩ (.int .i64 (hi d))).setCell ⟨g2, 1, none⟩ (.int .u64 (lo d)) = w3 at *
  repeat (rename World.cell? w2 _ = _ => hq; clear hq)
  repeat (rename World.frozen? w2 _ = _ => hq; clear hq)
  repeat (rename Bk.Blk w3 _ _ _ => hq; (first | (have _k0 := (hq).c0; have _m0 := (hq).f0) | skip); (first | (have _k1 := (hq).c1; have _m1 := (hq).f1) | skip); (first | (have _k2 := (hq).c2; have _m2 := (hq).f2) | skip); (first | (have _k3 := (hq).c3; have _m3 := (hq).f3) | skip); have _z := (hq).lt; have hk := Bk.Kept.mk hq; clear hq)
  repeat (rename Bk.Kept (Bk.Blk w3 _ _ _) => hq; have hq' := hq.out; clear hq)
  refine (HN.out _).mono ?_
  rintro e w4 ⟨rfl, hb4⟩
  have b4 : Below w.heap.size w w4 := bl2 hb4 (by repeat (first | assumption | exact Below.refl _ _ | refine Below.setCell ?_ (by first | exact Nat.le_refl _ | (simp; done) | (simp; omega) | omega) _ | refine Below.alloc ?_ (by first | exact Nat.le_refl _ | (simp; done) | (simp; omega) | omega) _ | refine Below.drew ?_ | exact Nat.le_refl _))
  have z4 := b4.size
  repeat (rename Bk.Blk w3 _ _ _ => hq; (first | (have hq' := Bk.Blk.carry hq hb4 (by (repeat (first | with_reducible refine Bk.Blk.drew ?_ | with_reducible refine Bk.Blk.set_same ?_ | with_reducible refine Bk.Blk.set_ne ?_ (by omega) | with_reducible refine Bk.Blk.alloc ?_)); (with_reducible exact hq))) | (have hq' := Bk.Blk.later hb4 (Bk.Blk.set2 hq)) | skip); clear hq)
  try (have hn := Bk.Blk.later (g := (w3).heap.size) hb4 (by first | with_reducible exact Bk.Blk.nw10 | with_reducible exact Bk.Blk.nw20 | with_reducible exact Bk.Blk.nw21 | with_reducible exact Bk.Blk.nw30 | with_reducible exact Bk.Blk.nw31 | with_reducible exact Bk.Blk.nw32 | with_reducible exact Bk.Blk.nw40 | with_reducible exact Bk.Blk.nw41 | with_reducible exact Bk.Blk.nw42 | with_reducible exact Bk.Blk.nw43))
  try (have hn := Bk.Blk.later (g := (w3).heap.size + 1) hb4 (by first | with_reducible exact Bk.Blk.nw10 | with_reducible exact Bk.Blk.nw20 | with_reducible exact Bk.Blk.nw21 | with_reducible exact Bk.Blk.nw30 | with_reducible exact Bk.Blk.nw31 | with_reducible exact Bk.Blk.nw32 | with_reducible exact Bk.Blk.nw40 | with_reducible exact Bk.Blk.nw41 | with_reducible exact Bk.Blk.nw42 | with_reducible exact Bk.Blk.nw43))
  try (have hn := Bk.Blk.later (g := (w3).heap.size + 2) hb4 (by first | with_reducible exact Bk.Blk.nw10 | with_reducible exact Bk.Blk.nw20 | with_reducible exact Bk.Blk.nw21 | with_reducible exact Bk.Blk.nw30 | with_reducible exact Bk.Blk.nw31 | with_reducible exact Bk.Blk.nw32 | with_reducible exact Bk.Blk.nw40 | with_reducible exact Bk.Blk.nw41 | with_reducible exact Bk.Blk.nw42 | with_reducible exact Bk.Blk.nw43))
  try (have hn := Bk.Blk.later (g := (w3).heap.size + 3) hb4 (by first | with_reducible exact Bk.Blk.nw10 | with_reducible exact Bk.Blk.nw20 | with_reducible exact Bk.Blk.nw21 | with_reducible exact Bk.Blk.nw30 | with_reducible exact Bk.Blk.nw31 | with_reducible exact Bk.Blk.nw32 | with_reducible exact Bk.Blk.nw40 | with_reducible exact Bk.Blk.nw41 | with_reducible exact Bk.Blk.nw42 | with_reducible exact Bk.Blk.nw43))
  clear hb4
  repeat (rename World.cell? w3 _ = _ => hq; clear hq)
  repeat (rename World.frozen? w3 _ = _ => hq; clear hq)
  repeat (rename Bk.Blk w4 _ _ _ => hq; (first | (have _k0 := (hq).c0; have _m0 := (hq).f0) | skip); (first | (have _k1 := (hq).c1; have _m1 := (hq).f1) | skip); (first | (have _k2 := (hq).c2; have _m2 := (hq).f2) | skip); (first | (have _k3 := (hq).c3; have _m3 := (hq).f3) | skip); have _z := (hq).lt; have hk := Bk.Kept.mk hq; clear hq)
  repeat (rename Bk.Kept (Bk.Blk w4 _ _ _) => hq; have hq' := hq.out; clear hq)
  go_wp2_with fail
  refine (HL.out _ (hS.of (by repeat (first | assumption | exact Below.refl _ _ | refine Below.setCell ?_ (by first | exact Nat.le_refl _ | (simp; done) | (simp; omega) | omega) _ | refine Below.alloc ?_ (by first | exact Nat.le_refl _ | (simp; done) | (simp; omega) | omega) _ | refine Below.drew ?_ | exact Nat.le_refl _)))).mono ?_
  rintro e w5 ⟨rfl, hb5⟩
  have b5 : Below w.heap.size w w5 := bl2 hb5 (by repeat (first | assumption | exact Below.refl _ _ | refine Below.setCell ?_ (by first | exact Nat.le_refl _ | (simp; done) | (simp; omega) | omega) _ | refine Below.alloc ?_ (by first | exact Nat.le_refl _ | (simp; done) | (simp; omega) | omega) _ | refine Below.drew ?_ | exact Nat.le_refl _))
  have z5 := b5.size
  repeat (rename Bk.Blk w4 _ _ _ => hq; (first | (have hq' := Bk.Blk.carry hq hb5 (by (repeat (first | with_reducible refine Bk.Blk.drew ?_ | with_reducible refine Bk.Blk.set_same ?_ | with_reducible refine Bk.Blk.set_ne ?_ (by omega) | with_reducible refine Bk.Blk.alloc ?_)); (with_reducible exact hq))) | (have hq' := Bk.Blk.later hb5 (Bk.Blk.set2 hq)) | skip); clear hq)
  try (have hn := Bk.Blk.later (g := (w4).heap.size) hb5 (by first | with_reducible exact Bk.Blk.nw10 | with_reducible exact Bk.Blk.nw20 | with_reducible exact Bk.Blk.nw21 | with_reducible exact Bk.Blk.nw30 | with_reducible exact Bk.Blk.nw31 | with_reducible exact Bk.Blk.nw32 | with_reducible exact Bk.Blk.nw40 | with_reducible exact Bk.Blk.nw41 | with_reducible exact Bk.Blk.nw42 | with_reducible exact Bk.Blk.nw43))
  try (have hn := Bk.Blk.later (g := (w4).heap.size + 1) hb5 (by first | with_reducible exact Bk.Blk.nw10 | with_reducible exact Bk.Blk.nw20 | with_reducible exact Bk.Blk.nw21 | with_reducible exact Bk.Blk.nw30 | with_reducible exact Bk.Blk.nw31 | with_reducible exact Bk.Blk.nw32 | with_reducible exact Bk.Blk.nw40 | with_reducible exact Bk.Blk.nw41 | with_reducible exact Bk.Blk.nw42 | with_reducible exact Bk.Blk.nw43))
  try (have hn := Bk.Blk.later (g := (w4).heap.size + 2) hb5 (by first | with_reducible exact Bk.Blk.nw10 | with_reducible exact Bk.Blk.nw20 | with_reducible exact Bk.Blk.nw21 | with_reducible exact Bk.Blk.nw30 | with_reducible exact Bk.Blk.nw31 | with_reducible exact Bk.Blk.nw32 | with_reducible exact Bk.Blk.nw40 | with_reducible exact Bk.Blk.nw41 | with_reducible exact Bk.Blk.nw42 | with_reducible exact Bk.Blk.nw43))
  try (have hn := Bk.Blk.later (g := (w4).heap.size + 3) hb5 (by first | with_reducible exact Bk.Blk.nw10 | with_reducible exact Bk.Blk.nw20 | with_reducible exact Bk.Blk.nw21 | with_reducible exact Bk.Blk.nw30 | with_reducible exact Bk.Blk.nw31 | with_reducible exact Bk.Blk.nw32 | with_reducible exact Bk.Blk.nw40 | with_reducible exact Bk.Blk.nw41 | with_reducible exact Bk.Blk.nw42 | with_reducible exact Bk.Blk.nw43))
  clear hb5
  repeat (rename World.cell? w4 _ = _ => hq; clear hq)
  repeat (rename World.frozen? w4 _ = _ => hq; clear hq)
  repeat (rename Bk.Blk w5 _ _ _ => hq; (first | (have _k0 := (hq).c0; have _m0 := (hq).f0) | skip); (first | (have _k1 := (hq).c1; have _m1 := (hq).f1) | skip); (first | (have _k2 := (hq).c2; have _m2 := (hq).f2) | skip); (first | (have _k3 := (hq).c3; have _m3 := (hq).f3) | skip); have _z := (hq).lt; have hk := Bk.Kept.mk hq; clear hq)
  repeat (rename Bk.Kept (Bk.Blk w5 _ _ _) => hq; have hq' := hq.out; clear hq)
  go_wp2_with fail
  go_ret
  exact ⟨rfl, (by repeat (first | assumption | exact Below.refl _ _ | refine Below.setCell ?_ (by first | exact Nat.le_refl _ | (simp; done) | (simp; omega) | omega) _ | refine Below.alloc ?_ (by first | exact Nat.le_refl _ | (simp; done) | (simp; omega) | omega) _ | refine Below.drew ?_ | exact Nat.le_refl _))⟩
theorem near_walk (a b n m : Int) (ha : (Lit.int .i64 a).wf = true) (hb : (Lit.int .u64 b).wf = true) (hn : (Lit.int .i64 n).wf = true) (_ : (Lit.int .i64 m).wf = true) (w : World) (hS : Stp w) :
    Calls Tryd.prog 9 #[.agg #[.int .i64 a, .int .u64 b], .int .i64 n, .int .i64 m] w fun e w' => e = .returned (.bool true) ∧ Below w.heap.size w w' := by
  obtain ⟨x, hx, rfl, rfl⟩ := as_wide ha hb
  by_cases h : rok n m
  · rcases Classical.em (I64 (rd x n m)) with hv | hv
    · exact near_fit x n m w hS hx (wf_i64 hn) h hv
    · exact near_over x n m w hS hx (wf_i64 hn) h hv
  · exact near_bad x n m w hS hx (wf_i64 hn) h
end Go.Proofs.YtieklkpjlbpnbaaDoor.Sp
