/-
  The walk of the live sample of the laws of package rounding.
-/
import Derived.Test.YtieklkpjlbpnbaaDoorSp5
namespace Go.Proofs.YtieklkpjlbpnbaaDoor.Sp
open Go.RowKit
open Go.Proofs.YtieklkpjlbpnbaaDoor
open Go.Proofs.YtieklkpjlbpnbaaDoor.Wm Go.Proofs.YtieklkpjlbpnbaaDoor.Wt Go.Proofs.YtieklkpjlbpnbaaDoor.Rd

theorem lv1 : rdV (-5) 2 6 = -2 ∧ rdE (-5) 2 6 = 0 := by
  have hk : rok 2 6 := ⟨by omega, by omega, by omega⟩
  rw [(rd_yes hk).1, (rd_yes hk).2]; decide
theorem lv2 : rdV (-5) 2 5 = -3 ∧ rdE (-5) 2 5 = 0 := by
  have hk : rok 2 5 := ⟨by omega, by omega, by omega⟩
  rw [(rd_yes hk).1, (rd_yes hk).2]; decide
theorem lv3 : amV 6588000000000 6 = 4 ∧ amR 6588000000000 6 = 175680000000 ∧ amE 6588000000000 6 = 0 := by
  have hk : rok 1603080000000 6 := ⟨by omega, by omega, by omega⟩
  have h0 : rdE 6588000000000 1603080000000 6 = 0 := by rw [(rd_yes hk).2]; decide
  have h1 : rdV 6588000000000 1603080000000 6 = 4 := by rw [(rd_yes hk).1]; decide
  have h2 := am_ok (g := 6588000000000) (m := 6) h0 (by rw [h1]; decide)
  rw [h2.1, h2.2.1, h2.2.2, h1]; decide
theorem lv4 : pcV 1005 5000 2 = 6 ∧ pcE 1005 5000 2 = 0 := by
  have hk : rok 1000000 2 := ⟨by omega, by omega, by omega⟩
  unfold pcV pcE
  rw [if_pos (by unfold gd; omega), if_pos (by unfold gd; omega), (rd_yes hk).1, (rd_yes hk).2]; decide
theorem lv5 : stV 1250 100 5 = 1300 ∧ stE 1250 100 5 = 0 := by
  have h : stE 1250 100 5 = 0 := by decide
  unfold stV
  rw [h]; decide
theorem lv6 : okS (-7) [1, 0, 2] ∧ out (-7) [1, 0, 2] = [-2, 0, -5] := by
  have hr : rng [1, 0, 2] := ⟨by decide, fun j hj => by
    have : j = 0 ∨ j = 1 ∨ j = 2 := by simp at hj; omega
    rcases this with rfl | rfl | rfl <;> decide⟩
  exact ⟨⟨by unfold gd; omega, by rw [(t_yes hr).2]; decide⟩, by decide⟩
set_option maxRecDepth 100000 in
set_option maxHeartbeats 4000000 in
theorem live_any (w : World) (hS : Stp w) : Calls Tryd.prog 15 #[] w fun e w' => e = .returned (.bool true) ∧ Below w.heap.size w w' := by
  have b0 := Below.refl w.heap.size w
  have HO := Lib.hid (fun (n : Int) (W : World) (hn : I64 n) => rof_any n W hn)
  have C1 : Hid (∀ W : World, Stp W → Calls Tryd.prog 11 #[.agg #[.int .i64 (hi (-5)), .int .u64 (lo (-5))], .int .i64 2, .int .i64 6] W fun e w' => e = .returned (.tuple #[.int .i64 (-2), .int .i64 0]) ∧ Below W.heap.size W w') := Lib.hid (fun W hS => by
    have := rd_any (-5) 2 6 W hS (by unfold I128; omega) (by unfold I64; omega)
    unfold DPost at this
    rw [lv1.1, lv1.2] at this
    exact this)
  have C2 : Hid (∀ W : World, Stp W → Calls Tryd.prog 11 #[.agg #[.int .i64 (hi (-5)), .int .u64 (lo (-5))], .int .i64 2, .int .i64 5] W fun e w' => e = .returned (.tuple #[.int .i64 (-3), .int .i64 0]) ∧ Below W.heap.size W w') := Lib.hid (fun W hS => by
    have := rd_any (-5) 2 5 W hS (by unfold I128; omega) (by unfold I64; omega)
    unfold DPost at this
    rw [lv2.1, lv2.2] at this
    exact this)
  have C3 : Hid (∀ W : World, Stp W → Calls Tryd.prog 16 #[.agg #[.int .i64 0, .int .u64 6588000000000], .int .i64 6] W fun e w' => e = .returned (.tuple #[.int .i64 4, .agg #[.int .i64 0, .int .u64 175680000000], .int .i64 0]) ∧ Below W.heap.size W w') := Lib.hid (fun W hS => by
    have := amount_any 6588000000000 6 W hS (by unfold I128; omega)
    unfold APost at this
    rw [lv3.1, lv3.2.1, lv3.2.2, show hi 6588000000000 = 0 by decide, show lo 6588000000000 = 6588000000000 by decide, show hi 175680000000 = 0 by decide, show lo 175680000000 = 175680000000 by decide] at this
    exact this)
  have C4 : Hid (∀ (W : World) (b : Nat), Bk.Blk W b #[.int .i64 1, .int .i64 0, .int .i64 2] 3 → Calls Tryd.prog 24 #[.int .i64 (-7), .slice (some ⟨b, 0, none⟩) 3 3] W fun e w' => ∃ g, e = .returned (.tuple #[.slice (some ⟨g, 0, none⟩) 3 3, .int .i64 0]) ∧ Bk.Blk w' g #[.int .i64 (-2), .int .i64 0, .int .i64 (-5)] 3 ∧ Below W.heap.size W w') := Lib.hid (fun W b hk => by
    refine (split_any (-7) b 0 3 [1, 0, 2] W (by decide) (by decide) (fun j hj => ?_)).mono ?_
    · rw [hk.cell]
      have : j = 0 ∨ j = 1 ∨ j = 2 := by simp at hj; omega
      rcases this with rfl | rfl | rfl <;> rfl
    · rintro e w' ⟨hb, ⟨_, g, _, rfl, hg⟩ | ⟨hn, _⟩⟩
      · rw [lv6.2] at hg
        exact ⟨g, rfl, hg, hb⟩
      · exact absurd lv6.1 hn)
  have C5 : Hid (∀ W : World, Stp W → Calls Tryd.prog 22 #[.int .i64 1005, .int .i64 5000, .int .i64 2] W fun e w' => e = .returned (.tuple #[.int .i64 6, .int .i64 0]) ∧ Below W.heap.size W w') := Lib.hid (fun W hS => by
    have := percent_any 1005 5000 2 W hS (by unfold I64; omega) (by unfold I64; omega)
    unfold PPost at this
    rw [lv4.1, lv4.2] at this
    exact this)
  have C6 : Hid (∀ W : World, Stp W → Calls Tryd.prog 29 #[.int .i64 1250, .int .i64 100, .int .i64 5] W fun e w' => e = .returned (.tuple #[.int .i64 1300, .int .i64 0]) ∧ Below W.heap.size W w') := Lib.hid (fun W hS => by
    have := step_any 1250 100 5 W hS (by unfold I64; omega) (by unfold I64; omega)
    unfold SPost at this
    rw [lv5.1, lv5.2] at this
    exact this)
  have C7 : Hid (∀ W : World, Calls Tryd.prog 21 #[.int .i64 175680000000] W fun e w' => e = .returned (.agg #[.int .i64 0, .int .u64 175680000000]) ∧ Below W.heap.size W w') := Lib.hid (fun W => by
    have := rof_any 175680000000 W (by unfold I64; omega)
    rw [show hi 175680000000 = 0 by decide, show lo 175680000000 = 175680000000 by decide] at this
    exact this)
  go_enter Tryd.func15, Tryd.ntmps15
  go_wp2_with fail
  refine (HO.out (-5) _ (by unfold I64; omega)).mono ?_
  rintro e w1 ⟨rfl, hb1⟩
  have b1 : Below w.heap.size w w1 := bl2 hb1 (by repeat (first | assumption | exact Below.refl _ _ | refine Below.setCell ?_ (by first | exact Nat.le_refl _ | (simp; done) | (simp; omega) | omega) _ | refine Below.alloc ?_ (by first | exact Nat.le_refl _ | (simp; done) | (simp; omega) | omega) _ | refine Below.drew ?_ | exact Nat.le_refl _))
  have z1 := b1.size
  repeat (rename Bk.Blk w _ _ _ => hq; (first | (have hq' := Bk.Blk.carry hq hb1 (by (repeat (first | with_reducible refine Bk.Blk.drew ?_ | with_reducible refine Bk.Blk.set_same ?_ | with_reducible refine Bk.Blk.set_ne ?_ (by omega) | with_reducible refine Bk.Blk.alloc ?_)); (with_reducible exact hq))) | (have hq' := Bk.Blk.later hb1 (Bk.Blk.set2 hq)) | skip); clear hq)
  try (have hn := Bk.Blk.later (g := (w).heap.size) hb1 (by first | with_reducible exact Bk.Blk.nw10 | with_reducible exact Bk.Blk.nw20 | with_reducible exact Bk.Blk.nw21 | with_reducible exact Bk.Blk.nw30 | with_reducible exact Bk.Blk.nw31 | with_reducible exact Bk.Blk.nw32 | with_reducible exact Bk.Blk.nw40 | with_reducible exact Bk.Blk.nw41 | with_reducible exact Bk.Blk.nw42 | with_reducible exact Bk.Blk.nw43))
  try (have hn := Bk.Blk.later (g := (w).heap.size + 1) hb1 (by first | with_reducible exact Bk.Blk.nw10 | with_reducible exact Bk.Blk.nw20 | with_reducible exact Bk.Blk.nw21 | with_reducible exact Bk.Blk.nw30 | with_reducible exact Bk.Blk.nw31 | with_reducible exact Bk.Blk.nw32 | with_reducible exact Bk.Blk.nw40 | with_reducible exact Bk.Blk.nw41 | with_reducible exact Bk.Blk.nw42 | with_reducible exact Bk.Blk.nw43))
  try (have hn := Bk.Blk.later (g := (w).heap.size + 2) hb1 (by first | with_reducible exact Bk.Blk.nw10 | with_reducible exact Bk.Blk.nw20 | with_reducible exact Bk.Blk.nw21 | with_reducible exact Bk.Blk.nw30 | with_reducible exact Bk.Blk.nw31 | with_reducible exact Bk.Blk.nw32 | with_reducible exact Bk.Blk.nw40 | with_reducible exact Bk.Blk.nw41 | with_reducible exact Bk.Blk.nw42 | with_reducible exact Bk.Blk.nw43))
  try (have hn := Bk.Blk.later (g := (w).heap.size + 3) hb1 (by first | with_reducible exact Bk.Blk.nw10 | with_reducible exact Bk.Blk.nw20 | with_reducible exact Bk.Blk.nw21 | with_reducible exact Bk.Blk.nw30 | with_reducible exact Bk.Blk.nw31 | with_reducible exact Bk.Blk.nw32 | with_reducible exact Bk.Blk.nw40 | with_reducible exact Bk.Blk.nw41 | with_reducible exact Bk.Blk.nw42 | with_reducible exact Bk.Blk.nw43))
  clear hb1
  repeat (rename World.cell? w _ = _ => hq; clear hq)
  repeat (rename World.frozen? w _ = _ => hq; clear hq)
  repeat (rename Bk.Blk w1 _ _ _ => hq; (first | (have _k0 := (hq).c0; have _m0 := (hq).f0) | skip); (first | (have _k1 := (hq).c1; have _m1 := (hq).f1) | skip); (first | (have _k2 := (hq).c2; have _m2 := (hq).f2) | skip); (first | (have _k3 := (hq).c3; have _m3 := (hq).f3) | skip); have _z := (hq).lt; have hk := Bk.Kept.mk hq; clear hq)
  repeat (rename Bk.Kept (Bk.Blk w1 _ _ _) => hq; have hq' := hq.out; clear hq)
  go_wp2_with fail
  refine (C1.out _ (hS.of (by repeat (first | assumption | exact Below.refl _ _ | refine Below.setCell ?_ (by first | exact Nat.le_refl _ | (simp; done) | (simp; omega) | omega) _ | refine Below.alloc ?_ (by first | exact Nat.le_refl _ | (simp; done) | (simp; omega) | omega) _ | refine Below.drew ?_ | exact Nat.le_refl _)))).mono ?_
  rintro e w2 ⟨rfl, hb2⟩
  have b2 : Below w.heap.size w w2 := bl2 hb2 (by repeat (first | assumption | exact Below.refl _ _ | refine Below.setCell ?_ (by first | exact Nat.le_refl _ | (simp; done) | (simp; omega) | omega) _ | refine Below.alloc ?_ (by first | exact Nat.le_refl _ | (simp; done) | (simp; omega) | omega) _ | refine Below.drew ?_ | exact Nat.le_refl _))
  have z2 := b2.size
  repeat (rename Bk.Blk w1 _ _ _ => hq; (first | (have hq' := Bk.Blk.carry hq hb2 (by (repeat (first | with_reducible refine Bk.Blk.drew ?_ | with_reducible refine Bk.Blk.set_same ?_ | with_reducible refine Bk.Blk.set_ne ?_ (by omega) | with_reducible refine Bk.Blk.alloc ?_)); (with_reducible exact hq))) | (have hq' := Bk.Blk.later hb2 (Bk.Blk.set2 hq)) | skip); clear hq)
  try (have hn := Bk.Blk.later (g := (w1).heap.size) hb2 (by first | with_reducible exact Bk.Blk.nw10 | with_reducible exact Bk.Blk.nw20 | with_reducible exact Bk.Blk.nw21 | with_reducible exact Bk.Blk.nw30 | with_reducible exact Bk.Blk.nw31 | with_reducible exact Bk.Blk.nw32 | with_reducible exact Bk.Blk.nw40 | with_reducible exact Bk.Blk.nw41 | with_reducible exact Bk.Blk.nw42 | with_reducible exact Bk.Blk.nw43))
  try (have hn := Bk.Blk.later (g := (w1).heap.size + 1) hb2 (by first | with_reducible exact Bk.Blk.nw10 | with_reducible exact Bk.Blk.nw20 | with_reducible exact Bk.Blk.nw21 | with_reducible exact Bk.Blk.nw30 | with_reducible exact Bk.Blk.nw31 | with_reducible exact Bk.Blk.nw32 | with_reducible exact Bk.Blk.nw40 | with_reducible exact Bk.Blk.nw41 | with_reducible exact Bk.Blk.nw42 | with_reducible exact Bk.Blk.nw43))
  try (have hn := Bk.Blk.later (g := (w1).heap.size + 2) hb2 (by first | with_reducible exact Bk.Blk.nw10 | with_reducible exact Bk.Blk.nw20 | with_reducible exact Bk.Blk.nw21 | with_reducible exact Bk.Blk.nw30 | with_reducible exact Bk.Blk.nw31 | with_reducible exact Bk.Blk.nw32 | with_reducible exact Bk.Blk.nw40 | with_reducible exact Bk.Blk.nw41 | with_reducible exact Bk.Blk.nw42 | with_reducible exact Bk.Blk.nw43))
  try (have hn := Bk.Blk.later (g := (w1).heap.size + 3) hb2 (by first | with_reducible exact Bk.Blk.nw10 | with_reducible exact Bk.Blk.nw20 | with_reducible exact Bk.Blk.nw21 | with_reducible exact Bk.Blk.nw30 | with_reducible exact Bk.Blk.nw31 | with_reducible exact Bk.Blk.nw32 | with_reducible exact Bk.Blk.nw40 | with_reducible exact Bk.Blk.nw41 | with_reducible exact Bk.Blk.nw42 | with_reducible exact Bk.Blk.nw43))
  clear hb2
  repeat (rename World.cell? w1 _ = _ => hq; clear hq)
  repeat (rename World.frozen? w1 _ = _ => hq; clear hq)
  repeat (rename Bk.Blk w2 _ _ _ => hq; (first | (have _k0 := (hq).c0; have _m0 := (hq).f0) | skip); (first | (have _k1 := (hq).c1; have _m1 := (hq).f1) | skip); (first | (have _k2 := (hq).c2; have _m2 := (hq).f2) | skip); (first | (have _k3 := (hq).c3; have _m3 := (hq).f3) | skip); have _z := (hq).lt; have hk := Bk.Kept.mk hq; clear hq)
  repeat (rename Bk.Kept (Bk.Blk w2 _ _ _) => hq; have hq' := hq.out; clear hq)
  go_wp2_with fail
  refine (HO.out (-5) _ (by unfold I64; omega)).mono ?_
  rintro e w3 ⟨rfl, hb3⟩
  have b3 : Below w.heap.size w w3 := bl2 hb3 (by repeat (first | assumption | exact Below.refl _ _ | refine Below.setCell ?_ (by first | exact Nat.le_refl _ | (simp; done) | (simp; omega) | omega) _ | refine Below.alloc ?_ (by first | exact Nat.le_refl _ | (simp; done) | (simp; omega) | omega) _ | refine Below.drew ?_ | exact Nat.le_refl _))
  have z3 := b3.size
  repeat (rename Bk.Blk w2 _ _ _ => hq; (first | (have hq' := Bk.Blk.carry hq hb3 (by (repeat (first | with_reducible refine Bk.Blk.drew ?_ | with_reducible refine Bk.Blk.set_same ?_ | with_reducible refine Bk.Blk.set_ne ?_ (by omega) | with_reducible refine Bk.Blk.alloc ?_)); (with_reducible exact hq))) | (have hq' := Bk.Blk.later hb3 (Bk.Blk.set2 hq)) | skip); clear hq)
  try (have hn := Bk.Blk.later (g := (w2).heap.size) hb3 (by first | with_reducible exact Bk.Blk.nw10 | with_reducible exact Bk.Blk.nw20 | with_reducible exact Bk.Blk.nw21 | with_reducible exact Bk.Blk.nw30 | with_reducible exact Bk.Blk.nw31 | with_reducible exact Bk.Blk.nw32 | with_reducible exact Bk.Blk.nw40 | with_reducible exact Bk.Blk.nw41 | with_reducible exact Bk.Blk.nw42 | with_reducible exact Bk.Blk.nw43))
  try (have hn := Bk.Blk.later (g := (w2).heap.size + 1) hb3 (by first | with_reducible exact Bk.Blk.nw10 | with_reducible exact Bk.Blk.nw20 | with_reducible exact Bk.Blk.nw21 | with_reducible exact Bk.Blk.nw30 | with_reducible exact Bk.Blk.nw31 | with_reducible exact Bk.Blk.nw32 | with_reducible exact Bk.Blk.nw40 | with_reducible exact Bk.Blk.nw41 | with_reducible exact Bk.Blk.nw42 | with_reducible exact Bk.Blk.nw43))
  try (have hn := Bk.Blk.later (g := (w2).heap.size + 2) hb3 (by first | with_reducible exact Bk.Blk.nw10 | with_reducible exact Bk.Blk.nw20 | with_reducible exact Bk.Blk.nw21 | with_reducible exact Bk.Blk.nw30 | with_reducible exact Bk.Blk.nw31 | with_reducible exact Bk.Blk.nw32 | with_reducible exact Bk.Blk.nw40 | with_reducible exact Bk.Blk.nw41 | with_reducible exact Bk.Blk.nw42 | with_reducible exact Bk.Blk.nw43))
  try (have hn := Bk.Blk.later (g := (w2).heap.size + 3) hb3 (by first | with_reducible exact Bk.Blk.nw10 | with_reducible exact Bk.Blk.nw20 | with_reducible exact Bk.Blk.nw21 | with_reducible exact Bk.Blk.nw30 | with_reducible exact Bk.Blk.nw31 | with_reducible exact Bk.Blk.nw32 | with_reducible exact Bk.Blk.nw40 | with_reducible exact Bk.Blk.nw41 | with_reducible exact Bk.Blk.nw42 | with_reducible exact Bk.Blk.nw43))
  clear hb3
  repeat (rename World.cell? w2 _ = _ => hq; clear hq)
  repeat (rename World.frozen? w2 _ = _ => hq; clear hq)
  repeat (rename Bk.Blk w3 _ _ _ => hq; (first | (have _k0 := (hq).c0; have _m0 := (hq).f0) | skip); (first | (have _k1 := (hq).c1; have _m1 := (hq).f1) | skip); (first | (have _k2 := (hq).c2; have _m2 := (hq).f2) | skip); (first | (have _k3 := (hq).c3; have _m3 := (hq).f3) | skip); have _z := (hq).lt; have hk := Bk.Kept.mk hq; clear hq)
  repeat (rename Bk.Kept (Bk.Blk w3 _ _ _) => hq; have hq' := hq.out; clear hq)
  go_wp2_with fail
  refine (C2.out _ (hS.of (by repeat (first | assumption | exact Below.refl _ _ | refine Below.setCell ?_ (by first | exact Nat.le_refl _ | (simp; done) | (simp; omega) | omega) _ | refine Below.alloc ?_ (by first | exact Nat.le_refl _ | (simp; done) | (simp; omega) | omega) _ | refine Below.drew ?_ | exact Nat.le_refl _)))).mono ?_
  rintro e w4 ⟨rfl, hb4⟩
  have b4 : Below w.heap.size w w4 := bl2 hb4 (by repeat (first | assumption | exact Below.refl _ _ | refine Below.setCell ?_ (by first | exact Nat.le_refl _ | (simp; done) | (simp; omega) | omega) _ | refine Below.alloc ?_ (by first | exact Nat.le_refl _ | (simp; done) | (simp; omega) | omega) _ | refine Below.drew ?_ | exact Nat.le_refl _))
  have z4 := b4.size
  repeat (rename Bk.Blk w3 _ _ _ => hq; (first | (have hq' := Bk.Blk.carry hq hb4 (by (repeat (first | with_reducible refine Bk.Blk.drew ?_ | with_reducible refine Bk.Blk.set_same ?_ | with_reducible refine Bk.Blk.set_ne ?_ (by omega) | with_reducible refine Bk.Blk.alloc ?_)); (with_reducible exact hq))) | (have hq' := Bk.Blk.later hb4 (Bk.Blk.set2 hq)) | skip); clear hq)
  try (have hn := Bk.Blk.later (g := (w3).heap.size) hb4 (by first | with_reducible exact Bk.Blk.nw10 | with_reducible exact Bk.Blk.nw20 | with_reducible exact Bk.Blk.nw21 | with_reducible exact Bk.Blk.nw30 | with_reducible exact Bk.Blk.nw31 | with_reducible exact Bk.Blk.nw32 | with_reducible exact Bk.Blk.nw40 | with_reducible exact Bk.Blk.nw41 | with_reducible exact Bk.Blk.nw42 | with_reducible exact Bk.Blk.nw43))
  try (have hn := Bk.Blk.later (g := (w3).heap.size + 1) hb4 (by first | with_reducible exact Bk.Blk.nw10 | with_reducible exact Bk.Blk.nw20 | with_reducible exact Bk.Blk.nw21 | with_reducible exact Bk.Blk.nw30 | with_reducible exact Bk.Blk.nw31 | with_reducible exact Bk.Blk.nw32 | with_reducible exact Bk.Blk.nw40 | with_reducible exact Bk.Blk.nw41 | with_reducible exact Bk.Blk.nw42 | with_reducible exact Bk.Blk.nw43))
  try (have hn := Bk.Blk.later (g := (w3).heap.size + 2) hb4 (by first | with_reducible exact Bk.Blk.nw10 | with_reducible exact Bk.Blk.nw20 | with_reducible exact Bk.Blk.nw21 | with_reducible exact Bk.Blk.nw30 | with_reducible exact Bk.Blk.nw31 | with_reducible exact Bk.Blk.nw32 | with_reducible exact Bk.Blk.nw40 | with_reducible exact Bk.Blk.nw41 | with_reducible exact Bk.Blk.nw42 | with_reducible exact Bk.Blk.nw43))
  try (have hn := Bk.Blk.later (g := (w3).heap.size + 3) hb4 (by first | with_reducible exact Bk.Blk.nw10 | with_reducible exact Bk.Blk.nw20 | with_reducible exact Bk.Blk.nw21 | with_reducible exact Bk.Blk.nw30 | with_reducible exact Bk.Blk.nw31 | with_reducible exact Bk.Blk.nw32 | with_reducible exact Bk.Blk.nw40 | with_reducible exact Bk.Blk.nw41 | with_reducible exact Bk.Blk.nw42 | with_reducible exact Bk.Blk.nw43))
  clear hb4
  repeat (rename World.cell? w3 _ = _ => hq; clear hq)
  repeat (rename World.frozen? w3 _ = _ => hq; clear hq)
  repeat (rename Bk.Blk w4 _ _ _ => hq; (first | (have _k0 := (hq).c0; have _m0 := (hq).f0) | skip); (first | (have _k1 := (hq).c1; have _m1 := (hq).f1) | skip); (first | (have _k2 := (hq).c2; have _m2 := (hq).f2) | skip); (first | (have _k3 := (hq).c3; have _m3 := (hq).f3) | skip); have _z := (hq).lt; have hk := Bk.Kept.mk hq; clear hq)
  repeat (rename Bk.Kept (Bk.Blk w4 _ _ _) => hq; have hq' := hq.out; clear hq)
  go_wp2_with fail
  refine (C3.out _ (hS.of (by repeat (first | assumption | exact Below.refl _ _ | refine Below.setCell ?_ (by first | exact Nat.le_refl _ | (simp; done) | (simp; omega) | omega) _ | refine Below.alloc ?_ (by first | exact Nat.le_refl _ | (simp; done) | (simp; omega) | omega) _ | refine Below.drew ?_ | exact Nat.le_refl _)))).mono ?_
  rintro e w5 ⟨rfl, hb5⟩
  have b5 : Below w.heap.size w w5 := bl2 hb5 (by repeat (first | assumption | exact Below.refl _ _ | refine Below.setCell ?_ (by first | exact Nat.le_refl _ | (simp; done) | (simp; omega) | omega) _ | refine Below.alloc ?_ (by first | exact Nat.le_refl _ | (simp; done) | (simp; omega) | omega) _ | refine Below.drew ?_ | exact Nat.le_refl _))
  have z5 := b5.size
  repeat (rename Bk.Blk w4 _ _ _ => hq; (first | (have hq' := Bk.Blk.carry hq hb5 (by (repeat (first | with_reducible refine Bk.Blk.drew ?_ | with_reducible refine Bk.Blk.set_same ?_ | with_reducible refine Bk.Blk.set_ne ?_ (by omega) | with_reducible refine Bk.Blk.alloc ?_)); (with_reducible exact hq))) | (have hq' := Bk.Blk.later hb5 (Bk.Blk.set2 hq)) | skip); clear hq)
  try (have hn := Bk.Blk.later (g := (w4).heap.size) hb5 (by first | with_reducible exact Bk.Blk.nw10 | with_reducible exact Bk.Blk.nw20 | with_reducible exact Bk.Blk.nw21 | with_reducible exact Bk.Blk.nw30 | with_reducible exact Bk.Blk.nw31 | with_reducible exact Bk.Blk.nw32 | with_reducible exact Bk.Blk.nw40 | with_reducible exact Bk.Blk.nw41 | with_reducible exact Bk.Blk.nw42 | with_reducible exact Bk.Blk.nw43))
  try (have hn := Bk.Blk.later (g := (w4).heap.size + 1) hb5 (by first | with_reducible exact Bk.Blk.nw10 | with_reducible exact Bk.Blk.nw20 | with_reducible exact Bk.Blk.nw21 | with_reducible exact Bk.Blk.nw30 | with_reducible exact Bk.Blk.nw31 | with_reducible exact Bk.Blk.nw32 | with_reducible exact Bk.Blk.nw40 | with_reducible exact Bk.Blk.nw41 | with_reducible exact Bk.Blk.nw42 | with_reducible exact Bk.Blk.nw43))
  try (have hn := Bk.Blk.later (g := (w4).heap.size + 2) hb5 (by first | with_reducible exact Bk.Blk.nw10 | with_reducible exact Bk.Blk.nw20 | with_reducible exact Bk.Blk.nw21 | with_reducible exact Bk.Blk.nw30 | with_reducible exact Bk.Blk.nw31 | with_reducible exact Bk.Blk.nw32 | with_reducible exact Bk.Blk.nw40 | with_reducible exact Bk.Blk.nw41 | with_reducible exact Bk.Blk.nw42 | with_reducible exact Bk.Blk.nw43))
  try (have hn := Bk.Blk.later (g := (w4).heap.size + 3) hb5 (by first | with_reducible exact Bk.Blk.nw10 | with_reducible exact Bk.Blk.nw20 | with_reducible exact Bk.Blk.nw21 | with_reducible exact Bk.Blk.nw30 | with_reducible exact Bk.Blk.nw31 | with_reducible exact Bk.Blk.nw32 | with_reducible exact Bk.Blk.nw40 | with_reducible exact Bk.Blk.nw41 | with_reducible exact Bk.Blk.nw42 | with_reducible exact Bk.Blk.nw43))
  clear hb5
  repeat (rename World.cell? w4 _ = _ => hq; clear hq)
  repeat (rename World.frozen? w4 _ = _ => hq; clear hq)
  repeat (rename Bk.Blk w5 _ _ _ => hq; (first | (have _k0 := (hq).c0; have _m0 := (hq).f0) | skip); (first | (have _k1 := (hq).c1; have _m1 := (hq).f1) | skip); (first | (have _k2 := (hq).c2; have _m2 := (hq).f2) | skip); (first | (have _k3 := (hq).c3; have _m3 := (hq).f3) | skip); have _z := (hq).lt; have hk := Bk.Kept.mk hq; clear hq)
  repeat (rename Bk.Kept (Bk.Blk w5 _ _ _) => hq; have hq' := hq.out; clear hq)
  go_wp2_with fail
  refine (C4.out _ _ Bk.Blk.nw21).mono ?_
  rintro e w6 ⟨g, rfl, hg, hb6⟩
  have b6 : Below w.heap.size w w6 := bl2 hb6 (by repeat (first | assumption | exact Below.refl _ _ | refine Below.setCell ?_ (by first | exact Nat.le_refl _ | (simp; done) | (simp; omega) | omega) _ | refine Below.alloc ?_ (by first | exact Nat.le_refl _ | (simp; done) | (simp; omega) | omega) _ | refine Below.drew ?_ | exact Nat.le_refl _))
  have z6 := b6.size
  repeat (rename Bk.Blk w5 _ _ _ => hq; (first | (have hq' := Bk.Blk.carry hq hb6 (by (repeat (first | with_reducible refine Bk.Blk.drew ?_ | with_reducible refine Bk.Blk.set_same ?_ | with_reducible refine Bk.Blk.set_ne ?_ (by omega) | with_reducible refine Bk.Blk.alloc ?_)); (with_reducible exact hq))) | (have hq' := Bk.Blk.later hb6 (Bk.Blk.set2 hq)) | skip); clear hq)
  try (have hn := Bk.Blk.later (g := (w5).heap.size) hb6 (by first | with_reducible exact Bk.Blk.nw10 | with_reducible exact Bk.Blk.nw20 | with_reducible exact Bk.Blk.nw21 | with_reducible exact Bk.Blk.nw30 | with_reducible exact Bk.Blk.nw31 | with_reducible exact Bk.Blk.nw32 | with_reducible exact Bk.Blk.nw40 | with_reducible exact Bk.Blk.nw41 | with_reducible exact Bk.Blk.nw42 | with_reducible exact Bk.Blk.nw43))
  try (have hn := Bk.Blk.later (g := (w5).heap.size + 1) hb6 (by first | with_reducible exact Bk.Blk.nw10 | with_reducible exact Bk.Blk.nw20 | with_reducible exact Bk.Blk.nw21 | with_reducible exact Bk.Blk.nw30 | with_reducible exact Bk.Blk.nw31 | with_reducible exact Bk.Blk.nw32 | with_reducible exact Bk.Blk.nw40 | with_reducible exact Bk.Blk.nw41 | with_reducible exact Bk.Blk.nw42 | with_reducible exact Bk.Blk.nw43))
  try (have hn := Bk.Blk.later (g := (w5).heap.size + 2) hb6 (by first | with_reducible exact Bk.Blk.nw10 | with_reducible exact Bk.Blk.nw20 | with_reducible exact Bk.Blk.nw21 | with_reducible exact Bk.Blk.nw30 | with_reducible exact Bk.Blk.nw31 | with_reducible exact Bk.Blk.nw32 | with_reducible exact Bk.Blk.nw40 | with_reducible exact Bk.Blk.nw41 | with_reducible exact Bk.Blk.nw42 | with_reducible exact Bk.Blk.nw43))
  try (have hn := Bk.Blk.later (g := (w5).heap.size + 3) hb6 (by first | with_reducible exact Bk.Blk.nw10 | with_reducible exact Bk.Blk.nw20 | with_reducible exact Bk.Blk.nw21 | with_reducible exact Bk.Blk.nw30 | with_reducible exact Bk.Blk.nw31 | with_reducible exact Bk.Blk.nw32 | with_reducible exact Bk.Blk.nw40 | with_reducible exact Bk.Blk.nw41 | with_reducible exact Bk.Blk.nw42 | with_reducible exact Bk.Blk.nw43))
  clear hb6
  repeat (rename World.cell? w5 _ = _ => hq; clear hq)
  repeat (rename World.frozen? w5 _ = _ => hq; clear hq)
  repeat (rename Bk.Blk w6 _ _ _ => hq; (first | (have _k0 := (hq).c0; have _m0 := (hq).f0) | skip); (first | (have _k1 := (hq).c1; have _m1 := (hq).f1) | skip); (first | (have _k2 := (hq).c2; have _m2 := (hq).f2) | skip); (first | (have _k3 := (hq).c3; have _m3 := (hq).f3) | skip); have _z := (hq).lt; have hk := Bk.Kept.mk hq; clear hq)
  repeat (rename Bk.Kept (Bk.Blk w6 _ _ _) => hq; have hq' := hq.out; clear hq)
  go_wp2_with fail
  refine (C5.out _ (hS.of (by repeat (first | assumption | exact Below.refl _ _ | refine Below.setCell ?_ (by first | exact Nat.le_refl _ | (simp; done) | (simp; omega) | omega) _ | refine Below.alloc ?_ (by first | exact Nat.le_refl _ | (simp; done) | (simp; omega) | omega) _ | refine Below.drew ?_ | exact Nat.le_refl _)))).mono ?_
  rintro e w7 ⟨rfl, hb7⟩
  have b7 : Below w.heap.size w w7 := bl2 hb7 (by repeat (first | assumption | exact Below.refl _ _ | refine Below.setCell ?_ (by first | exact Nat.le_refl _ | (simp; done) | (simp; omega) | omega) _ | refine Below.alloc ?_ (by first | exact Nat.le_refl _ | (simp; done) | (simp; omega) | omega) _ | refine Below.drew ?_ | exact Nat.le_refl _))
  have z7 := b7.size
  repeat (rename Bk.Blk w6 _ _ _ => hq; (first | (have hq' := Bk.Blk.carry hq hb7 (by (repeat (first | with_reducible refine Bk.Blk.drew ?_ | with_reducible refine Bk.Blk.set_same ?_ | with_reducible refine Bk.Blk.set_ne ?_ (by omega) | with_reducible refine Bk.Blk.alloc ?_)); (with_reducible exact hq))) | (have hq' := Bk.Blk.later hb7 (Bk.Blk.set2 hq)) | skip); clear hq)
  try (have hn := Bk.Blk.later (g := (w6).heap.size) hb7 (by first | with_reducible exact Bk.Blk.nw10 | with_reducible exact Bk.Blk.nw20 | with_reducible exact Bk.Blk.nw21 | with_reducible exact Bk.Blk.nw30 | with_reducible exact Bk.Blk.nw31 | with_reducible exact Bk.Blk.nw32 | with_reducible exact Bk.Blk.nw40 | with_reducible exact Bk.Blk.nw41 | with_reducible exact Bk.Blk.nw42 | with_reducible exact Bk.Blk.nw43))
  try (have hn := Bk.Blk.later (g := (w6).heap.size + 1) hb7 (by first | with_reducible exact Bk.Blk.nw10 | with_reducible exact Bk.Blk.nw20 | with_reducible exact Bk.Blk.nw21 | with_reducible exact Bk.Blk.nw30 | with_reducible exact Bk.Blk.nw31 | with_reducible exact Bk.Blk.nw32 | with_reducible exact Bk.Blk.nw40 | with_reducible exact Bk.Blk.nw41 | with_reducible exact Bk.Blk.nw42 | with_reducible exact Bk.Blk.nw43))
  try (have hn := Bk.Blk.later (g := (w6).heap.size + 2) hb7 (by first | with_reducible exact Bk.Blk.nw10 | with_reducible exact Bk.Blk.nw20 | with_reducible exact Bk.Blk.nw21 | with_reducible exact Bk.Blk.nw30 | with_reducible exact Bk.Blk.nw31 | with_reducible exact Bk.Blk.nw32 | with_reducible exact Bk.Blk.nw40 | with_reducible exact Bk.Blk.nw41 | with_reducible exact Bk.Blk.nw42 | with_reducible exact Bk.Blk.nw43))
  try (have hn := Bk.Blk.later (g := (w6).heap.size + 3) hb7 (by first | with_reducible exact Bk.Blk.nw10 | with_reducible exact Bk.Blk.nw20 | with_reducible exact Bk.Blk.nw21 | with_reducible exact Bk.Blk.nw30 | with_reducible exact Bk.Blk.nw31 | with_reducible exact Bk.Blk.nw32 | with_reducible exact Bk.Blk.nw40 | with_reducible exact Bk.Blk.nw41 | with_reducible exact Bk.Blk.nw42 | with_reducible exact Bk.Blk.nw43))
  clear hb7
  repeat (rename World.cell? w6 _ = _ => hq; clear hq)
  repeat (rename World.frozen? w6 _ = _ => hq; clear hq)
  repeat (rename Bk.Blk w7 _ _ _ => hq; (first | (have _k0 := (hq).c0; have _m0 := (hq).f0) | skip); (first | (have _k1 := (hq).c1; have _m1 := (hq).f1) | skip); (first | (have _k2 := (hq).c2; have _m2 := (hq).f2) | skip); (first | (have _k3 := (hq).c3; have _m3 := (hq).f3) | skip); have _z := (hq).lt; have hk := Bk.Kept.mk hq; clear hq)
  repeat (rename Bk.Kept (Bk.Blk w7 _ _ _) => hq; have hq' := hq.out; clear hq)
  go_wp2_with fail
  refine (C6.out _ (hS.of (by repeat (first | assumption | exact Below.refl _ _ | refine Below.setCell ?_ (by first | exact Nat.le_refl _ | (simp; done) | (simp; omega) | omega) _ | refine Below.alloc ?_ (by first | exact Nat.le_refl _ | (simp; done) | (simp; omega) | omega) _ | refine Below.drew ?_ | exact Nat.le_refl _)))).mono ?_
  rintro e w8 ⟨rfl, hb8⟩
  have b8 : Below w.heap.size w w8 := bl2 hb8 (by repeat (first | assumption | exact Below.refl _ _ | refine Below.setCell ?_ (by first | exact Nat.le_refl _ | (simp; done) | (simp; omega) | omega) _ | refine Below.alloc ?_ (by first | exact Nat.le_refl _ | (simp; done) | (simp; omega) | omega) _ | refine Below.drew ?_ | exact Nat.le_refl _))
  have z8 := b8.size
  repeat (rename Bk.Blk w7 _ _ _ => hq; (first | (have hq' := Bk.Blk.carry hq hb8 (by (repeat (first | with_reducible refine Bk.Blk.drew ?_ | with_reducible refine Bk.Blk.set_same ?_ | with_reducible refine Bk.Blk.set_ne ?_ (by omega) | with_reducible refine Bk.Blk.alloc ?_)); (with_reducible exact hq))) | (have hq' := Bk.Blk.later hb8 (Bk.Blk.set2 hq)) | skip); clear hq)
  try (have hn := Bk.Blk.later (g := (w7).heap.size) hb8 (by first | with_reducible exact Bk.Blk.nw10 | with_reducible exact Bk.Blk.nw20 | with_reducible exact Bk.Blk.nw21 | with_reducible exact Bk.Blk.nw30 | with_reducible exact Bk.Blk.nw31 | with_reducible exact Bk.Blk.nw32 | with_reducible exact Bk.Blk.nw40 | with_reducible exact Bk.Blk.nw41 | with_reducible exact Bk.Blk.nw42 | with_reducible exact Bk.Blk.nw43))
  try (have hn := Bk.Blk.later (g := (w7).heap.size + 1) hb8 (by first | with_reducible exact Bk.Blk.nw10 | with_reducible exact Bk.Blk.nw20 | with_reducible exact Bk.Blk.nw21 | with_reducible exact Bk.Blk.nw30 | with_reducible exact Bk.Blk.nw31 | with_reducible exact Bk.Blk.nw32 | with_reducible exact Bk.Blk.nw40 | with_reducible exact Bk.Blk.nw41 | with_reducible exact Bk.Blk.nw42 | with_reducible exact Bk.Blk.nw43))
  try (have hn := Bk.Blk.later (g := (w7).heap.size + 2) hb8 (by first | with_reducible exact Bk.Blk.nw10 | with_reducible exact Bk.Blk.nw20 | with_reducible exact Bk.Blk.nw21 | with_reducible exact Bk.Blk.nw30 | with_reducible exact Bk.Blk.nw31 | with_reducible exact Bk.Blk.nw32 | with_reducible exact Bk.Blk.nw40 | with_reducible exact Bk.Blk.nw41 | with_reducible exact Bk.Blk.nw42 | with_reducible exact Bk.Blk.nw43))
  try (have hn := Bk.Blk.later (g := (w7).heap.size + 3) hb8 (by first | with_reducible exact Bk.Blk.nw10 | with_reducible exact Bk.Blk.nw20 | with_reducible exact Bk.Blk.nw21 | with_reducible exact Bk.Blk.nw30 | with_reducible exact Bk.Blk.nw31 | with_reducible exact Bk.Blk.nw32 | with_reducible exact Bk.Blk.nw40 | with_reducible exact Bk.Blk.nw41 | with_reducible exact Bk.Blk.nw42 | with_reducible exact Bk.Blk.nw43))
  clear hb8
  repeat (rename World.cell? w7 _ = _ => hq; clear hq)
  repeat (rename World.frozen? w7 _ = _ => hq; clear hq)
  repeat (rename Bk.Blk w8 _ _ _ => hq; (first | (have _k0 := (hq).c0; have _m0 := (hq).f0) | skip); (first | (have _k1 := (hq).c1; have _m1 := (hq).f1) | skip); (first | (have _k2 := (hq).c2; have _m2 := (hq).f2) | skip); (first | (have _k3 := (hq).c3; have _m3 := (hq).f3) | skip); have _z := (hq).lt; have hk := Bk.Kept.mk hq; clear hq)
  repeat (rename Bk.Kept (Bk.Blk w8 _ _ _) => hq; have hq' := hq.out; clear hq)
  go_wp2_with fail
  repeat (rename Bk.Blk w8 _ _ _ => hq; (first | (have _q0 := (hq).q0) | skip); (first | (have _q1 := (hq).q1) | skip); (first | (have _q2 := (hq).q2) | skip); (first | (have _q3 := (hq).q3) | skip); have hk := Bk.Kept.mk hq; clear hq)
  repeat (rename Bk.Kept (Bk.Blk w8 _ _ _) => hq; have hq' := hq.out; clear hq)
  refine Reg.region_quiet (by kernel_rfl) (by kernel_rfl) ?_
  iterate 28 (first | go_big_quiet_skip | (go_big_quiet_want; (first | (go_big_quiet_op; go_big_quiet_on) | (apply Reg.quiet_run; (intro W hW; skip; go_simp; (first | done | rfl | exact ⟨rfl, rfl⟩ )); (simp only [Act.put, List.setIfInBounds_toArray, List.set_cons_zero, List.set_cons_succ]; go_big_quiet_on)) | (apply Reg.quiet_call; (intro W hW; go_simp; (first | done | rfl | exact ⟨rfl, rfl⟩)); (intro W hW; (first | (go_at_call 21; exact Reg.cls_call hW (C7.out _)))); (simp only [Act.put, List.setIfInBounds_toArray, List.set_cons_zero, List.set_cons_succ]; go_big_quiet_on)))))
  repeat (rename ∀ W', Reg.Cls w8 W' → _ => hq; clear hq)
  refine wpQuiet_nil ?_
  intro w9 hW
  have hb9 : Below (w8).heap.size w8 w9 := hW
  clear hW
  have b9 : Below w.heap.size w w9 := bl2 hb9 (by repeat (first | assumption | exact Below.refl _ _ | refine Below.setCell ?_ (by first | exact Nat.le_refl _ | (simp; done) | (simp; omega) | omega) _ | refine Below.alloc ?_ (by first | exact Nat.le_refl _ | (simp; done) | (simp; omega) | omega) _ | refine Below.drew ?_ | exact Nat.le_refl _))
  have z9 := b9.size
  repeat (rename Bk.Blk w8 _ _ _ => hq; (first | (have hq' := Bk.Blk.carry hq hb9 (by (repeat (first | with_reducible refine Bk.Blk.drew ?_ | with_reducible refine Bk.Blk.set_same ?_ | with_reducible refine Bk.Blk.set_ne ?_ (by omega) | with_reducible refine Bk.Blk.alloc ?_)); (with_reducible exact hq))) | (have hq' := Bk.Blk.later hb9 (Bk.Blk.set2 hq)) | skip); clear hq)
  try (have hn := Bk.Blk.later (g := (w8).heap.size) hb9 (by first | with_reducible exact Bk.Blk.nw10 | with_reducible exact Bk.Blk.nw20 | with_reducible exact Bk.Blk.nw21 | with_reducible exact Bk.Blk.nw30 | with_reducible exact Bk.Blk.nw31 | with_reducible exact Bk.Blk.nw32 | with_reducible exact Bk.Blk.nw40 | with_reducible exact Bk.Blk.nw41 | with_reducible exact Bk.Blk.nw42 | with_reducible exact Bk.Blk.nw43))
  try (have hn := Bk.Blk.later (g := (w8).heap.size + 1) hb9 (by first | with_reducible exact Bk.Blk.nw10 | with_reducible exact Bk.Blk.nw20 | with_reducible exact Bk.Blk.nw21 | with_reducible exact Bk.Blk.nw30 | with_reducible exact Bk.Blk.nw31 | with_reducible exact Bk.Blk.nw32 | with_reducible exact Bk.Blk.nw40 | with_reducible exact Bk.Blk.nw41 | with_reducible exact Bk.Blk.nw42 | with_reducible exact Bk.Blk.nw43))
  try (have hn := Bk.Blk.later (g := (w8).heap.size + 2) hb9 (by first | with_reducible exact Bk.Blk.nw10 | with_reducible exact Bk.Blk.nw20 | with_reducible exact Bk.Blk.nw21 | with_reducible exact Bk.Blk.nw30 | with_reducible exact Bk.Blk.nw31 | with_reducible exact Bk.Blk.nw32 | with_reducible exact Bk.Blk.nw40 | with_reducible exact Bk.Blk.nw41 | with_reducible exact Bk.Blk.nw42 | with_reducible exact Bk.Blk.nw43))
  try (have hn := Bk.Blk.later (g := (w8).heap.size + 3) hb9 (by first | with_reducible exact Bk.Blk.nw10 | with_reducible exact Bk.Blk.nw20 | with_reducible exact Bk.Blk.nw21 | with_reducible exact Bk.Blk.nw30 | with_reducible exact Bk.Blk.nw31 | with_reducible exact Bk.Blk.nw32 | with_reducible exact Bk.Blk.nw40 | with_reducible exact Bk.Blk.nw41 | with_reducible exact Bk.Blk.nw42 | with_reducible exact Bk.Blk.nw43))
  clear hb9
  repeat (rename World.cell? w8 _ = _ => hq; clear hq)
  repeat (rename World.frozen? w8 _ = _ => hq; clear hq)
  repeat (rename Bk.Blk w9 _ _ _ => hq; (first | (have _k0 := (hq).c0; have _m0 := (hq).f0) | skip); (first | (have _k1 := (hq).c1; have _m1 := (hq).f1) | skip); (first | (have _k2 := (hq).c2; have _m2 := (hq).f2) | skip); (first | (have _k3 := (hq).c3; have _m3 := (hq).f3) | skip); have _z := (hq).lt; have hk := Bk.Kept.mk hq; clear hq)
  repeat (rename Bk.Kept (Bk.Blk w9 _ _ _) => hq; have hq' := hq.out; clear hq)
  go_wp2_with fail
  refine (valid_yes 6 _ (by omega) (by omega)).mono ?_
  rintro e w' ⟨rfl, rfl⟩
  go_wp2_with fail
  go_ret
  exact ⟨rfl, (by repeat (first | assumption | exact Below.refl _ _ | refine Below.setCell ?_ (by first | exact Nat.le_refl _ | (simp; done) | (simp; omega) | omega) _ | refine Below.alloc ?_ (by first | exact Nat.le_refl _ | (simp; done) | (simp; omega) | omega) _ | refine Below.drew ?_ | exact Nat.le_refl _))⟩
end Go.Proofs.YtieklkpjlbpnbaaDoor.Sp
