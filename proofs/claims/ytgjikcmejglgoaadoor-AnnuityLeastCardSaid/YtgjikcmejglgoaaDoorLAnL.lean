/-
  The walk of the statement AnnuityLeast: it returns true, for every argument.
-/
import Derived.Test.YtgjikcmejglgoaaDoorLAnP
namespace Go.Proofs.YtgjikcmejglgoaaDoor.An
set_option linter.unusedVariables false
open Go.RowKit
open Go.Proofs.YtgjikcmejglgoaaDoor
open Go.Proofs.YtgjikcmejglgoaaDoor.Wm Go.Proofs.YtgjikcmejglgoaaDoor.Wt Go.Proofs.YtgjikcmejglgoaaDoor.Rd

theorem rs_more {p ppm ev m cnt bal pay : Int} (h : rOk p ppm ev m cnt pay) (he : enough (ppm * ev) m cnt.toNat p bal pay = false) : rsE p ppm ev m cnt pay = 6 ∨ (rsE p ppm ev m cnt pay = 0 ∧ bal < rsV p ppm ev m cnt pay) := by
  unfold enough at he
  cases hr : restA (ppm * ev) m pay cnt.toNat p with
  | none => exact .inl (rs_none h hr).2
  | some n =>
    rw [hr] at he
    rw [(rs_some h hr).1, (rs_some h hr).2]
    exact .inr ⟨rfl, by have := of_decide_eq_false he; omega⟩
theorem rs_less {p ppm ev m cnt bal pay : Int} (h : rOk p ppm ev m cnt pay) (he : enough (ppm * ev) m cnt.toNat p bal pay = true) : rsE p ppm ev m cnt pay = 0 ∧ rsV p ppm ev m cnt pay ≤ bal := by
  unfold enough at he
  cases hr : restA (ppm * ev) m pay cnt.toNat p with
  | none => rw [hr] at he; cases he
  | some n =>
    rw [hr] at he
    rw [(rs_some h hr).1, (rs_some h hr).2]
    exact ⟨rfl, of_decide_eq_true he⟩

section
variable {p ppm ev m cnt bal : Int} {w : World}
set_option maxRecDepth 100000 in
set_option maxHeartbeats 4000000 in
theorem least_b0 (hS : Stp w) (HL : Hid (∀ W : World, Stp W → Calls Tryd.prog 11 #[] W fun e w' => e = .returned (.bool true) ∧ Below W.heap.size W w')) (HP : Hid (∀ W : World, Stp W → Calls Tryd.prog 17 #[.int .i64 p, .int .i64 ppm, .int .i64 ev, .int .i64 m, .int .i64 cnt, .int .i64 bal] W fun e w' => e = .returned (.tuple #[.int .i64 0, .int .i64 1]) ∧ Below W.heap.size W w')) (HG : Hid (∀ W : World, Calls Tryd.prog 10 #[.int .i64 p, .int .i64 ppm, .int .i64 ev, .int .i64 m] W fun e w' => e = .returned (.bool false) ∧ W = w')) : Calls Tryd.prog 6 #[.agg #[.int .i64 p, .int .i64 ppm, .int .i64 ev, .int .i64 m], .int .i64 cnt, .int .i64 bal] w fun e w' => e = .returned (.bool true) ∧ Below w.heap.size w w' := by
  have b0 := Below.refl w.heap.size w
  go_enter Tryd.func6, Tryd.ntmps6
  go_wp2_with fail
  refine (HP.out _ (hS.of (by repeat (first | assumption | exact Below.refl _ _ | refine Below.setCell ?_ (by first | exact Nat.le_refl _ | (simp; done) | (simp; omega) | omega) _ | refine Below.alloc ?_ (by first | exact Nat.le_refl _ | (simp; done) | (simp; omega) | omega) _ | refine Below.drew ?_ | exact Nat.le_refl _)))).mono ?_
  rintro e w1 ⟨rfl, hb1⟩
  have b1 : Below w.heap.size w w1 := bl2 hb1 (by repeat (first | assumption | exact Below.refl _ _ | refine Below.setCell ?_ (by first | exact Nat.le_refl _ | (simp; done) | (simp; omega) | omega) _ | refine Below.alloc ?_ (by first | exact Nat.le_refl _ | (simp; done) | (simp; omega) | omega) _ | refine Below.drew ?_ | exact Nat.le_refl _))
  have z1 := b1.size
  repeat (rename Bk.Blk w _ _ _ => hq; (first | (have hq' := Bk.Blk.carry hq hb1 (by (repeat (first | with_reducible refine Bk.Blk.drew ?_ | with_reducible refine Bk.Blk.set_same ?_ | with_reducible refine Bk.Blk.set_ne ?_ (by omega) | with_reducible refine Bk.Blk.alloc ?_)); (with_reducible exact hq))) | (have hq' := Bk.Blk.later hb1 (Bk.Blk.set2 hq)) | skip); clear hq)
  try (have hn := Bk.Blk.later (g := (w).heap.size) hb1 (by first | with_reducible exact Bk.Blk.nw10 | with_reducible exact Bk.Blk.nw20 | with_reducible exact Bk.Blk.nw21 | with_reducible exact Bk.Blk.nw30 | with_reducible exact Bk.Blk.nw31 | with_reducible exact Bk.Blk.nw32 | with_reducible exact Bk.Blk.nw40 | with_reducible exact Bk.Blk.nw41 | with_reducible exact Bk.Blk.nw42 | with_reducible exact Bk.Blk.nw43))
  try (have hn := Bk.Blk.later (g := (w).heap.size + 1) hb1 (by first | with_reducible exact Bk.Blk.nw10 | with_reducible exact Bk.Blk.nw20 | with_reducible exact Bk.Blk.nw21 | with_reducible exact Bk.Blk.nw30 | with_reducible exact Bk.Blk.nw31 | with_reducible exact Bk.Blk.nw32 | with_reducible exact Bk.Blk.nw40 | with_reducible exact Bk.Blk.nw41 | with_reducible exact Bk.Blk.nw42 | with_reducible exact Bk.Blk.nw43))
  try (have hn := Bk.Blk.later (g := (w).heap.size + 2) hb1 (by first | with_reducible exact Bk.Blk.nw10 | with_reducible exact Bk.Blk.nw20 | with_reducible exact Bk.Blk.nw21 | with_reducible exact Bk.Blk.nw30 | with_reducible exact Bk.Blk.nw31 | with_reducible exact Bk.Blk.nw32 | with_reducible exact Bk.Blk.nw40 | with_reducible exact Bk.Blk.nw41 | with_reducible exact Bk.Blk.nw42 | with_reducible exact Bk.Blk.nw43))
  try (have hn := Bk.Blk.later (g := (w).heap.size + 3) hb1 (by first | with_reducible exact Bk.Blk.nw10 | with_reducible exact Bk.Blk.nw20 | with_reducible exact Bk.Blk.nw21 | with_reducible exact Bk.Blk.nw30 | with_reducible exact Bk.Blk.nw31 | with_reducible exact Bk.Blk.nw32 | with_reducible exact Bk.Blk.nw40 | with_reducible exact Bk.Blk.nw41 | with_reducible exact Bk.Blk.nw42 | with_reducible exact Bk.Blk.nw43))
  clear hb1
  repeat (rename World.cell? w _ = _ => hq; clear hq)
  repeat (rename World.frozen? w _ = _ => hq; clear hq)
  repeat (rename Bk.Blk w1 _ _ _ => hq; (first | (have _k0 := (hq).c0; have _m0 := (hq).f0) | skip); (first | (have _k1 := (hq).c1; have _m1 := (hq).f1) | skip); (first | (have _k2 := (hq).c2; have _m2 := (hq).f2) | skip); (first | (have _k3 := (hq).c3; have _m3 := (hq).f3) | skip); have _z := (hq).lt; have hk := Bk.Kept.mk hq; clear hq)
  repeat (rename Bk.Kept (Bk.Blk w1 _ _ _) => hq; have hq' := hq.out; clear hq)
  go_wp2_with fail
  refine (HG.out _).mono ?_
  rintro e w' ⟨rfl, rfl⟩
  go_wp2_with fail
  refine (HL.out _ (hS.of (by repeat (first | assumption | exact Below.refl _ _ | refine Below.setCell ?_ (by first | exact Nat.le_refl _ | (simp; done) | (simp; omega) | omega) _ | refine Below.alloc ?_ (by first | exact Nat.le_refl _ | (simp; done) | (simp; omega) | omega) _ | refine Below.drew ?_ | exact Nat.le_refl _)))).mono ?_
  rintro e w9 ⟨rfl, hb9⟩
  have b9 : Below w.heap.size w w9 := bl2 hb9 (by repeat (first | assumption | exact Below.refl _ _ | refine Below.setCell ?_ (by first | exact Nat.le_refl _ | (simp; done) | (simp; omega) | omega) _ | refine Below.alloc ?_ (by first | exact Nat.le_refl _ | (simp; done) | (simp; omega) | omega) _ | refine Below.drew ?_ | exact Nat.le_refl _))
  have z9 := b9.size
  repeat (rename Bk.Blk w1 _ _ _ => hq; (first | (have hq' := Bk.Blk.carry hq hb9 (by (repeat (first | with_reducible refine Bk.Blk.drew ?_ | with_reducible refine Bk.Blk.set_same ?_ | with_reducible refine Bk.Blk.set_ne ?_ (by omega) | with_reducible refine Bk.Blk.alloc ?_)); (with_reducible exact hq))) | (have hq' := Bk.Blk.later hb9 (Bk.Blk.set2 hq)) | skip); clear hq)
  try (have hn := Bk.Blk.later (g := (w1).heap.size) hb9 (by first | with_reducible exact Bk.Blk.nw10 | with_reducible exact Bk.Blk.nw20 | with_reducible exact Bk.Blk.nw21 | with_reducible exact Bk.Blk.nw30 | with_reducible exact Bk.Blk.nw31 | with_reducible exact Bk.Blk.nw32 | with_reducible exact Bk.Blk.nw40 | with_reducible exact Bk.Blk.nw41 | with_reducible exact Bk.Blk.nw42 | with_reducible exact Bk.Blk.nw43))
  try (have hn := Bk.Blk.later (g := (w1).heap.size + 1) hb9 (by first | with_reducible exact Bk.Blk.nw10 | with_reducible exact Bk.Blk.nw20 | with_reducible exact Bk.Blk.nw21 | with_reducible exact Bk.Blk.nw30 | with_reducible exact Bk.Blk.nw31 | with_reducible exact Bk.Blk.nw32 | with_reducible exact Bk.Blk.nw40 | with_reducible exact Bk.Blk.nw41 | with_reducible exact Bk.Blk.nw42 | with_reducible exact Bk.Blk.nw43))
  try (have hn := Bk.Blk.later (g := (w1).heap.size + 2) hb9 (by first | with_reducible exact Bk.Blk.nw10 | with_reducible exact Bk.Blk.nw20 | with_reducible exact Bk.Blk.nw21 | with_reducible exact Bk.Blk.nw30 | with_reducible exact Bk.Blk.nw31 | with_reducible exact Bk.Blk.nw32 | with_reducible exact Bk.Blk.nw40 | with_reducible exact Bk.Blk.nw41 | with_reducible exact Bk.Blk.nw42 | with_reducible exact Bk.Blk.nw43))
  try (have hn := Bk.Blk.later (g := (w1).heap.size + 3) hb9 (by first | with_reducible exact Bk.Blk.nw10 | with_reducible exact Bk.Blk.nw20 | with_reducible exact Bk.Blk.nw21 | with_reducible exact Bk.Blk.nw30 | with_reducible exact Bk.Blk.nw31 | with_reducible exact Bk.Blk.nw32 | with_reducible exact Bk.Blk.nw40 | with_reducible exact Bk.Blk.nw41 | with_reducible exact Bk.Blk.nw42 | with_reducible exact Bk.Blk.nw43))
  clear hb9
  repeat (rename World.cell? w1 _ = _ => hq; clear hq)
  repeat (rename World.frozen? w1 _ = _ => hq; clear hq)
  repeat (rename Bk.Blk w9 _ _ _ => hq; (first | (have _k0 := (hq).c0; have _m0 := (hq).f0) | skip); (first | (have _k1 := (hq).c1; have _m1 := (hq).f1) | skip); (first | (have _k2 := (hq).c2; have _m2 := (hq).f2) | skip); (first | (have _k3 := (hq).c3; have _m3 := (hq).f3) | skip); have _z := (hq).lt; have hk := Bk.Kept.mk hq; clear hq)
  repeat (rename Bk.Kept (Bk.Blk w9 _ _ _) => hq; have hq' := hq.out; clear hq)
  go_wp2_with fail
  go_ret
  exact ⟨rfl, (by repeat (first | assumption | exact Below.refl _ _ | refine Below.setCell ?_ (by first | exact Nat.le_refl _ | (simp; done) | (simp; omega) | omega) _ | refine Below.alloc ?_ (by first | exact Nat.le_refl _ | (simp; done) | (simp; omega) | omega) _ | refine Below.drew ?_ | exact Nat.le_refl _))⟩
set_option maxRecDepth 100000 in
set_option maxHeartbeats 4000000 in
theorem least_b1 (hS : Stp w) (HL : Hid (∀ W : World, Stp W → Calls Tryd.prog 11 #[] W fun e w' => e = .returned (.bool true) ∧ Below W.heap.size W w')) (HP : Hid (∀ W : World, Stp W → Calls Tryd.prog 17 #[.int .i64 p, .int .i64 ppm, .int .i64 ev, .int .i64 m, .int .i64 cnt, .int .i64 bal] W fun e w' => e = .returned (.tuple #[.int .i64 0, .int .i64 1]) ∧ Below W.heap.size W w')) (HG : Hid (∀ W : World, Calls Tryd.prog 10 #[.int .i64 p, .int .i64 ppm, .int .i64 ev, .int .i64 m] W fun e w' => e = .returned (.bool true) ∧ W = w')) (h1 : cnt < 1) : Calls Tryd.prog 6 #[.agg #[.int .i64 p, .int .i64 ppm, .int .i64 ev, .int .i64 m], .int .i64 cnt, .int .i64 bal] w fun e w' => e = .returned (.bool true) ∧ Below w.heap.size w w' := by
  have b0 := Below.refl w.heap.size w
  go_enter Tryd.func6, Tryd.ntmps6
  go_wp2_with fail
  refine (HP.out _ (hS.of (by repeat (first | assumption | exact Below.refl _ _ | refine Below.setCell ?_ (by first | exact Nat.le_refl _ | (simp; done) | (simp; omega) | omega) _ | refine Below.alloc ?_ (by first | exact Nat.le_refl _ | (simp; done) | (simp; omega) | omega) _ | refine Below.drew ?_ | exact Nat.le_refl _)))).mono ?_
  rintro e w1 ⟨rfl, hb1⟩
  have b1 : Below w.heap.size w w1 := bl2 hb1 (by repeat (first | assumption | exact Below.refl _ _ | refine Below.setCell ?_ (by first | exact Nat.le_refl _ | (simp; done) | (simp; omega) | omega) _ | refine Below.alloc ?_ (by first | exact Nat.le_refl _ | (simp; done) | (simp; omega) | omega) _ | refine Below.drew ?_ | exact Nat.le_refl _))
  have z1 := b1.size
  repeat (rename Bk.Blk w _ _ _ => hq; (first | (have hq' := Bk.Blk.carry hq hb1 (by (repeat (first | with_reducible refine Bk.Blk.drew ?_ | with_reducible refine Bk.Blk.set_same ?_ | with_reducible refine Bk.Blk.set_ne ?_ (by omega) | with_reducible refine Bk.Blk.alloc ?_)); (with_reducible exact hq))) | (have hq' := Bk.Blk.later hb1 (Bk.Blk.set2 hq)) | skip); clear hq)
  try (have hn := Bk.Blk.later (g := (w).heap.size) hb1 (by first | with_reducible exact Bk.Blk.nw10 | with_reducible exact Bk.Blk.nw20 | with_reducible exact Bk.Blk.nw21 | with_reducible exact Bk.Blk.nw30 | with_reducible exact Bk.Blk.nw31 | with_reducible exact Bk.Blk.nw32 | with_reducible exact Bk.Blk.nw40 | with_reducible exact Bk.Blk.nw41 | with_reducible exact Bk.Blk.nw42 | with_reducible exact Bk.Blk.nw43))
  try (have hn := Bk.Blk.later (g := (w).heap.size + 1) hb1 (by first | with_reducible exact Bk.Blk.nw10 | with_reducible exact Bk.Blk.nw20 | with_reducible exact Bk.Blk.nw21 | with_reducible exact Bk.Blk.nw30 | with_reducible exact Bk.Blk.nw31 | with_reducible exact Bk.Blk.nw32 | with_reducible exact Bk.Blk.nw40 | with_reducible exact Bk.Blk.nw41 | with_reducible exact Bk.Blk.nw42 | with_reducible exact Bk.Blk.nw43))
  try (have hn := Bk.Blk.later (g := (w).heap.size + 2) hb1 (by first | with_reducible exact Bk.Blk.nw10 | with_reducible exact Bk.Blk.nw20 | with_reducible exact Bk.Blk.nw21 | with_reducible exact Bk.Blk.nw30 | with_reducible exact Bk.Blk.nw31 | with_reducible exact Bk.Blk.nw32 | with_reducible exact Bk.Blk.nw40 | with_reducible exact Bk.Blk.nw41 | with_reducible exact Bk.Blk.nw42 | with_reducible exact Bk.Blk.nw43))
  try (have hn := Bk.Blk.later (g := (w).heap.size + 3) hb1 (by first | with_reducible exact Bk.Blk.nw10 | with_reducible exact Bk.Blk.nw20 | with_reducible exact Bk.Blk.nw21 | with_reducible exact Bk.Blk.nw30 | with_reducible exact Bk.Blk.nw31 | with_reducible exact Bk.Blk.nw32 | with_reducible exact Bk.Blk.nw40 | with_reducible exact Bk.Blk.nw41 | with_reducible exact Bk.Blk.nw42 | with_reducible exact Bk.Blk.nw43))
  clear hb1
  repeat (rename World.cell? w _ = _ => hq; clear hq)
  repeat (rename World.frozen? w _ = _ => hq; clear hq)
  repeat (rename Bk.Blk w1 _ _ _ => hq; (first | (have _k0 := (hq).c0; have _m0 := (hq).f0) | skip); (first | (have _k1 := (hq).c1; have _m1 := (hq).f1) | skip); (first | (have _k2 := (hq).c2; have _m2 := (hq).f2) | skip); (first | (have _k3 := (hq).c3; have _m3 := (hq).f3) | skip); have _z := (hq).lt; have hk := Bk.Kept.mk hq; clear hq)
  repeat (rename Bk.Kept (Bk.Blk w1 _ _ _) => hq; have hq' := hq.out; clear hq)
  go_wp2_with fail
  refine (HG.out _).mono ?_
  rintro e w' ⟨rfl, rfl⟩
  go_wp2_with fail
  refine (HL.out _ (hS.of (by repeat (first | assumption | exact Below.refl _ _ | refine Below.setCell ?_ (by first | exact Nat.le_refl _ | (simp; done) | (simp; omega) | omega) _ | refine Below.alloc ?_ (by first | exact Nat.le_refl _ | (simp; done) | (simp; omega) | omega) _ | refine Below.drew ?_ | exact Nat.le_refl _)))).mono ?_
  rintro e w9 ⟨rfl, hb9⟩
  have b9 : Below w.heap.size w w9 := bl2 hb9 (by repeat (first | assumption | exact Below.refl _ _ | refine Below.setCell ?_ (by first | exact Nat.le_refl _ | (simp; done) | (simp; omega) | omega) _ | refine Below.alloc ?_ (by first | exact Nat.le_refl _ | (simp; done) | (simp; omega) | omega) _ | refine Below.drew ?_ | exact Nat.le_refl _))
  have z9 := b9.size
  repeat (rename Bk.Blk w1 _ _ _ => hq; (first | (have hq' := Bk.Blk.carry hq hb9 (by (repeat (first | with_reducible refine Bk.Blk.drew ?_ | with_reducible refine Bk.Blk.set_same ?_ | with_reducible refine Bk.Blk.set_ne ?_ (by omega) | with_reducible refine Bk.Blk.alloc ?_)); (with_reducible exact hq))) | (have hq' := Bk.Blk.later hb9 (Bk.Blk.set2 hq)) | skip); clear hq)
  try (have hn := Bk.Blk.later (g := (w1).heap.size) hb9 (by first | with_reducible exact Bk.Blk.nw10 | with_reducible exact Bk.Blk.nw20 | with_reducible exact Bk.Blk.nw21 | with_reducible exact Bk.Blk.nw30 | with_reducible exact Bk.Blk.nw31 | with_reducible exact Bk.Blk.nw32 | with_reducible exact Bk.Blk.nw40 | with_reducible exact Bk.Blk.nw41 | with_reducible exact Bk.Blk.nw42 | with_reducible exact Bk.Blk.nw43))
  try (have hn := Bk.Blk.later (g := (w1).heap.size + 1) hb9 (by first | with_reducible exact Bk.Blk.nw10 | with_reducible exact Bk.Blk.nw20 | with_reducible exact Bk.Blk.nw21 | with_reducible exact Bk.Blk.nw30 | with_reducible exact Bk.Blk.nw31 | with_reducible exact Bk.Blk.nw32 | with_reducible exact Bk.Blk.nw40 | with_reducible exact Bk.Blk.nw41 | with_reducible exact Bk.Blk.nw42 | with_reducible exact Bk.Blk.nw43))
  try (have hn := Bk.Blk.later (g := (w1).heap.size + 2) hb9 (by first | with_reducible exact Bk.Blk.nw10 | with_reducible exact Bk.Blk.nw20 | with_reducible exact Bk.Blk.nw21 | with_reducible exact Bk.Blk.nw30 | with_reducible exact Bk.Blk.nw31 | with_reducible exact Bk.Blk.nw32 | with_reducible exact Bk.Blk.nw40 | with_reducible exact Bk.Blk.nw41 | with_reducible exact Bk.Blk.nw42 | with_reducible exact Bk.Blk.nw43))
  try (have hn := Bk.Blk.later (g := (w1).heap.size + 3) hb9 (by first | with_reducible exact Bk.Blk.nw10 | with_reducible exact Bk.Blk.nw20 | with_reducible exact Bk.Blk.nw21 | with_reducible exact Bk.Blk.nw30 | with_reducible exact Bk.Blk.nw31 | with_reducible exact Bk.Blk.nw32 | with_reducible exact Bk.Blk.nw40 | with_reducible exact Bk.Blk.nw41 | with_reducible exact Bk.Blk.nw42 | with_reducible exact Bk.Blk.nw43))
  clear hb9
  repeat (rename World.cell? w1 _ = _ => hq; clear hq)
  repeat (rename World.frozen? w1 _ = _ => hq; clear hq)
  repeat (rename Bk.Blk w9 _ _ _ => hq; (first | (have _k0 := (hq).c0; have _m0 := (hq).f0) | skip); (first | (have _k1 := (hq).c1; have _m1 := (hq).f1) | skip); (first | (have _k2 := (hq).c2; have _m2 := (hq).f2) | skip); (first | (have _k3 := (hq).c3; have _m3 := (hq).f3) | skip); have _z := (hq).lt; have hk := Bk.Kept.mk hq; clear hq)
  repeat (rename Bk.Kept (Bk.Blk w9 _ _ _) => hq; have hq' := hq.out; clear hq)
  go_wp2_with fail
  go_ret
  exact ⟨rfl, (by repeat (first | assumption | exact Below.refl _ _ | refine Below.setCell ?_ (by first | exact Nat.le_refl _ | (simp; done) | (simp; omega) | omega) _ | refine Below.alloc ?_ (by first | exact Nat.le_refl _ | (simp; done) | (simp; omega) | omega) _ | refine Below.drew ?_ | exact Nat.le_refl _))⟩
set_option maxRecDepth 100000 in
set_option maxHeartbeats 4000000 in
theorem least_b2 (hS : Stp w) (HL : Hid (∀ W : World, Stp W → Calls Tryd.prog 11 #[] W fun e w' => e = .returned (.bool true) ∧ Below W.heap.size W w')) (HP : Hid (∀ W : World, Stp W → Calls Tryd.prog 17 #[.int .i64 p, .int .i64 ppm, .int .i64 ev, .int .i64 m, .int .i64 cnt, .int .i64 bal] W fun e w' => e = .returned (.tuple #[.int .i64 0, .int .i64 1]) ∧ Below W.heap.size W w')) (HG : Hid (∀ W : World, Calls Tryd.prog 10 #[.int .i64 p, .int .i64 ppm, .int .i64 ev, .int .i64 m] W fun e w' => e = .returned (.bool true) ∧ W = w')) (h1 : 1 ≤ cnt) (h2 : 120 < cnt) : Calls Tryd.prog 6 #[.agg #[.int .i64 p, .int .i64 ppm, .int .i64 ev, .int .i64 m], .int .i64 cnt, .int .i64 bal] w fun e w' => e = .returned (.bool true) ∧ Below w.heap.size w w' := by
  have b0 := Below.refl w.heap.size w
  go_enter Tryd.func6, Tryd.ntmps6
  go_wp2_with fail
  refine (HP.out _ (hS.of (by repeat (first | assumption | exact Below.refl _ _ | refine Below.setCell ?_ (by first | exact Nat.le_refl _ | (simp; done) | (simp; omega) | omega) _ | refine Below.alloc ?_ (by first | exact Nat.le_refl _ | (simp; done) | (simp; omega) | omega) _ | refine Below.drew ?_ | exact Nat.le_refl _)))).mono ?_
  rintro e w1 ⟨rfl, hb1⟩
  have b1 : Below w.heap.size w w1 := bl2 hb1 (by repeat (first | assumption | exact Below.refl _ _ | refine Below.setCell ?_ (by first | exact Nat.le_refl _ | (simp; done) | (simp; omega) | omega) _ | refine Below.alloc ?_ (by first | exact Nat.le_refl _ | (simp; done) | (simp; omega) | omega) _ | refine Below.drew ?_ | exact Nat.le_refl _))
  have z1 := b1.size
  repeat (rename Bk.Blk w _ _ _ => hq; (first | (have hq' := Bk.Blk.carry hq hb1 (by (repeat (first | with_reducible refine Bk.Blk.drew ?_ | with_reducible refine Bk.Blk.set_same ?_ | with_reducible refine Bk.Blk.set_ne ?_ (by omega) | with_reducible refine Bk.Blk.alloc ?_)); (with_reducible exact hq))) | (have hq' := Bk.Blk.later hb1 (Bk.Blk.set2 hq)) | skip); clear hq)
  try (have hn := Bk.Blk.later (g := (w).heap.size) hb1 (by first | with_reducible exact Bk.Blk.nw10 | with_reducible exact Bk.Blk.nw20 | with_reducible exact Bk.Blk.nw21 | with_reducible exact Bk.Blk.nw30 | with_reducible exact Bk.Blk.nw31 | with_reducible exact Bk.Blk.nw32 | with_reducible exact Bk.Blk.nw40 | with_reducible exact Bk.Blk.nw41 | with_reducible exact Bk.Blk.nw42 | with_reducible exact Bk.Blk.nw43))
  try (have hn := Bk.Blk.later (g := (w).heap.size + 1) hb1 (by first | with_reducible exact Bk.Blk.nw10 | with_reducible exact Bk.Blk.nw20 | with_reducible exact Bk.Blk.nw21 | with_reducible exact Bk.Blk.nw30 | with_reducible exact Bk.Blk.nw31 | with_reducible exact Bk.Blk.nw32 | with_reducible exact Bk.Blk.nw40 | with_reducible exact Bk.Blk.nw41 | with_reducible exact Bk.Blk.nw42 | with_reducible exact Bk.Blk.nw43))
  try (have hn := Bk.Blk.later (g := (w).heap.size + 2) hb1 (by first | with_reducible exact Bk.Blk.nw10 | with_reducible exact Bk.Blk.nw20 | with_reducible exact Bk.Blk.nw21 | with_reducible exact Bk.Blk.nw30 | with_reducible exact Bk.Blk.nw31 | with_reducible exact Bk.Blk.nw32 | with_reducible exact Bk.Blk.nw40 | with_reducible exact Bk.Blk.nw41 | with_reducible exact Bk.Blk.nw42 | with_reducible exact Bk.Blk.nw43))
  try (have hn := Bk.Blk.later (g := (w).heap.size + 3) hb1 (by first | with_reducible exact Bk.Blk.nw10 | with_reducible exact Bk.Blk.nw20 | with_reducible exact Bk.Blk.nw21 | with_reducible exact Bk.Blk.nw30 | with_reducible exact Bk.Blk.nw31 | with_reducible exact Bk.Blk.nw32 | with_reducible exact Bk.Blk.nw40 | with_reducible exact Bk.Blk.nw41 | with_reducible exact Bk.Blk.nw42 | with_reducible exact Bk.Blk.nw43))
  clear hb1
  repeat (rename World.cell? w _ = _ => hq; clear hq)
  repeat (rename World.frozen? w _ = _ => hq; clear hq)
  repeat (rename Bk.Blk w1 _ _ _ => hq; (first | (have _k0 := (hq).c0; have _m0 := (hq).f0) | skip); (first | (have _k1 := (hq).c1; have _m1 := (hq).f1) | skip); (first | (have _k2 := (hq).c2; have _m2 := (hq).f2) | skip); (first | (have _k3 := (hq).c3; have _m3 := (hq).f3) | skip); have _z := (hq).lt; have hk := Bk.Kept.mk hq; clear hq)
  repeat (rename Bk.Kept (Bk.Blk w1 _ _ _) => hq; have hq' := hq.out; clear hq)
  go_wp2_with fail
  refine (HG.out _).mono ?_
  rintro e w' ⟨rfl, rfl⟩
  go_wp2_with fail
  refine (HL.out _ (hS.of (by repeat (first | assumption | exact Below.refl _ _ | refine Below.setCell ?_ (by first | exact Nat.le_refl _ | (simp; done) | (simp; omega) | omega) _ | refine Below.alloc ?_ (by first | exact Nat.le_refl _ | (simp; done) | (simp; omega) | omega) _ | refine Below.drew ?_ | exact Nat.le_refl _)))).mono ?_
  rintro e w9 ⟨rfl, hb9⟩
  have b9 : Below w.heap.size w w9 := bl2 hb9 (by repeat (first | assumption | exact Below.refl _ _ | refine Below.setCell ?_ (by first | exact Nat.le_refl _ | (simp; done) | (simp; omega) | omega) _ | refine Below.alloc ?_ (by first | exact Nat.le_refl _ | (simp; done) | (simp; omega) | omega) _ | refine Below.drew ?_ | exact Nat.le_refl _))
  have z9 := b9.size
  repeat (rename Bk.Blk w1 _ _ _ => hq; (first | (have hq' := Bk.Blk.carry hq hb9 (by (repeat (first | with_reducible refine Bk.Blk.drew ?_ | with_reducible refine Bk.Blk.set_same ?_ | with_reducible refine Bk.Blk.set_ne ?_ (by omega) | with_reducible refine Bk.Blk.alloc ?_)); (with_reducible exact hq))) | (have hq' := Bk.Blk.later hb9 (Bk.Blk.set2 hq)) | skip); clear hq)
  try (have hn := Bk.Blk.later (g := (w1).heap.size) hb9 (by first | with_reducible exact Bk.Blk.nw10 | with_reducible exact Bk.Blk.nw20 | with_reducible exact Bk.Blk.nw21 | with_reducible exact Bk.Blk.nw30 | with_reducible exact Bk.Blk.nw31 | with_reducible exact Bk.Blk.nw32 | with_reducible exact Bk.Blk.nw40 | with_reducible exact Bk.Blk.nw41 | with_reducible exact Bk.Blk.nw42 | with_reducible exact Bk.Blk.nw43))
  try (have hn := Bk.Blk.later (g := (w1).heap.size + 1) hb9 (by first | with_reducible exact Bk.Blk.nw10 | with_reducible exact Bk.Blk.nw20 | with_reducible exact Bk.Blk.nw21 | with_reducible exact Bk.Blk.nw30 | with_reducible exact Bk.Blk.nw31 | with_reducible exact Bk.Blk.nw32 | with_reducible exact Bk.Blk.nw40 | with_reducible exact Bk.Blk.nw41 | with_reducible exact Bk.Blk.nw42 | with_reducible exact Bk.Blk.nw43))
  try (have hn := Bk.Blk.later (g := (w1).heap.size + 2) hb9 (by first | with_reducible exact Bk.Blk.nw10 | with_reducible exact Bk.Blk.nw20 | with_reducible exact Bk.Blk.nw21 | with_reducible exact Bk.Blk.nw30 | with_reducible exact Bk.Blk.nw31 | with_reducible exact Bk.Blk.nw32 | with_reducible exact Bk.Blk.nw40 | with_reducible exact Bk.Blk.nw41 | with_reducible exact Bk.Blk.nw42 | with_reducible exact Bk.Blk.nw43))
  try (have hn := Bk.Blk.later (g := (w1).heap.size + 3) hb9 (by first | with_reducible exact Bk.Blk.nw10 | with_reducible exact Bk.Blk.nw20 | with_reducible exact Bk.Blk.nw21 | with_reducible exact Bk.Blk.nw30 | with_reducible exact Bk.Blk.nw31 | with_reducible exact Bk.Blk.nw32 | with_reducible exact Bk.Blk.nw40 | with_reducible exact Bk.Blk.nw41 | with_reducible exact Bk.Blk.nw42 | with_reducible exact Bk.Blk.nw43))
  clear hb9
  repeat (rename World.cell? w1 _ = _ => hq; clear hq)
  repeat (rename World.frozen? w1 _ = _ => hq; clear hq)
  repeat (rename Bk.Blk w9 _ _ _ => hq; (first | (have _k0 := (hq).c0; have _m0 := (hq).f0) | skip); (first | (have _k1 := (hq).c1; have _m1 := (hq).f1) | skip); (first | (have _k2 := (hq).c2; have _m2 := (hq).f2) | skip); (first | (have _k3 := (hq).c3; have _m3 := (hq).f3) | skip); have _z := (hq).lt; have hk := Bk.Kept.mk hq; clear hq)
  repeat (rename Bk.Kept (Bk.Blk w9 _ _ _) => hq; have hq' := hq.out; clear hq)
  go_wp2_with fail
  go_ret
  exact ⟨rfl, (by repeat (first | assumption | exact Below.refl _ _ | refine Below.setCell ?_ (by first | exact Nat.le_refl _ | (simp; done) | (simp; omega) | omega) _ | refine Below.alloc ?_ (by first | exact Nat.le_refl _ | (simp; done) | (simp; omega) | omega) _ | refine Below.drew ?_ | exact Nat.le_refl _))⟩
set_option maxRecDepth 100000 in
set_option maxHeartbeats 4000000 in
theorem least_b3 (hS : Stp w) (HL : Hid (∀ W : World, Stp W → Calls Tryd.prog 11 #[] W fun e w' => e = .returned (.bool true) ∧ Below W.heap.size W w')) (HP : Hid (∀ W : World, Stp W → Calls Tryd.prog 17 #[.int .i64 p, .int .i64 ppm, .int .i64 ev, .int .i64 m, .int .i64 cnt, .int .i64 bal] W fun e w' => e = .returned (.tuple #[.int .i64 0, .int .i64 1]) ∧ Below W.heap.size W w')) (HG : Hid (∀ W : World, Calls Tryd.prog 10 #[.int .i64 p, .int .i64 ppm, .int .i64 ev, .int .i64 m] W fun e w' => e = .returned (.bool true) ∧ W = w')) (h1 : 1 ≤ cnt) (h2 : cnt ≤ 120) (h3 : bal < 0) : Calls Tryd.prog 6 #[.agg #[.int .i64 p, .int .i64 ppm, .int .i64 ev, .int .i64 m], .int .i64 cnt, .int .i64 bal] w fun e w' => e = .returned (.bool true) ∧ Below w.heap.size w w' := by
  have b0 := Below.refl w.heap.size w
  go_enter Tryd.func6, Tryd.ntmps6
  go_wp2_with fail
  refine (HP.out _ (hS.of (by repeat (first | assumption | exact Below.refl _ _ | refine Below.setCell ?_ (by first | exact Nat.le_refl _ | (simp; done) | (simp; omega) | omega) _ | refine Below.alloc ?_ (by first | exact Nat.le_refl _ | (simp; done) | (simp; omega) | omega) _ | refine Below.drew ?_ | exact Nat.le_refl _)))).mono ?_
  rintro e w1 ⟨rfl, hb1⟩
  have b1 : Below w.heap.size w w1 := bl2 hb1 (by repeat (first | assumption | exact Below.refl _ _ | refine Below.setCell ?_ (by first | exact Nat.le_refl _ | (simp; done) | (simp; omega) | omega) _ | refine Below.alloc ?_ (by first | exact Nat.le_refl _ | (simp; done) | (simp; omega) | omega) _ | refine Below.drew ?_ | exact Nat.le_refl _))
  have z1 := b1.size
  repeat (rename Bk.Blk w _ _ _ => hq; (first | (have hq' := Bk.Blk.carry hq hb1 (by (repeat (first | with_reducible refine Bk.Blk.drew ?_ | with_reducible refine Bk.Blk.set_same ?_ | with_reducible refine Bk.Blk.set_ne ?_ (by omega) | with_reducible refine Bk.Blk.alloc ?_)); (with_reducible exact hq))) | (have hq' := Bk.Blk.later hb1 (Bk.Blk.set2 hq)) | skip); clear hq)
  try (have hn := Bk.Blk.later (g := (w).heap.size) hb1 (by first | with_reducible exact Bk.Blk.nw10 | with_reducible exact Bk.Blk.nw20 | with_reducible exact Bk.Blk.nw21 | with_reducible exact Bk.Blk.nw30 | with_reducible exact Bk.Blk.nw31 | with_reducible exact Bk.Blk.nw32 | with_reducible exact Bk.Blk.nw40 | with_reducible exact Bk.Blk.nw41 | with_reducible exact Bk.Blk.nw42 | with_reducible exact Bk.Blk.nw43))
  try (have hn := Bk.Blk.later (g := (w).heap.size + 1) hb1 (by first | with_reducible exact Bk.Blk.nw10 | with_reducible exact Bk.Blk.nw20 | with_reducible exact Bk.Blk.nw21 | with_reducible exact Bk.Blk.nw30 | with_reducible exact Bk.Blk.nw31 | with_reducible exact Bk.Blk.nw32 | with_reducible exact Bk.Blk.nw40 | with_reducible exact Bk.Blk.nw41 | with_reducible exact Bk.Blk.nw42 | with_reducible exact Bk.Blk.nw43))
  try (have hn := Bk.Blk.later (g := (w).heap.size + 2) hb1 (by first | with_reducible exact Bk.Blk.nw10 | with_reducible exact Bk.Blk.nw20 | with_reducible exact Bk.Blk.nw21 | with_reducible exact Bk.Blk.nw30 | with_reducible exact Bk.Blk.nw31 | with_reducible exact Bk.Blk.nw32 | with_reducible exact Bk.Blk.nw40 | with_reducible exact Bk.Blk.nw41 | with_reducible exact Bk.Blk.nw42 | with_reducible exact Bk.Blk.nw43))
  try (have hn := Bk.Blk.later (g := (w).heap.size + 3) hb1 (by first | with_reducible exact Bk.Blk.nw10 | with_reducible exact Bk.Blk.nw20 | with_reducible exact Bk.Blk.nw21 | with_reducible exact Bk.Blk.nw30 | with_reducible exact Bk.Blk.nw31 | with_reducible exact Bk.Blk.nw32 | with_reducible exact Bk.Blk.nw40 | with_reducible exact Bk.Blk.nw41 | with_reducible exact Bk.Blk.nw42 | with_reducible exact Bk.Blk.nw43))
  clear hb1
  repeat (rename World.cell? w _ = _ => hq; clear hq)
  repeat (rename World.frozen? w _ = _ => hq; clear hq)
  repeat (rename Bk.Blk w1 _ _ _ => hq; (first | (have _k0 := (hq).c0; have _m0 := (hq).f0) | skip); (first | (have _k1 := (hq).c1; have _m1 := (hq).f1) | skip); (first | (have _k2 := (hq).c2; have _m2 := (hq).f2) | skip); (first | (have _k3 := (hq).c3; have _m3 := (hq).f3) | skip); have _z := (hq).lt; have hk := Bk.Kept.mk hq; clear hq)
  repeat (rename Bk.Kept (Bk.Blk w1 _ _ _) => hq; have hq' := hq.out; clear hq)
  go_wp2_with fail
  refine (HG.out _).mono ?_
  rintro e w' ⟨rfl, rfl⟩
  go_wp2_with fail
  refine (HL.out _ (hS.of (by repeat (first | assumption | exact Below.refl _ _ | refine Below.setCell ?_ (by first | exact Nat.le_refl _ | (simp; done) | (simp; omega) | omega) _ | refine Below.alloc ?_ (by first | exact Nat.le_refl _ | (simp; done) | (simp; omega) | omega) _ | refine Below.drew ?_ | exact Nat.le_refl _)))).mono ?_
  rintro e w9 ⟨rfl, hb9⟩
  have b9 : Below w.heap.size w w9 := bl2 hb9 (by repeat (first | assumption | exact Below.refl _ _ | refine Below.setCell ?_ (by first | exact Nat.le_refl _ | (simp; done) | (simp; omega) | omega) _ | refine Below.alloc ?_ (by first | exact Nat.le_refl _ | (simp; done) | (simp; omega) | omega) _ | refine Below.drew ?_ | exact Nat.le_refl _))
  have z9 := b9.size
  repeat (rename Bk.Blk w1 _ _ _ => hq; (first | (have hq' := Bk.Blk.carry hq hb9 (by (repeat (first | with_reducible refine Bk.Blk.drew ?_ | with_reducible refine Bk.Blk.set_same ?_ | with_reducible refine Bk.Blk.set_ne ?_ (by omega) | with_reducible refine Bk.Blk.alloc ?_)); (with_reducible exact hq))) | (have hq' := Bk.Blk.later hb9 (Bk.Blk.set2 hq)) | skip); clear hq)
  try (have hn := Bk.Blk.later (g := (w1).heap.size) hb9 (by first | with_reducible exact Bk.Blk.nw10 | with_reducible exact Bk.Blk.nw20 | with_reducible exact Bk.Blk.nw21 | with_reducible exact Bk.Blk.nw30 | with_reducible exact Bk.Blk.nw31 | with_reducible exact Bk.Blk.nw32 | with_reducible exact Bk.Blk.nw40 | with_reducible exact Bk.Blk.nw41 | with_reducible exact Bk.Blk.nw42 | with_reducible exact Bk.Blk.nw43))
  try (have hn := Bk.Blk.later (g := (w1).heap.size + 1) hb9 (by first | with_reducible exact Bk.Blk.nw10 | with_reducible exact Bk.Blk.nw20 | with_reducible exact Bk.Blk.nw21 | with_reducible exact Bk.Blk.nw30 | with_reducible exact Bk.Blk.nw31 | with_reducible exact Bk.Blk.nw32 | with_reducible exact Bk.Blk.nw40 | with_reducible exact Bk.Blk.nw41 | with_reducible exact Bk.Blk.nw42 | with_reducible exact Bk.Blk.nw43))
  try (have hn := Bk.Blk.later (g := (w1).heap.size + 2) hb9 (by first | with_reducible exact Bk.Blk.nw10 | with_reducible exact Bk.Blk.nw20 | with_reducible exact Bk.Blk.nw21 | with_reducible exact Bk.Blk.nw30 | with_reducible exact Bk.Blk.nw31 | with_reducible exact Bk.Blk.nw32 | with_reducible exact Bk.Blk.nw40 | with_reducible exact Bk.Blk.nw41 | with_reducible exact Bk.Blk.nw42 | with_reducible exact Bk.Blk.nw43))
  try (have hn := Bk.Blk.later (g := (w1).heap.size + 3) hb9 (by first | with_reducible exact Bk.Blk.nw10 | with_reducible exact Bk.Blk.nw20 | with_reducible exact Bk.Blk.nw21 | with_reducible exact Bk.Blk.nw30 | with_reducible exact Bk.Blk.nw31 | with_reducible exact Bk.Blk.nw32 | with_reducible exact Bk.Blk.nw40 | with_reducible exact Bk.Blk.nw41 | with_reducible exact Bk.Blk.nw42 | with_reducible exact Bk.Blk.nw43))
  clear hb9
  repeat (rename World.cell? w1 _ = _ => hq; clear hq)
  repeat (rename World.frozen? w1 _ = _ => hq; clear hq)
  repeat (rename Bk.Blk w9 _ _ _ => hq; (first | (have _k0 := (hq).c0; have _m0 := (hq).f0) | skip); (first | (have _k1 := (hq).c1; have _m1 := (hq).f1) | skip); (first | (have _k2 := (hq).c2; have _m2 := (hq).f2) | skip); (first | (have _k3 := (hq).c3; have _m3 := (hq).f3) | skip); have _z := (hq).lt; have hk := Bk.Kept.mk hq; clear hq)
  repeat (rename Bk.Kept (Bk.Blk w9 _ _ _) => hq; have hq' := hq.out; clear hq)
  go_wp2_with fail
  go_ret
  exact ⟨rfl, (by repeat (first | assumption | exact Below.refl _ _ | refine Below.setCell ?_ (by first | exact Nat.le_refl _ | (simp; done) | (simp; omega) | omega) _ | refine Below.alloc ?_ (by first | exact Nat.le_refl _ | (simp; done) | (simp; omega) | omega) _ | refine Below.drew ?_ | exact Nat.le_refl _))⟩
set_option maxRecDepth 100000 in
set_option maxHeartbeats 4000000 in
theorem least_b4 (hS : Stp w) (HL : Hid (∀ W : World, Stp W → Calls Tryd.prog 11 #[] W fun e w' => e = .returned (.bool true) ∧ Below W.heap.size W w')) (HP : Hid (∀ W : World, Stp W → Calls Tryd.prog 17 #[.int .i64 p, .int .i64 ppm, .int .i64 ev, .int .i64 m, .int .i64 cnt, .int .i64 bal] W fun e w' => e = .returned (.tuple #[.int .i64 0, .int .i64 1]) ∧ Below W.heap.size W w')) (HG : Hid (∀ W : World, Calls Tryd.prog 10 #[.int .i64 p, .int .i64 ppm, .int .i64 ev, .int .i64 m] W fun e w' => e = .returned (.bool true) ∧ W = w')) (h1 : 1 ≤ cnt) (h2 : cnt ≤ 120) (h3 : 0 ≤ bal) (h4 : p < bal) : Calls Tryd.prog 6 #[.agg #[.int .i64 p, .int .i64 ppm, .int .i64 ev, .int .i64 m], .int .i64 cnt, .int .i64 bal] w fun e w' => e = .returned (.bool true) ∧ Below w.heap.size w w' := by
  have b0 := Below.refl w.heap.size w
  go_enter Tryd.func6, Tryd.ntmps6
  go_wp2_with fail
  refine (HP.out _ (hS.of (by repeat (first | assumption | exact Below.refl _ _ | refine Below.setCell ?_ (by first | exact Nat.le_refl _ | (simp; done) | (simp; omega) | omega) _ | refine Below.alloc ?_ (by first | exact Nat.le_refl _ | (simp; done) | (simp; omega) | omega) _ | refine Below.drew ?_ | exact Nat.le_refl _)))).mono ?_
  rintro e w1 ⟨rfl, hb1⟩
  have b1 : Below w.heap.size w w1 := bl2 hb1 (by repeat (first | assumption | exact Below.refl _ _ | refine Below.setCell ?_ (by first | exact Nat.le_refl _ | (simp; done) | (simp; omega) | omega) _ | refine Below.alloc ?_ (by first | exact Nat.le_refl _ | (simp; done) | (simp; omega) | omega) _ | refine Below.drew ?_ | exact Nat.le_refl _))
  have z1 := b1.size
  repeat (rename Bk.Blk w _ _ _ => hq; (first | (have hq' := Bk.Blk.carry hq hb1 (by (repeat (first | with_reducible refine Bk.Blk.drew ?_ | with_reducible refine Bk.Blk.set_same ?_ | with_reducible refine Bk.Blk.set_ne ?_ (by omega) | with_reducible refine Bk.Blk.alloc ?_)); (with_reducible exact hq))) | (have hq' := Bk.Blk.later hb1 (Bk.Blk.set2 hq)) | skip); clear hq)
  try (have hn := Bk.Blk.later (g := (w).heap.size) hb1 (by first | with_reducible exact Bk.Blk.nw10 | with_reducible exact Bk.Blk.nw20 | with_reducible exact Bk.Blk.nw21 | with_reducible exact Bk.Blk.nw30 | with_reducible exact Bk.Blk.nw31 | with_reducible exact Bk.Blk.nw32 | with_reducible exact Bk.Blk.nw40 | with_reducible exact Bk.Blk.nw41 | with_reducible exact Bk.Blk.nw42 | with_reducible exact Bk.Blk.nw43))
  try (have hn := Bk.Blk.later (g := (w).heap.size + 1) hb1 (by first | with_reducible exact Bk.Blk.nw10 | with_reducible exact Bk.Blk.nw20 | with_reducible exact Bk.Blk.nw21 | with_reducible exact Bk.Blk.nw30 | with_reducible exact Bk.Blk.nw31 | with_reducible exact Bk.Blk.nw32 | with_reducible exact Bk.Blk.nw40 | with_reducible exact Bk.Blk.nw41 | with_reducible exact Bk.Blk.nw42 | with_reducible exact Bk.Blk.nw43))
  try (have hn := Bk.Blk.later (g := (w).heap.size + 2) hb1 (by first | with_reducible exact Bk.Blk.nw10 | with_reducible exact Bk.Blk.nw20 | with_reducible exact Bk.Blk.nw21 | with_reducible exact Bk.Blk.nw30 | with_reducible exact Bk.Blk.nw31 | with_reducible exact Bk.Blk.nw32 | with_reducible exact Bk.Blk.nw40 | with_reducible exact Bk.Blk.nw41 | with_reducible exact Bk.Blk.nw42 | with_reducible exact Bk.Blk.nw43))
  try (have hn := Bk.Blk.later (g := (w).heap.size + 3) hb1 (by first | with_reducible exact Bk.Blk.nw10 | with_reducible exact Bk.Blk.nw20 | with_reducible exact Bk.Blk.nw21 | with_reducible exact Bk.Blk.nw30 | with_reducible exact Bk.Blk.nw31 | with_reducible exact Bk.Blk.nw32 | with_reducible exact Bk.Blk.nw40 | with_reducible exact Bk.Blk.nw41 | with_reducible exact Bk.Blk.nw42 | with_reducible exact Bk.Blk.nw43))
  clear hb1
  repeat (rename World.cell? w _ = _ => hq; clear hq)
  repeat (rename World.frozen? w _ = _ => hq; clear hq)
  repeat (rename Bk.Blk w1 _ _ _ => hq; (first | (have _k0 := (hq).c0; have _m0 := (hq).f0) | skip); (first | (have _k1 := (hq).c1; have _m1 := (hq).f1) | skip); (first | (have _k2 := (hq).c2; have _m2 := (hq).f2) | skip); (first | (have _k3 := (hq).c3; have _m3 := (hq).f3) | skip); have _z := (hq).lt; have hk := Bk.Kept.mk hq; clear hq)
  repeat (rename Bk.Kept (Bk.Blk w1 _ _ _) => hq; have hq' := hq.out; clear hq)
  go_wp2_with fail
  refine (HG.out _).mono ?_
  rintro e w' ⟨rfl, rfl⟩
  go_wp2_with fail
  refine (HL.out _ (hS.of (by repeat (first | assumption | exact Below.refl _ _ | refine Below.setCell ?_ (by first | exact Nat.le_refl _ | (simp; done) | (simp; omega) | omega) _ | refine Below.alloc ?_ (by first | exact Nat.le_refl _ | (simp; done) | (simp; omega) | omega) _ | refine Below.drew ?_ | exact Nat.le_refl _)))).mono ?_
  rintro e w9 ⟨rfl, hb9⟩
  have b9 : Below w.heap.size w w9 := bl2 hb9 (by repeat (first | assumption | exact Below.refl _ _ | refine Below.setCell ?_ (by first | exact Nat.le_refl _ | (simp; done) | (simp; omega) | omega) _ | refine Below.alloc ?_ (by first | exact Nat.le_refl _ | (simp; done) | (simp; omega) | omega) _ | refine Below.drew ?_ | exact Nat.le_refl _))
  have z9 := b9.size
  repeat (rename Bk.Blk w1 _ _ _ => hq; (first | (have hq' := Bk.Blk.carry hq hb9 (by (repeat (first | with_reducible refine Bk.Blk.drew ?_ | with_reducible refine Bk.Blk.set_same ?_ | with_reducible refine Bk.Blk.set_ne ?_ (by omega) | with_reducible refine Bk.Blk.alloc ?_)); (with_reducible exact hq))) | (have hq' := Bk.Blk.later hb9 (Bk.Blk.set2 hq)) | skip); clear hq)
  try (have hn := Bk.Blk.later (g := (w1).heap.size) hb9 (by first | with_reducible exact Bk.Blk.nw10 | with_reducible exact Bk.Blk.nw20 | with_reducible exact Bk.Blk.nw21 | with_reducible exact Bk.Blk.nw30 | with_reducible exact Bk.Blk.nw31 | with_reducible exact Bk.Blk.nw32 | with_reducible exact Bk.Blk.nw40 | with_reducible exact Bk.Blk.nw41 | with_reducible exact Bk.Blk.nw42 | with_reducible exact Bk.Blk.nw43))
  try (have hn := Bk.Blk.later (g := (w1).heap.size + 1) hb9 (by first | with_reducible exact Bk.Blk.nw10 | with_reducible exact Bk.Blk.nw20 | with_reducible exact Bk.Blk.nw21 | with_reducible exact Bk.Blk.nw30 | with_reducible exact Bk.Blk.nw31 | with_reducible exact Bk.Blk.nw32 | with_reducible exact Bk.Blk.nw40 | with_reducible exact Bk.Blk.nw41 | with_reducible exact Bk.Blk.nw42 | with_reducible exact Bk.Blk.nw43))
  try (have hn := Bk.Blk.later (g := (w1).heap.size + 2) hb9 (by first | with_reducible exact Bk.Blk.nw10 | with_reducible exact Bk.Blk.nw20 | with_reducible exact Bk.Blk.nw21 | with_reducible exact Bk.Blk.nw30 | with_reducible exact Bk.Blk.nw31 | with_reducible exact Bk.Blk.nw32 | with_reducible exact Bk.Blk.nw40 | with_reducible exact Bk.Blk.nw41 | with_reducible exact Bk.Blk.nw42 | with_reducible exact Bk.Blk.nw43))
  try (have hn := Bk.Blk.later (g := (w1).heap.size + 3) hb9 (by first | with_reducible exact Bk.Blk.nw10 | with_reducible exact Bk.Blk.nw20 | with_reducible exact Bk.Blk.nw21 | with_reducible exact Bk.Blk.nw30 | with_reducible exact Bk.Blk.nw31 | with_reducible exact Bk.Blk.nw32 | with_reducible exact Bk.Blk.nw40 | with_reducible exact Bk.Blk.nw41 | with_reducible exact Bk.Blk.nw42 | with_reducible exact Bk.Blk.nw43))
  clear hb9
  repeat (rename World.cell? w1 _ = _ => hq; clear hq)
  repeat (rename World.frozen? w1 _ = _ => hq; clear hq)
  repeat (rename Bk.Blk w9 _ _ _ => hq; (first | (have _k0 := (hq).c0; have _m0 := (hq).f0) | skip); (first | (have _k1 := (hq).c1; have _m1 := (hq).f1) | skip); (first | (have _k2 := (hq).c2; have _m2 := (hq).f2) | skip); (first | (have _k3 := (hq).c3; have _m3 := (hq).f3) | skip); have _z := (hq).lt; have hk := Bk.Kept.mk hq; clear hq)
  repeat (rename Bk.Kept (Bk.Blk w9 _ _ _) => hq; have hq' := hq.out; clear hq)
  go_wp2_with fail
  go_ret
  exact ⟨rfl, (by repeat (first | assumption | exact Below.refl _ _ | refine Below.setCell ?_ (by first | exact Nat.le_refl _ | (simp; done) | (simp; omega) | omega) _ | refine Below.alloc ?_ (by first | exact Nat.le_refl _ | (simp; done) | (simp; omega) | omega) _ | refine Below.drew ?_ | exact Nat.le_refl _))⟩
set_option maxRecDepth 100000 in
set_option maxHeartbeats 4000000 in
theorem least_o6 (hS : Stp w) (HL : Hid (∀ W : World, Stp W → Calls Tryd.prog 11 #[] W fun e w' => e = .returned (.bool true) ∧ Below W.heap.size W w')) {V : Int} (HP : Hid (∀ W : World, Stp W → Calls Tryd.prog 17 #[.int .i64 p, .int .i64 ppm, .int .i64 ev, .int .i64 m, .int .i64 cnt, .int .i64 bal] W fun e w' => e = .returned (.tuple #[.int .i64 0, .int .i64 6]) ∧ Below W.heap.size W w')) (HG : Hid (∀ W : World, Calls Tryd.prog 10 #[.int .i64 p, .int .i64 ppm, .int .i64 ev, .int .i64 m] W fun e w' => e = .returned (.bool true) ∧ W = w')) (H1 : Hid (∀ W : World, Stp W → Calls Tryd.prog 15 #[.int .i64 p, .int .i64 ppm, .int .i64 ev, .int .i64 m, .int .i64 cnt, .int .i64 (1000000000000)] W fun e w' => e = .returned (.tuple #[.int .i64 V, .int .i64 6]) ∧ Below W.heap.size W w')) (h1 : 1 ≤ cnt) (h2 : cnt ≤ 120) (h3 : 0 ≤ bal) (h4 : bal ≤ p) : Calls Tryd.prog 6 #[.agg #[.int .i64 p, .int .i64 ppm, .int .i64 ev, .int .i64 m], .int .i64 cnt, .int .i64 bal] w fun e w' => e = .returned (.bool true) ∧ Below w.heap.size w w' := by
  have b0 := Below.refl w.heap.size w
  go_enter Tryd.func6, Tryd.ntmps6
  go_wp2_with fail
  refine (HP.out _ (hS.of (by repeat (first | assumption | exact Below.refl _ _ | refine Below.setCell ?_ (by first | exact Nat.le_refl _ | (simp; done) | (simp; omega) | omega) _ | refine Below.alloc ?_ (by first | exact Nat.le_refl _ | (simp; done) | (simp; omega) | omega) _ | refine Below.drew ?_ | exact Nat.le_refl _)))).mono ?_
  rintro e w1 ⟨rfl, hb1⟩
  have b1 : Below w.heap.size w w1 := bl2 hb1 (by repeat (first | assumption | exact Below.refl _ _ | refine Below.setCell ?_ (by first | exact Nat.le_refl _ | (simp; done) | (simp; omega) | omega) _ | refine Below.alloc ?_ (by first | exact Nat.le_refl _ | (simp; done) | (simp; omega) | omega) _ | refine Below.drew ?_ | exact Nat.le_refl _))
  have z1 := b1.size
  repeat (rename Bk.Blk w _ _ _ => hq; (first | (have hq' := Bk.Blk.carry hq hb1 (by (repeat (first | with_reducible refine Bk.Blk.drew ?_ | with_reducible refine Bk.Blk.set_same ?_ | with_reducible refine Bk.Blk.set_ne ?_ (by omega) | with_reducible refine Bk.Blk.alloc ?_)); (with_reducible exact hq))) | (have hq' := Bk.Blk.later hb1 (Bk.Blk.set2 hq)) | skip); clear hq)
  try (have hn := Bk.Blk.later (g := (w).heap.size) hb1 (by first | with_reducible exact Bk.Blk.nw10 | with_reducible exact Bk.Blk.nw20 | with_reducible exact Bk.Blk.nw21 | with_reducible exact Bk.Blk.nw30 | with_reducible exact Bk.Blk.nw31 | with_reducible exact Bk.Blk.nw32 | with_reducible exact Bk.Blk.nw40 | with_reducible exact Bk.Blk.nw41 | with_reducible exact Bk.Blk.nw42 | with_reducible exact Bk.Blk.nw43))
  try (have hn := Bk.Blk.later (g := (w).heap.size + 1) hb1 (by first | with_reducible exact Bk.Blk.nw10 | with_reducible exact Bk.Blk.nw20 | with_reducible exact Bk.Blk.nw21 | with_reducible exact Bk.Blk.nw30 | with_reducible exact Bk.Blk.nw31 | with_reducible exact Bk.Blk.nw32 | with_reducible exact Bk.Blk.nw40 | with_reducible exact Bk.Blk.nw41 | with_reducible exact Bk.Blk.nw42 | with_reducible exact Bk.Blk.nw43))
  try (have hn := Bk.Blk.later (g := (w).heap.size + 2) hb1 (by first | with_reducible exact Bk.Blk.nw10 | with_reducible exact Bk.Blk.nw20 | with_reducible exact Bk.Blk.nw21 | with_reducible exact Bk.Blk.nw30 | with_reducible exact Bk.Blk.nw31 | with_reducible exact Bk.Blk.nw32 | with_reducible exact Bk.Blk.nw40 | with_reducible exact Bk.Blk.nw41 | with_reducible exact Bk.Blk.nw42 | with_reducible exact Bk.Blk.nw43))
  try (have hn := Bk.Blk.later (g := (w).heap.size + 3) hb1 (by first | with_reducible exact Bk.Blk.nw10 | with_reducible exact Bk.Blk.nw20 | with_reducible exact Bk.Blk.nw21 | with_reducible exact Bk.Blk.nw30 | with_reducible exact Bk.Blk.nw31 | with_reducible exact Bk.Blk.nw32 | with_reducible exact Bk.Blk.nw40 | with_reducible exact Bk.Blk.nw41 | with_reducible exact Bk.Blk.nw42 | with_reducible exact Bk.Blk.nw43))
  clear hb1
  repeat (rename World.cell? w _ = _ => hq; clear hq)
  repeat (rename World.frozen? w _ = _ => hq; clear hq)
  repeat (rename Bk.Blk w1 _ _ _ => hq; (first | (have _k0 := (hq).c0; have _m0 := (hq).f0) | skip); (first | (have _k1 := (hq).c1; have _m1 := (hq).f1) | skip); (first | (have _k2 := (hq).c2; have _m2 := (hq).f2) | skip); (first | (have _k3 := (hq).c3; have _m3 := (hq).f3) | skip); have _z := (hq).lt; have hk := Bk.Kept.mk hq; clear hq)
  repeat (rename Bk.Kept (Bk.Blk w1 _ _ _) => hq; have hq' := hq.out; clear hq)
  go_wp2_with fail
  refine (HG.out _).mono ?_
  rintro e w' ⟨rfl, rfl⟩
  go_wp2_with fail
  refine (H1.out _ (hS.of (by repeat (first | assumption | exact Below.refl _ _ | refine Below.setCell ?_ (by first | exact Nat.le_refl _ | (simp; done) | (simp; omega) | omega) _ | refine Below.alloc ?_ (by first | exact Nat.le_refl _ | (simp; done) | (simp; omega) | omega) _ | refine Below.drew ?_ | exact Nat.le_refl _)))).mono ?_
  rintro e w2 ⟨rfl, hb2⟩
  have b2 : Below w.heap.size w w2 := bl2 hb2 (by repeat (first | assumption | exact Below.refl _ _ | refine Below.setCell ?_ (by first | exact Nat.le_refl _ | (simp; done) | (simp; omega) | omega) _ | refine Below.alloc ?_ (by first | exact Nat.le_refl _ | (simp; done) | (simp; omega) | omega) _ | refine Below.drew ?_ | exact Nat.le_refl _))
  have z2 := b2.size
  repeat (rename Bk.Blk w1 _ _ _ => hq; (first | (have hq' := Bk.Blk.carry hq hb2 (by (repeat (first | with_reducible refine Bk.Blk.drew ?_ | with_reducible refine Bk.Blk.set_same ?_ | with_reducible refine Bk.Blk.set_ne ?_ (by omega) | with_reducible refine Bk.Blk.alloc ?_)); (with_reducible exact hq))) | (have hq' := Bk.Blk.later hb2 (Bk.Blk.set2 hq)) | skip); clear hq)
  try (have hn := Bk.Blk.later (g := (w1).heap.size) hb2 (by first | with_reducible exact Bk.Blk.nw10 | with_reducible exact Bk.Blk.nw20 | with_reducible exact Bk.Blk.nw21 | with_reducible exact Bk.Blk.nw30 | with_reducible exact Bk.Blk.nw31 | with_reducible exact Bk.Blk.nw32 | with_reducible exact Bk.Blk.nw40 | with_reducible exact Bk.Blk.nw41 | with_reducible exact Bk.Blk.nw42 | with_reducible exact Bk.Blk.nw43))
  try (have hn := Bk.Blk.later (g := (w1).heap.size + 1) hb2 (by first | with_reducible exact Bk.Blk.nw10 | with_reducible exact Bk.Blk.nw20 | with_reducible exact Bk.Blk.nw21 | with_reducible exact Bk.Blk.nw30 | with_reducible exact Bk.Blk.nw31 | with_reducible exact Bk.Blk.nw32 | with_reducible exact Bk.Blk.nw40 | with_reducible exact Bk.Blk.nw41 | with_reducible exact Bk.Blk.nw42 | with_reducible exact Bk.Blk.nw43))
  try (have hn := Bk.Blk.later (g := (w1).heap.size + 2) hb2 (by first | with_reducible exact Bk.Blk.nw10 | with_reducible exact Bk.Blk.nw20 | with_reducible exact Bk.Blk.nw21 | with_reducible exact Bk.Blk.nw30 | with_reducible exact Bk.Blk.nw31 | with_reducible exact Bk.Blk.nw32 | with_reducible exact Bk.Blk.nw40 | with_reducible exact Bk.Blk.nw41 | with_reducible exact Bk.Blk.nw42 | with_reducible exact Bk.Blk.nw43))
  try (have hn := Bk.Blk.later (g := (w1).heap.size + 3) hb2 (by first | with_reducible exact Bk.Blk.nw10 | with_reducible exact Bk.Blk.nw20 | with_reducible exact Bk.Blk.nw21 | with_reducible exact Bk.Blk.nw30 | with_reducible exact Bk.Blk.nw31 | with_reducible exact Bk.Blk.nw32 | with_reducible exact Bk.Blk.nw40 | with_reducible exact Bk.Blk.nw41 | with_reducible exact Bk.Blk.nw42 | with_reducible exact Bk.Blk.nw43))
  clear hb2
  repeat (rename World.cell? w1 _ = _ => hq; clear hq)
  repeat (rename World.frozen? w1 _ = _ => hq; clear hq)
  repeat (rename Bk.Blk w2 _ _ _ => hq; (first | (have _k0 := (hq).c0; have _m0 := (hq).f0) | skip); (first | (have _k1 := (hq).c1; have _m1 := (hq).f1) | skip); (first | (have _k2 := (hq).c2; have _m2 := (hq).f2) | skip); (first | (have _k3 := (hq).c3; have _m3 := (hq).f3) | skip); have _z := (hq).lt; have hk := Bk.Kept.mk hq; clear hq)
  repeat (rename Bk.Kept (Bk.Blk w2 _ _ _) => hq; have hq' := hq.out; clear hq)
  go_wp2_with fail
  refine (HL.out _ (hS.of (by repeat (first | assumption | exact Below.refl _ _ | refine Below.setCell ?_ (by first | exact Nat.le_refl _ | (simp; done) | (simp; omega) | omega) _ | refine Below.alloc ?_ (by first | exact Nat.le_refl _ | (simp; done) | (simp; omega) | omega) _ | refine Below.drew ?_ | exact Nat.le_refl _)))).mono ?_
  rintro e w9 ⟨rfl, hb9⟩
  have b9 : Below w.heap.size w w9 := bl2 hb9 (by repeat (first | assumption | exact Below.refl _ _ | refine Below.setCell ?_ (by first | exact Nat.le_refl _ | (simp; done) | (simp; omega) | omega) _ | refine Below.alloc ?_ (by first | exact Nat.le_refl _ | (simp; done) | (simp; omega) | omega) _ | refine Below.drew ?_ | exact Nat.le_refl _))
  have z9 := b9.size
  repeat (rename Bk.Blk w2 _ _ _ => hq; (first | (have hq' := Bk.Blk.carry hq hb9 (by (repeat (first | with_reducible refine Bk.Blk.drew ?_ | with_reducible refine Bk.Blk.set_same ?_ | with_reducible refine Bk.Blk.set_ne ?_ (by omega) | with_reducible refine Bk.Blk.alloc ?_)); (with_reducible exact hq))) | (have hq' := Bk.Blk.later hb9 (Bk.Blk.set2 hq)) | skip); clear hq)
  try (have hn := Bk.Blk.later (g := (w2).heap.size) hb9 (by first | with_reducible exact Bk.Blk.nw10 | with_reducible exact Bk.Blk.nw20 | with_reducible exact Bk.Blk.nw21 | with_reducible exact Bk.Blk.nw30 | with_reducible exact Bk.Blk.nw31 | with_reducible exact Bk.Blk.nw32 | with_reducible exact Bk.Blk.nw40 | with_reducible exact Bk.Blk.nw41 | with_reducible exact Bk.Blk.nw42 | with_reducible exact Bk.Blk.nw43))
  try (have hn := Bk.Blk.later (g := (w2).heap.size + 1) hb9 (by first | with_reducible exact Bk.Blk.nw10 | with_reducible exact Bk.Blk.nw20 | with_reducible exact Bk.Blk.nw21 | with_reducible exact Bk.Blk.nw30 | with_reducible exact Bk.Blk.nw31 | with_reducible exact Bk.Blk.nw32 | with_reducible exact Bk.Blk.nw40 | with_reducible exact Bk.Blk.nw41 | with_reducible exact Bk.Blk.nw42 | with_reducible exact Bk.Blk.nw43))
  try (have hn := Bk.Blk.later (g := (w2).heap.size + 2) hb9 (by first | with_reducible exact Bk.Blk.nw10 | with_reducible exact Bk.Blk.nw20 | with_reducible exact Bk.Blk.nw21 | with_reducible exact Bk.Blk.nw30 | with_reducible exact Bk.Blk.nw31 | with_reducible exact Bk.Blk.nw32 | with_reducible exact Bk.Blk.nw40 | with_reducible exact Bk.Blk.nw41 | with_reducible exact Bk.Blk.nw42 | with_reducible exact Bk.Blk.nw43))
  try (have hn := Bk.Blk.later (g := (w2).heap.size + 3) hb9 (by first | with_reducible exact Bk.Blk.nw10 | with_reducible exact Bk.Blk.nw20 | with_reducible exact Bk.Blk.nw21 | with_reducible exact Bk.Blk.nw30 | with_reducible exact Bk.Blk.nw31 | with_reducible exact Bk.Blk.nw32 | with_reducible exact Bk.Blk.nw40 | with_reducible exact Bk.Blk.nw41 | with_reducible exact Bk.Blk.nw42 | with_reducible exact Bk.Blk.nw43))
  clear hb9
  repeat (rename World.cell? w2 _ = _ => hq; clear hq)
  repeat (rename World.frozen? w2 _ = _ => hq; clear hq)
  repeat (rename Bk.Blk w9 _ _ _ => hq; (first | (have _k0 := (hq).c0; have _m0 := (hq).f0) | skip); (first | (have _k1 := (hq).c1; have _m1 := (hq).f1) | skip); (first | (have _k2 := (hq).c2; have _m2 := (hq).f2) | skip); (first | (have _k3 := (hq).c3; have _m3 := (hq).f3) | skip); have _z := (hq).lt; have hk := Bk.Kept.mk hq; clear hq)
  repeat (rename Bk.Kept (Bk.Blk w9 _ _ _) => hq; have hq' := hq.out; clear hq)
  go_wp2_with fail
  go_ret
  exact ⟨rfl, (by repeat (first | assumption | exact Below.refl _ _ | refine Below.setCell ?_ (by first | exact Nat.le_refl _ | (simp; done) | (simp; omega) | omega) _ | refine Below.alloc ?_ (by first | exact Nat.le_refl _ | (simp; done) | (simp; omega) | omega) _ | refine Below.drew ?_ | exact Nat.le_refl _))⟩
set_option maxRecDepth 100000 in
set_option maxHeartbeats 4000000 in
theorem least_o0 (hS : Stp w) (HL : Hid (∀ W : World, Stp W → Calls Tryd.prog 11 #[] W fun e w' => e = .returned (.bool true) ∧ Below W.heap.size W w')) {V : Int} (HP : Hid (∀ W : World, Stp W → Calls Tryd.prog 17 #[.int .i64 p, .int .i64 ppm, .int .i64 ev, .int .i64 m, .int .i64 cnt, .int .i64 bal] W fun e w' => e = .returned (.tuple #[.int .i64 0, .int .i64 6]) ∧ Below W.heap.size W w')) (HG : Hid (∀ W : World, Calls Tryd.prog 10 #[.int .i64 p, .int .i64 ppm, .int .i64 ev, .int .i64 m] W fun e w' => e = .returned (.bool true) ∧ W = w')) (H1 : Hid (∀ W : World, Stp W → Calls Tryd.prog 15 #[.int .i64 p, .int .i64 ppm, .int .i64 ev, .int .i64 m, .int .i64 cnt, .int .i64 (1000000000000)] W fun e w' => e = .returned (.tuple #[.int .i64 V, .int .i64 0]) ∧ Below W.heap.size W w')) (h1 : 1 ≤ cnt) (h2 : cnt ≤ 120) (h3 : 0 ≤ bal) (h4 : bal ≤ p) (hv : bal < V) : Calls Tryd.prog 6 #[.agg #[.int .i64 p, .int .i64 ppm, .int .i64 ev, .int .i64 m], .int .i64 cnt, .int .i64 bal] w fun e w' => e = .returned (.bool true) ∧ Below w.heap.size w w' := by
  have b0 := Below.refl w.heap.size w
  go_enter Tryd.func6, Tryd.ntmps6
  go_wp2_with fail
  refine (HP.out _ (hS.of (by repeat (first | assumption | exact Below.refl _ _ | refine Below.setCell ?_ (by first | exact Nat.le_refl _ | (simp; done) | (simp; omega) | omega) _ | refine Below.alloc ?_ (by first | exact Nat.le_refl _ | (simp; done) | (simp; omega) | omega) _ | refine Below.drew ?_ | exact Nat.le_refl _)))).mono ?_
  rintro e w1 ⟨rfl, hb1⟩
  have b1 : Below w.heap.size w w1 := bl2 hb1 (by repeat (first | assumption | exact Below.refl _ _ | refine Below.setCell ?_ (by first | exact Nat.le_refl _ | (simp; done) | (simp; omega) | omega) _ | refine Below.alloc ?_ (by first | exact Nat.le_refl _ | (simp; done) | (simp; omega) | omega) _ | refine Below.drew ?_ | exact Nat.le_refl _))
  have z1 := b1.size
  repeat (rename Bk.Blk w _ _ _ => hq; (first | (have hq' := Bk.Blk.carry hq hb1 (by (repeat (first | with_reducible refine Bk.Blk.drew ?_ | with_reducible refine Bk.Blk.set_same ?_ | with_reducible refine Bk.Blk.set_ne ?_ (by omega) | with_reducible refine Bk.Blk.alloc ?_)); (with_reducible exact hq))) | (have hq' := Bk.Blk.later hb1 (Bk.Blk.set2 hq)) | skip); clear hq)
  try (have hn := Bk.Blk.later (g := (w).heap.size) hb1 (by first | with_reducible exact Bk.Blk.nw10 | with_reducible exact Bk.Blk.nw20 | with_reducible exact Bk.Blk.nw21 | with_reducible exact Bk.Blk.nw30 | with_reducible exact Bk.Blk.nw31 | with_reducible exact Bk.Blk.nw32 | with_reducible exact Bk.Blk.nw40 | with_reducible exact Bk.Blk.nw41 | with_reducible exact Bk.Blk.nw42 | with_reducible exact Bk.Blk.nw43))
  try (have hn := Bk.Blk.later (g := (w).heap.size + 1) hb1 (by first | with_reducible exact Bk.Blk.nw10 | with_reducible exact Bk.Blk.nw20 | with_reducible exact Bk.Blk.nw21 | with_reducible exact Bk.Blk.nw30 | with_reducible exact Bk.Blk.nw31 | with_reducible exact Bk.Blk.nw32 | with_reducible exact Bk.Blk.nw40 | with_reducible exact Bk.Blk.nw41 | with_reducible exact Bk.Blk.nw42 | with_reducible exact Bk.Blk.nw43))
  try (have hn := Bk.Blk.later (g := (w).heap.size + 2) hb1 (by first | with_reducible exact Bk.Blk.nw10 | with_reducible exact Bk.Blk.nw20 | with_reducible exact Bk.Blk.nw21 | with_reducible exact Bk.Blk.nw30 | with_reducible exact Bk.Blk.nw31 | with_reducible exact Bk.Blk.nw32 | with_reducible exact Bk.Blk.nw40 | with_reducible exact Bk.Blk.nw41 | with_reducible exact Bk.Blk.nw42 | with_reducible exact Bk.Blk.nw43))
  try (have hn := Bk.Blk.later (g := (w).heap.size + 3) hb1 (by first | with_reducible exact Bk.Blk.nw10 | with_reducible exact Bk.Blk.nw20 | with_reducible exact Bk.Blk.nw21 | with_reducible exact Bk.Blk.nw30 | with_reducible exact Bk.Blk.nw31 | with_reducible exact Bk.Blk.nw32 | with_reducible exact Bk.Blk.nw40 | with_reducible exact Bk.Blk.nw41 | with_reducible exact Bk.Blk.nw42 | with_reducible exact Bk.Blk.nw43))
  clear hb1
  repeat (rename World.cell? w _ = _ => hq; clear hq)
  repeat (rename World.frozen? w _ = _ => hq; clear hq)
  repeat (rename Bk.Blk w1 _ _ _ => hq; (first | (have _k0 := (hq).c0; have _m0 := (hq).f0) | skip); (first | (have _k1 := (hq).c1; have _m1 := (hq).f1) | skip); (first | (have _k2 := (hq).c2; have _m2 := (hq).f2) | skip); (first | (have _k3 := (hq).c3; have _m3 := (hq).f3) | skip); have _z := (hq).lt; have hk := Bk.Kept.mk hq; clear hq)
  repeat (rename Bk.Kept (Bk.Blk w1 _ _ _) => hq; have hq' := hq.out; clear hq)
  go_wp2_with fail
  refine (HG.out _).mono ?_
  rintro e w' ⟨rfl, rfl⟩
  go_wp2_with fail
  refine (H1.out _ (hS.of (by repeat (first | assumption | exact Below.refl _ _ | refine Below.setCell ?_ (by first | exact Nat.le_refl _ | (simp; done) | (simp; omega) | omega) _ | refine Below.alloc ?_ (by first | exact Nat.le_refl _ | (simp; done) | (simp; omega) | omega) _ | refine Below.drew ?_ | exact Nat.le_refl _)))).mono ?_
  rintro e w2 ⟨rfl, hb2⟩
  have b2 : Below w.heap.size w w2 := bl2 hb2 (by repeat (first | assumption | exact Below.refl _ _ | refine Below.setCell ?_ (by first | exact Nat.le_refl _ | (simp; done) | (simp; omega) | omega) _ | refine Below.alloc ?_ (by first | exact Nat.le_refl _ | (simp; done) | (simp; omega) | omega) _ | refine Below.drew ?_ | exact Nat.le_refl _))
  have z2 := b2.size
  repeat (rename Bk.Blk w1 _ _ _ => hq; (first | (have hq' := Bk.Blk.carry hq hb2 (by (repeat (first | with_reducible refine Bk.Blk.drew ?_ | with_reducible refine Bk.Blk.set_same ?_ | with_reducible refine Bk.Blk.set_ne ?_ (by omega) | with_reducible refine Bk.Blk.alloc ?_)); (with_reducible exact hq))) | (have hq' := Bk.Blk.later hb2 (Bk.Blk.set2 hq)) | skip); clear hq)
  try (have hn := Bk.Blk.later (g := (w1).heap.size) hb2 (by first | with_reducible exact Bk.Blk.nw10 | with_reducible exact Bk.Blk.nw20 | with_reducible exact Bk.Blk.nw21 | with_reducible exact Bk.Blk.nw30 | with_reducible exact Bk.Blk.nw31 | with_reducible exact Bk.Blk.nw32 | with_reducible exact Bk.Blk.nw40 | with_reducible exact Bk.Blk.nw41 | with_reducible exact Bk.Blk.nw42 | with_reducible exact Bk.Blk.nw43))
  try (have hn := Bk.Blk.later (g := (w1).heap.size + 1) hb2 (by first | with_reducible exact Bk.Blk.nw10 | with_reducible exact Bk.Blk.nw20 | with_reducible exact Bk.Blk.nw21 | with_reducible exact Bk.Blk.nw30 | with_reducible exact Bk.Blk.nw31 | with_reducible exact Bk.Blk.nw32 | with_reducible exact Bk.Blk.nw40 | with_reducible exact Bk.Blk.nw41 | with_reducible exact Bk.Blk.nw42 | with_reducible exact Bk.Blk.nw43))
  try (have hn := Bk.Blk.later (g := (w1).heap.size + 2) hb2 (by first | with_reducible exact Bk.Blk.nw10 | with_reducible exact Bk.Blk.nw20 | with_reducible exact Bk.Blk.nw21 | with_reducible exact Bk.Blk.nw30 | with_reducible exact Bk.Blk.nw31 | with_reducible exact Bk.Blk.nw32 | with_reducible exact Bk.Blk.nw40 | with_reducible exact Bk.Blk.nw41 | with_reducible exact Bk.Blk.nw42 | with_reducible exact Bk.Blk.nw43))
  try (have hn := Bk.Blk.later (g := (w1).heap.size + 3) hb2 (by first | with_reducible exact Bk.Blk.nw10 | with_reducible exact Bk.Blk.nw20 | with_reducible exact Bk.Blk.nw21 | with_reducible exact Bk.Blk.nw30 | with_reducible exact Bk.Blk.nw31 | with_reducible exact Bk.Blk.nw32 | with_reducible exact Bk.Blk.nw40 | with_reducible exact Bk.Blk.nw41 | with_reducible exact Bk.Blk.nw42 | with_reducible exact Bk.Blk.nw43))
  clear hb2
  repeat (rename World.cell? w1 _ = _ => hq; clear hq)
  repeat (rename World.frozen? w1 _ = _ => hq; clear hq)
  repeat (rename Bk.Blk w2 _ _ _ => hq; (first | (have _k0 := (hq).c0; have _m0 := (hq).f0) | skip); (first | (have _k1 := (hq).c1; have _m1 := (hq).f1) | skip); (first | (have _k2 := (hq).c2; have _m2 := (hq).f2) | skip); (first | (have _k3 := (hq).c3; have _m3 := (hq).f3) | skip); have _z := (hq).lt; have hk := Bk.Kept.mk hq; clear hq)
  repeat (rename Bk.Kept (Bk.Blk w2 _ _ _) => hq; have hq' := hq.out; clear hq)
  go_wp2_with fail
  refine (HL.out _ (hS.of (by repeat (first | assumption | exact Below.refl _ _ | refine Below.setCell ?_ (by first | exact Nat.le_refl _ | (simp; done) | (simp; omega) | omega) _ | refine Below.alloc ?_ (by first | exact Nat.le_refl _ | (simp; done) | (simp; omega) | omega) _ | refine Below.drew ?_ | exact Nat.le_refl _)))).mono ?_
  rintro e w9 ⟨rfl, hb9⟩
  have b9 : Below w.heap.size w w9 := bl2 hb9 (by repeat (first | assumption | exact Below.refl _ _ | refine Below.setCell ?_ (by first | exact Nat.le_refl _ | (simp; done) | (simp; omega) | omega) _ | refine Below.alloc ?_ (by first | exact Nat.le_refl _ | (simp; done) | (simp; omega) | omega) _ | refine Below.drew ?_ | exact Nat.le_refl _))
  have z9 := b9.size
  repeat (rename Bk.Blk w2 _ _ _ => hq; (first | (have hq' := Bk.Blk.carry hq hb9 (by (repeat (first | with_reducible refine Bk.Blk.drew ?_ | with_reducible refine Bk.Blk.set_same ?_ | with_reducible refine Bk.Blk.set_ne ?_ (by omega) | with_reducible refine Bk.Blk.alloc ?_)); (with_reducible exact hq))) | (have hq' := Bk.Blk.later hb9 (Bk.Blk.set2 hq)) | skip); clear hq)
  try (have hn := Bk.Blk.later (g := (w2).heap.size) hb9 (by first | with_reducible exact Bk.Blk.nw10 | with_reducible exact Bk.Blk.nw20 | with_reducible exact Bk.Blk.nw21 | with_reducible exact Bk.Blk.nw30 | with_reducible exact Bk.Blk.nw31 | with_reducible exact Bk.Blk.nw32 | with_reducible exact Bk.Blk.nw40 | with_reducible exact Bk.Blk.nw41 | with_reducible exact Bk.Blk.nw42 | with_reducible exact Bk.Blk.nw43))
  try (have hn := Bk.Blk.later (g := (w2).heap.size + 1) hb9 (by first | with_reducible exact Bk.Blk.nw10 | with_reducible exact Bk.Blk.nw20 | with_reducible exact Bk.Blk.nw21 | with_reducible exact Bk.Blk.nw30 | with_reducible exact Bk.Blk.nw31 | with_reducible exact Bk.Blk.nw32 | with_reducible exact Bk.Blk.nw40 | with_reducible exact Bk.Blk.nw41 | with_reducible exact Bk.Blk.nw42 | with_reducible exact Bk.Blk.nw43))
  try (have hn := Bk.Blk.later (g := (w2).heap.size + 2) hb9 (by first | with_reducible exact Bk.Blk.nw10 | with_reducible exact Bk.Blk.nw20 | with_reducible exact Bk.Blk.nw21 | with_reducible exact Bk.Blk.nw30 | with_reducible exact Bk.Blk.nw31 | with_reducible exact Bk.Blk.nw32 | with_reducible exact Bk.Blk.nw40 | with_reducible exact Bk.Blk.nw41 | with_reducible exact Bk.Blk.nw42 | with_reducible exact Bk.Blk.nw43))
  try (have hn := Bk.Blk.later (g := (w2).heap.size + 3) hb9 (by first | with_reducible exact Bk.Blk.nw10 | with_reducible exact Bk.Blk.nw20 | with_reducible exact Bk.Blk.nw21 | with_reducible exact Bk.Blk.nw30 | with_reducible exact Bk.Blk.nw31 | with_reducible exact Bk.Blk.nw32 | with_reducible exact Bk.Blk.nw40 | with_reducible exact Bk.Blk.nw41 | with_reducible exact Bk.Blk.nw42 | with_reducible exact Bk.Blk.nw43))
  clear hb9
  repeat (rename World.cell? w2 _ = _ => hq; clear hq)
  repeat (rename World.frozen? w2 _ = _ => hq; clear hq)
  repeat (rename Bk.Blk w9 _ _ _ => hq; (first | (have _k0 := (hq).c0; have _m0 := (hq).f0) | skip); (first | (have _k1 := (hq).c1; have _m1 := (hq).f1) | skip); (first | (have _k2 := (hq).c2; have _m2 := (hq).f2) | skip); (first | (have _k3 := (hq).c3; have _m3 := (hq).f3) | skip); have _z := (hq).lt; have hk := Bk.Kept.mk hq; clear hq)
  repeat (rename Bk.Kept (Bk.Blk w9 _ _ _) => hq; have hq' := hq.out; clear hq)
  go_wp2_with fail
  go_ret
  exact ⟨rfl, (by repeat (first | assumption | exact Below.refl _ _ | refine Below.setCell ?_ (by first | exact Nat.le_refl _ | (simp; done) | (simp; omega) | omega) _ | refine Below.alloc ?_ (by first | exact Nat.le_refl _ | (simp; done) | (simp; omega) | omega) _ | refine Below.drew ?_ | exact Nat.le_refl _))⟩
set_option maxRecDepth 100000 in
set_option maxHeartbeats 4000000 in
theorem least_z (hS : Stp w) (HL : Hid (∀ W : World, Stp W → Calls Tryd.prog 11 #[] W fun e w' => e = .returned (.bool true) ∧ Below W.heap.size W w')) {V : Int} (HP : Hid (∀ W : World, Stp W → Calls Tryd.prog 17 #[.int .i64 p, .int .i64 ppm, .int .i64 ev, .int .i64 m, .int .i64 cnt, .int .i64 bal] W fun e w' => e = .returned (.tuple #[.int .i64 0, .int .i64 0]) ∧ Below W.heap.size W w')) (HG : Hid (∀ W : World, Calls Tryd.prog 10 #[.int .i64 p, .int .i64 ppm, .int .i64 ev, .int .i64 m] W fun e w' => e = .returned (.bool true) ∧ W = w')) (H1 : Hid (∀ W : World, Stp W → Calls Tryd.prog 15 #[.int .i64 p, .int .i64 ppm, .int .i64 ev, .int .i64 m, .int .i64 cnt, .int .i64 (0)] W fun e w' => e = .returned (.tuple #[.int .i64 V, .int .i64 0]) ∧ Below W.heap.size W w')) (h1 : 1 ≤ cnt) (h2 : cnt ≤ 120) (h3 : 0 ≤ bal) (h4 : bal ≤ p) (hv : V ≤ bal) : Calls Tryd.prog 6 #[.agg #[.int .i64 p, .int .i64 ppm, .int .i64 ev, .int .i64 m], .int .i64 cnt, .int .i64 bal] w fun e w' => e = .returned (.bool true) ∧ Below w.heap.size w w' := by
  have b0 := Below.refl w.heap.size w
  go_enter Tryd.func6, Tryd.ntmps6
  go_wp2_with fail
  refine (HP.out _ (hS.of (by repeat (first | assumption | exact Below.refl _ _ | refine Below.setCell ?_ (by first | exact Nat.le_refl _ | (simp; done) | (simp; omega) | omega) _ | refine Below.alloc ?_ (by first | exact Nat.le_refl _ | (simp; done) | (simp; omega) | omega) _ | refine Below.drew ?_ | exact Nat.le_refl _)))).mono ?_
  rintro e w1 ⟨rfl, hb1⟩
  have b1 : Below w.heap.size w w1 := bl2 hb1 (by repeat (first | assumption | exact Below.refl _ _ | refine Below.setCell ?_ (by first | exact Nat.le_refl _ | (simp; done) | (simp; omega) | omega) _ | refine Below.alloc ?_ (by first | exact Nat.le_refl _ | (simp; done) | (simp; omega) | omega) _ | refine Below.drew ?_ | exact Nat.le_refl _))
  have z1 := b1.size
  repeat (rename Bk.Blk w _ _ _ => hq; (first | (have hq' := Bk.Blk.carry hq hb1 (by (repeat (first | with_reducible refine Bk.Blk.drew ?_ | with_reducible refine Bk.Blk.set_same ?_ | with_reducible refine Bk.Blk.set_ne ?_ (by omega) | with_reducible refine Bk.Blk.alloc ?_)); (with_reducible exact hq))) | (have hq' := Bk.Blk.later hb1 (Bk.Blk.set2 hq)) | skip); clear hq)
  try (have hn := Bk.Blk.later (g := (w).heap.size) hb1 (by first | with_reducible exact Bk.Blk.nw10 | with_reducible exact Bk.Blk.nw20 | with_reducible exact Bk.Blk.nw21 | with_reducible exact Bk.Blk.nw30 | with_reducible exact Bk.Blk.nw31 | with_reducible exact Bk.Blk.nw32 | with_reducible exact Bk.Blk.nw40 | with_reducible exact Bk.Blk.nw41 | with_reducible exact Bk.Blk.nw42 | with_reducible exact Bk.Blk.nw43))
  try (have hn := Bk.Blk.later (g := (w).heap.size + 1) hb1 (by first | with_reducible exact Bk.Blk.nw10 | with_reducible exact Bk.Blk.nw20 | with_reducible exact Bk.Blk.nw21 | with_reducible exact Bk.Blk.nw30 | with_reducible exact Bk.Blk.nw31 | with_reducible exact Bk.Blk.nw32 | with_reducible exact Bk.Blk.nw40 | with_reducible exact Bk.Blk.nw41 | with_reducible exact Bk.Blk.nw42 | with_reducible exact Bk.Blk.nw43))
  try (have hn := Bk.Blk.later (g := (w).heap.size + 2) hb1 (by first | with_reducible exact Bk.Blk.nw10 | with_reducible exact Bk.Blk.nw20 | with_reducible exact Bk.Blk.nw21 | with_reducible exact Bk.Blk.nw30 | with_reducible exact Bk.Blk.nw31 | with_reducible exact Bk.Blk.nw32 | with_reducible exact Bk.Blk.nw40 | with_reducible exact Bk.Blk.nw41 | with_reducible exact Bk.Blk.nw42 | with_reducible exact Bk.Blk.nw43))
  try (have hn := Bk.Blk.later (g := (w).heap.size + 3) hb1 (by first | with_reducible exact Bk.Blk.nw10 | with_reducible exact Bk.Blk.nw20 | with_reducible exact Bk.Blk.nw21 | with_reducible exact Bk.Blk.nw30 | with_reducible exact Bk.Blk.nw31 | with_reducible exact Bk.Blk.nw32 | with_reducible exact Bk.Blk.nw40 | with_reducible exact Bk.Blk.nw41 | with_reducible exact Bk.Blk.nw42 | with_reducible exact Bk.Blk.nw43))
  clear hb1
  repeat (rename World.cell? w _ = _ => hq; clear hq)
  repeat (rename World.frozen? w _ = _ => hq; clear hq)
  repeat (rename Bk.Blk w1 _ _ _ => hq; (first | (have _k0 := (hq).c0; have _m0 := (hq).f0) | skip); (first | (have _k1 := (hq).c1; have _m1 := (hq).f1) | skip); (first | (have _k2 := (hq).c2; have _m2 := (hq).f2) | skip); (first | (have _k3 := (hq).c3; have _m3 := (hq).f3) | skip); have _z := (hq).lt; have hk := Bk.Kept.mk hq; clear hq)
  repeat (rename Bk.Kept (Bk.Blk w1 _ _ _) => hq; have hq' := hq.out; clear hq)
  go_wp2_with fail
  refine (HG.out _).mono ?_
  rintro e w' ⟨rfl, rfl⟩
  go_wp2_with fail
  refine (H1.out _ (hS.of (by repeat (first | assumption | exact Below.refl _ _ | refine Below.setCell ?_ (by first | exact Nat.le_refl _ | (simp; done) | (simp; omega) | omega) _ | refine Below.alloc ?_ (by first | exact Nat.le_refl _ | (simp; done) | (simp; omega) | omega) _ | refine Below.drew ?_ | exact Nat.le_refl _)))).mono ?_
  rintro e w2 ⟨rfl, hb2⟩
  have b2 : Below w.heap.size w w2 := bl2 hb2 (by repeat (first | assumption | exact Below.refl _ _ | refine Below.setCell ?_ (by first | exact Nat.le_refl _ | (simp; done) | (simp; omega) | omega) _ | refine Below.alloc ?_ (by first | exact Nat.le_refl _ | (simp; done) | (simp; omega) | omega) _ | refine Below.drew ?_ | exact Nat.le_refl _))
  have z2 := b2.size
  repeat (rename Bk.Blk w1 _ _ _ => hq; (first | (have hq' := Bk.Blk.carry hq hb2 (by (repeat (first | with_reducible refine Bk.Blk.drew ?_ | with_reducible refine Bk.Blk.set_same ?_ | with_reducible refine Bk.Blk.set_ne ?_ (by omega) | with_reducible refine Bk.Blk.alloc ?_)); (with_reducible exact hq))) | (have hq' := Bk.Blk.later hb2 (Bk.Blk.set2 hq)) | skip); clear hq)
  try (have hn := Bk.Blk.later (g := (w1).heap.size) hb2 (by first | with_reducible exact Bk.Blk.nw10 | with_reducible exact Bk.Blk.nw20 | with_reducible exact Bk.Blk.nw21 | with_reducible exact Bk.Blk.nw30 | with_reducible exact Bk.Blk.nw31 | with_reducible exact Bk.Blk.nw32 | with_reducible exact Bk.Blk.nw40 | with_reducible exact Bk.Blk.nw41 | with_reducible exact Bk.Blk.nw42 | with_reducible exact Bk.Blk.nw43))
  try (have hn := Bk.Blk.later (g := (w1).heap.size + 1) hb2 (by first | with_reducible exact Bk.Blk.nw10 | with_reducible exact Bk.Blk.nw20 | with_reducible exact Bk.Blk.nw21 | with_reducible exact Bk.Blk.nw30 | with_reducible exact Bk.Blk.nw31 | with_reducible exact Bk.Blk.nw32 | with_reducible exact Bk.Blk.nw40 | with_reducible exact Bk.Blk.nw41 | with_reducible exact Bk.Blk.nw42 | with_reducible exact Bk.Blk.nw43))
  try (have hn := Bk.Blk.later (g := (w1).heap.size + 2) hb2 (by first | with_reducible exact Bk.Blk.nw10 | with_reducible exact Bk.Blk.nw20 | with_reducible exact Bk.Blk.nw21 | with_reducible exact Bk.Blk.nw30 | with_reducible exact Bk.Blk.nw31 | with_reducible exact Bk.Blk.nw32 | with_reducible exact Bk.Blk.nw40 | with_reducible exact Bk.Blk.nw41 | with_reducible exact Bk.Blk.nw42 | with_reducible exact Bk.Blk.nw43))
  try (have hn := Bk.Blk.later (g := (w1).heap.size + 3) hb2 (by first | with_reducible exact Bk.Blk.nw10 | with_reducible exact Bk.Blk.nw20 | with_reducible exact Bk.Blk.nw21 | with_reducible exact Bk.Blk.nw30 | with_reducible exact Bk.Blk.nw31 | with_reducible exact Bk.Blk.nw32 | with_reducible exact Bk.Blk.nw40 | with_reducible exact Bk.Blk.nw41 | with_reducible exact Bk.Blk.nw42 | with_reducible exact Bk.Blk.nw43))
  clear hb2
  repeat (rename World.cell? w1 _ = _ => hq; clear hq)
  repeat (rename World.frozen? w1 _ = _ => hq; clear hq)
  repeat (rename Bk.Blk w2 _ _ _ => hq; (first | (have _k0 := (hq).c0; have _m0 := (hq).f0) | skip); (first | (have _k1 := (hq).c1; have _m1 := (hq).f1) | skip); (first | (have _k2 := (hq).c2; have _m2 := (hq).f2) | skip); (first | (have _k3 := (hq).c3; have _m3 := (hq).f3) | skip); have _z := (hq).lt; have hk := Bk.Kept.mk hq; clear hq)
  repeat (rename Bk.Kept (Bk.Blk w2 _ _ _) => hq; have hq' := hq.out; clear hq)
  go_wp2_with fail
  refine (HL.out _ (hS.of (by repeat (first | assumption | exact Below.refl _ _ | refine Below.setCell ?_ (by first | exact Nat.le_refl _ | (simp; done) | (simp; omega) | omega) _ | refine Below.alloc ?_ (by first | exact Nat.le_refl _ | (simp; done) | (simp; omega) | omega) _ | refine Below.drew ?_ | exact Nat.le_refl _)))).mono ?_
  rintro e w9 ⟨rfl, hb9⟩
  have b9 : Below w.heap.size w w9 := bl2 hb9 (by repeat (first | assumption | exact Below.refl _ _ | refine Below.setCell ?_ (by first | exact Nat.le_refl _ | (simp; done) | (simp; omega) | omega) _ | refine Below.alloc ?_ (by first | exact Nat.le_refl _ | (simp; done) | (simp; omega) | omega) _ | refine Below.drew ?_ | exact Nat.le_refl _))
  have z9 := b9.size
  repeat (rename Bk.Blk w2 _ _ _ => hq; (first | (have hq' := Bk.Blk.carry hq hb9 (by (repeat (first | with_reducible refine Bk.Blk.drew ?_ | with_reducible refine Bk.Blk.set_same ?_ | with_reducible refine Bk.Blk.set_ne ?_ (by omega) | with_reducible refine Bk.Blk.alloc ?_)); (with_reducible exact hq))) | (have hq' := Bk.Blk.later hb9 (Bk.Blk.set2 hq)) | skip); clear hq)
  try (have hn := Bk.Blk.later (g := (w2).heap.size) hb9 (by first | with_reducible exact Bk.Blk.nw10 | with_reducible exact Bk.Blk.nw20 | with_reducible exact Bk.Blk.nw21 | with_reducible exact Bk.Blk.nw30 | with_reducible exact Bk.Blk.nw31 | with_reducible exact Bk.Blk.nw32 | with_reducible exact Bk.Blk.nw40 | with_reducible exact Bk.Blk.nw41 | with_reducible exact Bk.Blk.nw42 | with_reducible exact Bk.Blk.nw43))
  try (have hn := Bk.Blk.later (g := (w2).heap.size + 1) hb9 (by first | with_reducible exact Bk.Blk.nw10 | with_reducible exact Bk.Blk.nw20 | with_reducible exact Bk.Blk.nw21 | with_reducible exact Bk.Blk.nw30 | with_reducible exact Bk.Blk.nw31 | with_reducible exact Bk.Blk.nw32 | with_reducible exact Bk.Blk.nw40 | with_reducible exact Bk.Blk.nw41 | with_reducible exact Bk.Blk.nw42 | with_reducible exact Bk.Blk.nw43))
  try (have hn := Bk.Blk.later (g := (w2).heap.size + 2) hb9 (by first | with_reducible exact Bk.Blk.nw10 | with_reducible exact Bk.Blk.nw20 | with_reducible exact Bk.Blk.nw21 | with_reducible exact Bk.Blk.nw30 | with_reducible exact Bk.Blk.nw31 | with_reducible exact Bk.Blk.nw32 | with_reducible exact Bk.Blk.nw40 | with_reducible exact Bk.Blk.nw41 | with_reducible exact Bk.Blk.nw42 | with_reducible exact Bk.Blk.nw43))
  try (have hn := Bk.Blk.later (g := (w2).heap.size + 3) hb9 (by first | with_reducible exact Bk.Blk.nw10 | with_reducible exact Bk.Blk.nw20 | with_reducible exact Bk.Blk.nw21 | with_reducible exact Bk.Blk.nw30 | with_reducible exact Bk.Blk.nw31 | with_reducible exact Bk.Blk.nw32 | with_reducible exact Bk.Blk.nw40 | with_reducible exact Bk.Blk.nw41 | with_reducible exact Bk.Blk.nw42 | with_reducible exact Bk.Blk.nw43))
  clear hb9
  repeat (rename World.cell? w2 _ = _ => hq; clear hq)
  repeat (rename World.frozen? w2 _ = _ => hq; clear hq)
  repeat (rename Bk.Blk w9 _ _ _ => hq; (first | (have _k0 := (hq).c0; have _m0 := (hq).f0) | skip); (first | (have _k1 := (hq).c1; have _m1 := (hq).f1) | skip); (first | (have _k2 := (hq).c2; have _m2 := (hq).f2) | skip); (first | (have _k3 := (hq).c3; have _m3 := (hq).f3) | skip); have _z := (hq).lt; have hk := Bk.Kept.mk hq; clear hq)
  repeat (rename Bk.Kept (Bk.Blk w9 _ _ _) => hq; have hq' := hq.out; clear hq)
  go_wp2_with fail
  go_ret
  exact ⟨rfl, (by repeat (first | assumption | exact Below.refl _ _ | refine Below.setCell ?_ (by first | exact Nat.le_refl _ | (simp; done) | (simp; omega) | omega) _ | refine Below.alloc ?_ (by first | exact Nat.le_refl _ | (simp; done) | (simp; omega) | omega) _ | refine Below.drew ?_ | exact Nat.le_refl _))⟩
set_option maxRecDepth 100000 in
set_option maxHeartbeats 4000000 in
theorem least_x6 (hS : Stp w) (HL : Hid (∀ W : World, Stp W → Calls Tryd.prog 11 #[] W fun e w' => e = .returned (.bool true) ∧ Below W.heap.size W w')) {x V V2 : Int} (x0 : 0 < x) (x1 : x ≤ 1000000000000) (hx : (x == 0) = false) (HP : Hid (∀ W : World, Stp W → Calls Tryd.prog 17 #[.int .i64 p, .int .i64 ppm, .int .i64 ev, .int .i64 m, .int .i64 cnt, .int .i64 bal] W fun e w' => e = .returned (.tuple #[.int .i64 x, .int .i64 0]) ∧ Below W.heap.size W w')) (HG : Hid (∀ W : World, Calls Tryd.prog 10 #[.int .i64 p, .int .i64 ppm, .int .i64 ev, .int .i64 m] W fun e w' => e = .returned (.bool true) ∧ W = w')) (H1 : Hid (∀ W : World, Stp W → Calls Tryd.prog 15 #[.int .i64 p, .int .i64 ppm, .int .i64 ev, .int .i64 m, .int .i64 cnt, .int .i64 (x)] W fun e w' => e = .returned (.tuple #[.int .i64 V, .int .i64 0]) ∧ Below W.heap.size W w')) (H2 : Hid (∀ W : World, Stp W → Calls Tryd.prog 15 #[.int .i64 p, .int .i64 ppm, .int .i64 ev, .int .i64 m, .int .i64 cnt, .int .i64 (x - 1)] W fun e w' => e = .returned (.tuple #[.int .i64 V2, .int .i64 6]) ∧ Below W.heap.size W w')) (h1 : 1 ≤ cnt) (h2 : cnt ≤ 120) (h3 : 0 ≤ bal) (h4 : bal ≤ p) (hv : V ≤ bal) : Calls Tryd.prog 6 #[.agg #[.int .i64 p, .int .i64 ppm, .int .i64 ev, .int .i64 m], .int .i64 cnt, .int .i64 bal] w fun e w' => e = .returned (.bool true) ∧ Below w.heap.size w w' := by
  have b0 := Below.refl w.heap.size w
  go_enter Tryd.func6, Tryd.ntmps6
  go_wp2_with fail
  refine (HP.out _ (hS.of (by repeat (first | assumption | exact Below.refl _ _ | refine Below.setCell ?_ (by first | exact Nat.le_refl _ | (simp; done) | (simp; omega) | omega) _ | refine Below.alloc ?_ (by first | exact Nat.le_refl _ | (simp; done) | (simp; omega) | omega) _ | refine Below.drew ?_ | exact Nat.le_refl _)))).mono ?_
  rintro e w1 ⟨rfl, hb1⟩
  have b1 : Below w.heap.size w w1 := bl2 hb1 (by repeat (first | assumption | exact Below.refl _ _ | refine Below.setCell ?_ (by first | exact Nat.le_refl _ | (simp; done) | (simp; omega) | omega) _ | refine Below.alloc ?_ (by first | exact Nat.le_refl _ | (simp; done) | (simp; omega) | omega) _ | refine Below.drew ?_ | exact Nat.le_refl _))
  have z1 := b1.size
  repeat (rename Bk.Blk w _ _ _ => hq; (first | (have hq' := Bk.Blk.carry hq hb1 (by (repeat (first | with_reducible refine Bk.Blk.drew ?_ | with_reducible refine Bk.Blk.set_same ?_ | with_reducible refine Bk.Blk.set_ne ?_ (by omega) | with_reducible refine Bk.Blk.alloc ?_)); (with_reducible exact hq))) | (have hq' := Bk.Blk.later hb1 (Bk.Blk.set2 hq)) | skip); clear hq)
  try (have hn := Bk.Blk.later (g := (w).heap.size) hb1 (by first | with_reducible exact Bk.Blk.nw10 | with_reducible exact Bk.Blk.nw20 | with_reducible exact Bk.Blk.nw21 | with_reducible exact Bk.Blk.nw30 | with_reducible exact Bk.Blk.nw31 | with_reducible exact Bk.Blk.nw32 | with_reducible exact Bk.Blk.nw40 | with_reducible exact Bk.Blk.nw41 | with_reducible exact Bk.Blk.nw42 | with_reducible exact Bk.Blk.nw43))
  try (have hn := Bk.Blk.later (g := (w).heap.size + 1) hb1 (by first | with_reducible exact Bk.Blk.nw10 | with_reducible exact Bk.Blk.nw20 | with_reducible exact Bk.Blk.nw21 | with_reducible exact Bk.Blk.nw30 | with_reducible exact Bk.Blk.nw31 | with_reducible exact Bk.Blk.nw32 | with_reducible exact Bk.Blk.nw40 | with_reducible exact Bk.Blk.nw41 | with_reducible exact Bk.Blk.nw42 | with_reducible exact Bk.Blk.nw43))
  try (have hn := Bk.Blk.later (g := (w).heap.size + 2) hb1 (by first | with_reducible exact Bk.Blk.nw10 | with_reducible exact Bk.Blk.nw20 | with_reducible exact Bk.Blk.nw21 | with_reducible exact Bk.Blk.nw30 | with_reducible exact Bk.Blk.nw31 | with_reducible exact Bk.Blk.nw32 | with_reducible exact Bk.Blk.nw40 | with_reducible exact Bk.Blk.nw41 | with_reducible exact Bk.Blk.nw42 | with_reducible exact Bk.Blk.nw43))
  try (have hn := Bk.Blk.later (g := (w).heap.size + 3) hb1 (by first | with_reducible exact Bk.Blk.nw10 | with_reducible exact Bk.Blk.nw20 | with_reducible exact Bk.Blk.nw21 | with_reducible exact Bk.Blk.nw30 | with_reducible exact Bk.Blk.nw31 | with_reducible exact Bk.Blk.nw32 | with_reducible exact Bk.Blk.nw40 | with_reducible exact Bk.Blk.nw41 | with_reducible exact Bk.Blk.nw42 | with_reducible exact Bk.Blk.nw43))
  clear hb1
  repeat (rename World.cell? w _ = _ => hq; clear hq)
  repeat (rename World.frozen? w _ = _ => hq; clear hq)
  repeat (rename Bk.Blk w1 _ _ _ => hq; (first | (have _k0 := (hq).c0; have _m0 := (hq).f0) | skip); (first | (have _k1 := (hq).c1; have _m1 := (hq).f1) | skip); (first | (have _k2 := (hq).c2; have _m2 := (hq).f2) | skip); (first | (have _k3 := (hq).c3; have _m3 := (hq).f3) | skip); have _z := (hq).lt; have hk := Bk.Kept.mk hq; clear hq)
  repeat (rename Bk.Kept (Bk.Blk w1 _ _ _) => hq; have hq' := hq.out; clear hq)
  go_wp2_with fail
  refine (HG.out _).mono ?_
  rintro e w' ⟨rfl, rfl⟩
  go_wp2_with fail
  refine (H1.out _ (hS.of (by repeat (first | assumption | exact Below.refl _ _ | refine Below.setCell ?_ (by first | exact Nat.le_refl _ | (simp; done) | (simp; omega) | omega) _ | refine Below.alloc ?_ (by first | exact Nat.le_refl _ | (simp; done) | (simp; omega) | omega) _ | refine Below.drew ?_ | exact Nat.le_refl _)))).mono ?_
  rintro e w2 ⟨rfl, hb2⟩
  have b2 : Below w.heap.size w w2 := bl2 hb2 (by repeat (first | assumption | exact Below.refl _ _ | refine Below.setCell ?_ (by first | exact Nat.le_refl _ | (simp; done) | (simp; omega) | omega) _ | refine Below.alloc ?_ (by first | exact Nat.le_refl _ | (simp; done) | (simp; omega) | omega) _ | refine Below.drew ?_ | exact Nat.le_refl _))
  have z2 := b2.size
  repeat (rename Bk.Blk w1 _ _ _ => hq; (first | (have hq' := Bk.Blk.carry hq hb2 (by (repeat (first | with_reducible refine Bk.Blk.drew ?_ | with_reducible refine Bk.Blk.set_same ?_ | with_reducible refine Bk.Blk.set_ne ?_ (by omega) | with_reducible refine Bk.Blk.alloc ?_)); (with_reducible exact hq))) | (have hq' := Bk.Blk.later hb2 (Bk.Blk.set2 hq)) | skip); clear hq)
  try (have hn := Bk.Blk.later (g := (w1).heap.size) hb2 (by first | with_reducible exact Bk.Blk.nw10 | with_reducible exact Bk.Blk.nw20 | with_reducible exact Bk.Blk.nw21 | with_reducible exact Bk.Blk.nw30 | with_reducible exact Bk.Blk.nw31 | with_reducible exact Bk.Blk.nw32 | with_reducible exact Bk.Blk.nw40 | with_reducible exact Bk.Blk.nw41 | with_reducible exact Bk.Blk.nw42 | with_reducible exact Bk.Blk.nw43))
  try (have hn := Bk.Blk.later (g := (w1).heap.size + 1) hb2 (by first | with_reducible exact Bk.Blk.nw10 | with_reducible exact Bk.Blk.nw20 | with_reducible exact Bk.Blk.nw21 | with_reducible exact Bk.Blk.nw30 | with_reducible exact Bk.Blk.nw31 | with_reducible exact Bk.Blk.nw32 | with_reducible exact Bk.Blk.nw40 | with_reducible exact Bk.Blk.nw41 | with_reducible exact Bk.Blk.nw42 | with_reducible exact Bk.Blk.nw43))
  try (have hn := Bk.Blk.later (g := (w1).heap.size + 2) hb2 (by first | with_reducible exact Bk.Blk.nw10 | with_reducible exact Bk.Blk.nw20 | with_reducible exact Bk.Blk.nw21 | with_reducible exact Bk.Blk.nw30 | with_reducible exact Bk.Blk.nw31 | with_reducible exact Bk.Blk.nw32 | with_reducible exact Bk.Blk.nw40 | with_reducible exact Bk.Blk.nw41 | with_reducible exact Bk.Blk.nw42 | with_reducible exact Bk.Blk.nw43))
  try (have hn := Bk.Blk.later (g := (w1).heap.size + 3) hb2 (by first | with_reducible exact Bk.Blk.nw10 | with_reducible exact Bk.Blk.nw20 | with_reducible exact Bk.Blk.nw21 | with_reducible exact Bk.Blk.nw30 | with_reducible exact Bk.Blk.nw31 | with_reducible exact Bk.Blk.nw32 | with_reducible exact Bk.Blk.nw40 | with_reducible exact Bk.Blk.nw41 | with_reducible exact Bk.Blk.nw42 | with_reducible exact Bk.Blk.nw43))
  clear hb2
  repeat (rename World.cell? w1 _ = _ => hq; clear hq)
  repeat (rename World.frozen? w1 _ = _ => hq; clear hq)
  repeat (rename Bk.Blk w2 _ _ _ => hq; (first | (have _k0 := (hq).c0; have _m0 := (hq).f0) | skip); (first | (have _k1 := (hq).c1; have _m1 := (hq).f1) | skip); (first | (have _k2 := (hq).c2; have _m2 := (hq).f2) | skip); (first | (have _k3 := (hq).c3; have _m3 := (hq).f3) | skip); have _z := (hq).lt; have hk := Bk.Kept.mk hq; clear hq)
  repeat (rename Bk.Kept (Bk.Blk w2 _ _ _) => hq; have hq' := hq.out; clear hq)
  go_wp2_with fail
  refine (H2.out _ (hS.of (by repeat (first | assumption | exact Below.refl _ _ | refine Below.setCell ?_ (by first | exact Nat.le_refl _ | (simp; done) | (simp; omega) | omega) _ | refine Below.alloc ?_ (by first | exact Nat.le_refl _ | (simp; done) | (simp; omega) | omega) _ | refine Below.drew ?_ | exact Nat.le_refl _)))).mono ?_
  rintro e w3 ⟨rfl, hb3⟩
  have b3 : Below w.heap.size w w3 := bl2 hb3 (by repeat (first | assumption | exact Below.refl _ _ | refine Below.setCell ?_ (by first | exact Nat.le_refl _ | (simp; done) | (simp; omega) | omega) _ | refine Below.alloc ?_ (by first | exact Nat.le_refl _ | (simp; done) | (simp; omega) | omega) _ | refine Below.drew ?_ | exact Nat.le_refl _))
  have z3 := b3.size
  repeat (rename Bk.Blk w2 _ _ _ => hq; (first | (have hq' := Bk.Blk.carry hq hb3 (by (repeat (first | with_reducible refine Bk.Blk.drew ?_ | with_reducible refine Bk.Blk.set_same ?_ | with_reducible refine Bk.Blk.set_ne ?_ (by omega) | with_reducible refine Bk.Blk.alloc ?_)); (with_reducible exact hq))) | (have hq' := Bk.Blk.later hb3 (Bk.Blk.set2 hq)) | skip); clear hq)
  try (have hn := Bk.Blk.later (g := (w2).heap.size) hb3 (by first | with_reducible exact Bk.Blk.nw10 | with_reducible exact Bk.Blk.nw20 | with_reducible exact Bk.Blk.nw21 | with_reducible exact Bk.Blk.nw30 | with_reducible exact Bk.Blk.nw31 | with_reducible exact Bk.Blk.nw32 | with_reducible exact Bk.Blk.nw40 | with_reducible exact Bk.Blk.nw41 | with_reducible exact Bk.Blk.nw42 | with_reducible exact Bk.Blk.nw43))
  try (have hn := Bk.Blk.later (g := (w2).heap.size + 1) hb3 (by first | with_reducible exact Bk.Blk.nw10 | with_reducible exact Bk.Blk.nw20 | with_reducible exact Bk.Blk.nw21 | with_reducible exact Bk.Blk.nw30 | with_reducible exact Bk.Blk.nw31 | with_reducible exact Bk.Blk.nw32 | with_reducible exact Bk.Blk.nw40 | with_reducible exact Bk.Blk.nw41 | with_reducible exact Bk.Blk.nw42 | with_reducible exact Bk.Blk.nw43))
  try (have hn := Bk.Blk.later (g := (w2).heap.size + 2) hb3 (by first | with_reducible exact Bk.Blk.nw10 | with_reducible exact Bk.Blk.nw20 | with_reducible exact Bk.Blk.nw21 | with_reducible exact Bk.Blk.nw30 | with_reducible exact Bk.Blk.nw31 | with_reducible exact Bk.Blk.nw32 | with_reducible exact Bk.Blk.nw40 | with_reducible exact Bk.Blk.nw41 | with_reducible exact Bk.Blk.nw42 | with_reducible exact Bk.Blk.nw43))
  try (have hn := Bk.Blk.later (g := (w2).heap.size + 3) hb3 (by first | with_reducible exact Bk.Blk.nw10 | with_reducible exact Bk.Blk.nw20 | with_reducible exact Bk.Blk.nw21 | with_reducible exact Bk.Blk.nw30 | with_reducible exact Bk.Blk.nw31 | with_reducible exact Bk.Blk.nw32 | with_reducible exact Bk.Blk.nw40 | with_reducible exact Bk.Blk.nw41 | with_reducible exact Bk.Blk.nw42 | with_reducible exact Bk.Blk.nw43))
  clear hb3
  repeat (rename World.cell? w2 _ = _ => hq; clear hq)
  repeat (rename World.frozen? w2 _ = _ => hq; clear hq)
  repeat (rename Bk.Blk w3 _ _ _ => hq; (first | (have _k0 := (hq).c0; have _m0 := (hq).f0) | skip); (first | (have _k1 := (hq).c1; have _m1 := (hq).f1) | skip); (first | (have _k2 := (hq).c2; have _m2 := (hq).f2) | skip); (first | (have _k3 := (hq).c3; have _m3 := (hq).f3) | skip); have _z := (hq).lt; have hk := Bk.Kept.mk hq; clear hq)
  repeat (rename Bk.Kept (Bk.Blk w3 _ _ _) => hq; have hq' := hq.out; clear hq)
  go_wp2_with fail
  refine (HL.out _ (hS.of (by repeat (first | assumption | exact Below.refl _ _ | refine Below.setCell ?_ (by first | exact Nat.le_refl _ | (simp; done) | (simp; omega) | omega) _ | refine Below.alloc ?_ (by first | exact Nat.le_refl _ | (simp; done) | (simp; omega) | omega) _ | refine Below.drew ?_ | exact Nat.le_refl _)))).mono ?_
  rintro e w9 ⟨rfl, hb9⟩
  have b9 : Below w.heap.size w w9 := bl2 hb9 (by repeat (first | assumption | exact Below.refl _ _ | refine Below.setCell ?_ (by first | exact Nat.le_refl _ | (simp; done) | (simp; omega) | omega) _ | refine Below.alloc ?_ (by first | exact Nat.le_refl _ | (simp; done) | (simp; omega) | omega) _ | refine Below.drew ?_ | exact Nat.le_refl _))
  have z9 := b9.size
  repeat (rename Bk.Blk w3 _ _ _ => hq; (first | (have hq' := Bk.Blk.carry hq hb9 (by (repeat (first | with_reducible refine Bk.Blk.drew ?_ | with_reducible refine Bk.Blk.set_same ?_ | with_reducible refine Bk.Blk.set_ne ?_ (by omega) | with_reducible refine Bk.Blk.alloc ?_)); (with_reducible exact hq))) | (have hq' := Bk.Blk.later hb9 (Bk.Blk.set2 hq)) | skip); clear hq)
  try (have hn := Bk.Blk.later (g := (w3).heap.size) hb9 (by first | with_reducible exact Bk.Blk.nw10 | with_reducible exact Bk.Blk.nw20 | with_reducible exact Bk.Blk.nw21 | with_reducible exact Bk.Blk.nw30 | with_reducible exact Bk.Blk.nw31 | with_reducible exact Bk.Blk.nw32 | with_reducible exact Bk.Blk.nw40 | with_reducible exact Bk.Blk.nw41 | with_reducible exact Bk.Blk.nw42 | with_reducible exact Bk.Blk.nw43))
  try (have hn := Bk.Blk.later (g := (w3).heap.size + 1) hb9 (by first | with_reducible exact Bk.Blk.nw10 | with_reducible exact Bk.Blk.nw20 | with_reducible exact Bk.Blk.nw21 | with_reducible exact Bk.Blk.nw30 | with_reducible exact Bk.Blk.nw31 | with_reducible exact Bk.Blk.nw32 | with_reducible exact Bk.Blk.nw40 | with_reducible exact Bk.Blk.nw41 | with_reducible exact Bk.Blk.nw42 | with_reducible exact Bk.Blk.nw43))
  try (have hn := Bk.Blk.later (g := (w3).heap.size + 2) hb9 (by first | with_reducible exact Bk.Blk.nw10 | with_reducible exact Bk.Blk.nw20 | with_reducible exact Bk.Blk.nw21 | with_reducible exact Bk.Blk.nw30 | with_reducible exact Bk.Blk.nw31 | with_reducible exact Bk.Blk.nw32 | with_reducible exact Bk.Blk.nw40 | with_reducible exact Bk.Blk.nw41 | with_reducible exact Bk.Blk.nw42 | with_reducible exact Bk.Blk.nw43))
  try (have hn := Bk.Blk.later (g := (w3).heap.size + 3) hb9 (by first | with_reducible exact Bk.Blk.nw10 | with_reducible exact Bk.Blk.nw20 | with_reducible exact Bk.Blk.nw21 | with_reducible exact Bk.Blk.nw30 | with_reducible exact Bk.Blk.nw31 | with_reducible exact Bk.Blk.nw32 | with_reducible exact Bk.Blk.nw40 | with_reducible exact Bk.Blk.nw41 | with_reducible exact Bk.Blk.nw42 | with_reducible exact Bk.Blk.nw43))
  clear hb9
  repeat (rename World.cell? w3 _ = _ => hq; clear hq)
  repeat (rename World.frozen? w3 _ = _ => hq; clear hq)
  repeat (rename Bk.Blk w9 _ _ _ => hq; (first | (have _k0 := (hq).c0; have _m0 := (hq).f0) | skip); (first | (have _k1 := (hq).c1; have _m1 := (hq).f1) | skip); (first | (have _k2 := (hq).c2; have _m2 := (hq).f2) | skip); (first | (have _k3 := (hq).c3; have _m3 := (hq).f3) | skip); have _z := (hq).lt; have hk := Bk.Kept.mk hq; clear hq)
  repeat (rename Bk.Kept (Bk.Blk w9 _ _ _) => hq; have hq' := hq.out; clear hq)
  go_wp2_with fail
  go_ret
  exact ⟨rfl, (by repeat (first | assumption | exact Below.refl _ _ | refine Below.setCell ?_ (by first | exact Nat.le_refl _ | (simp; done) | (simp; omega) | omega) _ | refine Below.alloc ?_ (by first | exact Nat.le_refl _ | (simp; done) | (simp; omega) | omega) _ | refine Below.drew ?_ | exact Nat.le_refl _))⟩
set_option maxRecDepth 100000 in
set_option maxHeartbeats 4000000 in
theorem least_x0 (hS : Stp w) (HL : Hid (∀ W : World, Stp W → Calls Tryd.prog 11 #[] W fun e w' => e = .returned (.bool true) ∧ Below W.heap.size W w')) {x V V2 : Int} (x0 : 0 < x) (x1 : x ≤ 1000000000000) (hx : (x == 0) = false) (HP : Hid (∀ W : World, Stp W → Calls Tryd.prog 17 #[.int .i64 p, .int .i64 ppm, .int .i64 ev, .int .i64 m, .int .i64 cnt, .int .i64 bal] W fun e w' => e = .returned (.tuple #[.int .i64 x, .int .i64 0]) ∧ Below W.heap.size W w')) (HG : Hid (∀ W : World, Calls Tryd.prog 10 #[.int .i64 p, .int .i64 ppm, .int .i64 ev, .int .i64 m] W fun e w' => e = .returned (.bool true) ∧ W = w')) (H1 : Hid (∀ W : World, Stp W → Calls Tryd.prog 15 #[.int .i64 p, .int .i64 ppm, .int .i64 ev, .int .i64 m, .int .i64 cnt, .int .i64 (x)] W fun e w' => e = .returned (.tuple #[.int .i64 V, .int .i64 0]) ∧ Below W.heap.size W w')) (H2 : Hid (∀ W : World, Stp W → Calls Tryd.prog 15 #[.int .i64 p, .int .i64 ppm, .int .i64 ev, .int .i64 m, .int .i64 cnt, .int .i64 (x - 1)] W fun e w' => e = .returned (.tuple #[.int .i64 V2, .int .i64 0]) ∧ Below W.heap.size W w')) (h1 : 1 ≤ cnt) (h2 : cnt ≤ 120) (h3 : 0 ≤ bal) (h4 : bal ≤ p) (hv : V ≤ bal) (hv2 : bal < V2) : Calls Tryd.prog 6 #[.agg #[.int .i64 p, .int .i64 ppm, .int .i64 ev, .int .i64 m], .int .i64 cnt, .int .i64 bal] w fun e w' => e = .returned (.bool true) ∧ Below w.heap.size w w' := by
  have b0 := Below.refl w.heap.size w
  go_enter Tryd.func6, Tryd.ntmps6
  go_wp2_with fail
  refine (HP.out _ (hS.of (by repeat (first | assumption | exact Below.refl _ _ | refine Below.setCell ?_ (by first | exact Nat.le_refl _ | (simp; done) | (simp; omega) | omega) _ | refine Below.alloc ?_ (by first | exact Nat.le_refl _ | (simp; done) | (simp; omega) | omega) _ | refine Below.drew ?_ | exact Nat.le_refl _)))).mono ?_
  rintro e w1 ⟨rfl, hb1⟩
  have b1 : Below w.heap.size w w1 := bl2 hb1 (by repeat (first | assumption | exact Below.refl _ _ | refine Below.setCell ?_ (by first | exact Nat.le_refl _ | (simp; done) | (simp; omega) | omega) _ | refine Below.alloc ?_ (by first | exact Nat.le_refl _ | (simp; done) | (simp; omega) | omega) _ | refine Below.drew ?_ | exact Nat.le_refl _))
  have z1 := b1.size
  repeat (rename Bk.Blk w _ _ _ => hq; (first | (have hq' := Bk.Blk.carry hq hb1 (by (repeat (first | with_reducible refine Bk.Blk.drew ?_ | with_reducible refine Bk.Blk.set_same ?_ | with_reducible refine Bk.Blk.set_ne ?_ (by omega) | with_reducible refine Bk.Blk.alloc ?_)); (with_reducible exact hq))) | (have hq' := Bk.Blk.later hb1 (Bk.Blk.set2 hq)) | skip); clear hq)
  try (have hn := Bk.Blk.later (g := (w).heap.size) hb1 (by first | with_reducible exact Bk.Blk.nw10 | with_reducible exact Bk.Blk.nw20 | with_reducible exact Bk.Blk.nw21 | with_reducible exact Bk.Blk.nw30 | with_reducible exact Bk.Blk.nw31 | with_reducible exact Bk.Blk.nw32 | with_reducible exact Bk.Blk.nw40 | with_reducible exact Bk.Blk.nw41 | with_reducible exact Bk.Blk.nw42 | with_reducible exact Bk.Blk.nw43))
  try (have hn := Bk.Blk.later (g := (w).heap.size + 1) hb1 (by first | with_reducible exact Bk.Blk.nw10 | with_reducible exact Bk.Blk.nw20 | with_reducible exact Bk.Blk.nw21 | with_reducible exact Bk.Blk.nw30 | with_reducible exact Bk.Blk.nw31 | with_reducible exact Bk.Blk.nw32 | with_reducible exact Bk.Blk.nw40 | with_reducible exact Bk.Blk.nw41 | with_reducible exact Bk.Blk.nw42 | with_reducible exact Bk.Blk.nw43))
  try (have hn := Bk.Blk.later (g := (w).heap.size + 2) hb1 (by first | with_reducible exact Bk.Blk.nw10 | with_reducible exact Bk.Blk.nw20 | with_reducible exact Bk.Blk.nw21 | with_reducible exact Bk.Blk.nw30 | with_reducible exact Bk.Blk.nw31 | with_reducible exact Bk.Blk.nw32 | with_reducible exact Bk.Blk.nw40 | with_reducible exact Bk.Blk.nw41 | with_reducible exact Bk.Blk.nw42 | with_reducible exact Bk.Blk.nw43))
  try (have hn := Bk.Blk.later (g := (w).heap.size + 3) hb1 (by first | with_reducible exact Bk.Blk.nw10 | with_reducible exact Bk.Blk.nw20 | with_reducible exact Bk.Blk.nw21 | with_reducible exact Bk.Blk.nw30 | with_reducible exact Bk.Blk.nw31 | with_reducible exact Bk.Blk.nw32 | with_reducible exact Bk.Blk.nw40 | with_reducible exact Bk.Blk.nw41 | with_reducible exact Bk.Blk.nw42 | with_reducible exact Bk.Blk.nw43))
  clear hb1
  repeat (rename World.cell? w _ = _ => hq; clear hq)
  repeat (rename World.frozen? w _ = _ => hq; clear hq)
  repeat (rename Bk.Blk w1 _ _ _ => hq; (first | (have _k0 := (hq).c0; have _m0 := (hq).f0) | skip); (first | (have _k1 := (hq).c1; have _m1 := (hq).f1) | skip); (first | (have _k2 := (hq).c2; have _m2 := (hq).f2) | skip); (first | (have _k3 := (hq).c3; have _m3 := (hq).f3) | skip); have _z := (hq).lt; have hk := Bk.Kept.mk hq; clear hq)
  repeat (rename Bk.Kept (Bk.Blk w1 _ _ _) => hq; have hq' := hq.out; clear hq)
  go_wp2_with fail
  refine (HG.out _).mono ?_
  rintro e w' ⟨rfl, rfl⟩
  go_wp2_with fail
  refine (H1.out _ (hS.of (by repeat (first | assumption | exact Below.refl _ _ | refine Below.setCell ?_ (by first | exact Nat.le_refl _ | (simp; done) | (simp; omega) | omega) _ | refine Below.alloc ?_ (by first | exact Nat.le_refl _ | (simp; done) | (simp; omega) | omega) _ | refine Below.drew ?_ | exact Nat.le_refl _)))).mono ?_
  rintro e w2 ⟨rfl, hb2⟩
  have b2 : Below w.heap.size w w2 := bl2 hb2 (by repeat (first | assumption | exact Below.refl _ _ | refine Below.setCell ?_ (by first | exact Nat.le_refl _ | (simp; done) | (simp; omega) | omega) _ | refine Below.alloc ?_ (by first | exact Nat.le_refl _ | (simp; done) | (simp; omega) | omega) _ | refine Below.drew ?_ | exact Nat.le_refl _))
  have z2 := b2.size
  repeat (rename Bk.Blk w1 _ _ _ => hq; (first | (have hq' := Bk.Blk.carry hq hb2 (by (repeat (first | with_reducible refine Bk.Blk.drew ?_ | with_reducible refine Bk.Blk.set_same ?_ | with_reducible refine Bk.Blk.set_ne ?_ (by omega) | with_reducible refine Bk.Blk.alloc ?_)); (with_reducible exact hq))) | (have hq' := Bk.Blk.later hb2 (Bk.Blk.set2 hq)) | skip); clear hq)
  try (have hn := Bk.Blk.later (g := (w1).heap.size) hb2 (by first | with_reducible exact Bk.Blk.nw10 | with_reducible exact Bk.Blk.nw20 | with_reducible exact Bk.Blk.nw21 | with_reducible exact Bk.Blk.nw30 | with_reducible exact Bk.Blk.nw31 | with_reducible exact Bk.Blk.nw32 | with_reducible exact Bk.Blk.nw40 | with_reducible exact Bk.Blk.nw41 | with_reducible exact Bk.Blk.nw42 | with_reducible exact Bk.Blk.nw43))
  try (have hn := Bk.Blk.later (g := (w1).heap.size + 1) hb2 (by first | with_reducible exact Bk.Blk.nw10 | with_reducible exact Bk.Blk.nw20 | with_reducible exact Bk.Blk.nw21 | with_reducible exact Bk.Blk.nw30 | with_reducible exact Bk.Blk.nw31 | with_reducible exact Bk.Blk.nw32 | with_reducible exact Bk.Blk.nw40 | with_reducible exact Bk.Blk.nw41 | with_reducible exact Bk.Blk.nw42 | with_reducible exact Bk.Blk.nw43))
  try (have hn := Bk.Blk.later (g := (w1).heap.size + 2) hb2 (by first | with_reducible exact Bk.Blk.nw10 | with_reducible exact Bk.Blk.nw20 | with_reducible exact Bk.Blk.nw21 | with_reducible exact Bk.Blk.nw30 | with_reducible exact Bk.Blk.nw31 | with_reducible exact Bk.Blk.nw32 | with_reducible exact Bk.Blk.nw40 | with_reducible exact Bk.Blk.nw41 | with_reducible exact Bk.Blk.nw42 | with_reducible exact Bk.Blk.nw43))
  try (have hn := Bk.Blk.later (g := (w1).heap.size + 3) hb2 (by first | with_reducible exact Bk.Blk.nw10 | with_reducible exact Bk.Blk.nw20 | with_reducible exact Bk.Blk.nw21 | with_reducible exact Bk.Blk.nw30 | with_reducible exact Bk.Blk.nw31 | with_reducible exact Bk.Blk.nw32 | with_reducible exact Bk.Blk.nw40 | with_reducible exact Bk.Blk.nw41 | with_reducible exact Bk.Blk.nw42 | with_reducible exact Bk.Blk.nw43))
  clear hb2
  repeat (rename World.cell? w1 _ = _ => hq; clear hq)
  repeat (rename World.frozen? w1 _ = _ => hq; clear hq)
  repeat (rename Bk.Blk w2 _ _ _ => hq; (first | (have _k0 := (hq).c0; have _m0 := (hq).f0) | skip); (first | (have _k1 := (hq).c1; have _m1 := (hq).f1) | skip); (first | (have _k2 := (hq).c2; have _m2 := (hq).f2) | skip); (first | (have _k3 := (hq).c3; have _m3 := (hq).f3) | skip); have _z := (hq).lt; have hk := Bk.Kept.mk hq; clear hq)
  repeat (rename Bk.Kept (Bk.Blk w2 _ _ _) => hq; have hq' := hq.out; clear hq)
  go_wp2_with fail
  refine (H2.out _ (hS.of (by repeat (first | assumption | exact Below.refl _ _ | refine Below.setCell ?_ (by first | exact Nat.le_refl _ | (simp; done) | (simp; omega) | omega) _ | refine Below.alloc ?_ (by first | exact Nat.le_refl _ | (simp; done) | (simp; omega) | omega) _ | refine Below.drew ?_ | exact Nat.le_refl _)))).mono ?_
  rintro e w3 ⟨rfl, hb3⟩
  have b3 : Below w.heap.size w w3 := bl2 hb3 (by repeat (first | assumption | exact Below.refl _ _ | refine Below.setCell ?_ (by first | exact Nat.le_refl _ | (simp; done) | (simp; omega) | omega) _ | refine Below.alloc ?_ (by first | exact Nat.le_refl _ | (simp; done) | (simp; omega) | omega) _ | refine Below.drew ?_ | exact Nat.le_refl _))
  have z3 := b3.size
  repeat (rename Bk.Blk w2 _ _ _ => hq; (first | (have hq' := Bk.Blk.carry hq hb3 (by (repeat (first | with_reducible refine Bk.Blk.drew ?_ | with_reducible refine Bk.Blk.set_same ?_ | with_reducible refine Bk.Blk.set_ne ?_ (by omega) | with_reducible refine Bk.Blk.alloc ?_)); (with_reducible exact hq))) | (have hq' := Bk.Blk.later hb3 (Bk.Blk.set2 hq)) | skip); clear hq)
  try (have hn := Bk.Blk.later (g := (w2).heap.size) hb3 (by first | with_reducible exact Bk.Blk.nw10 | with_reducible exact Bk.Blk.nw20 | with_reducible exact Bk.Blk.nw21 | with_reducible exact Bk.Blk.nw30 | with_reducible exact Bk.Blk.nw31 | with_reducible exact Bk.Blk.nw32 | with_reducible exact Bk.Blk.nw40 | with_reducible exact Bk.Blk.nw41 | with_reducible exact Bk.Blk.nw42 | with_reducible exact Bk.Blk.nw43))
  try (have hn := Bk.Blk.later (g := (w2).heap.size + 1) hb3 (by first | with_reducible exact Bk.Blk.nw10 | with_reducible exact Bk.Blk.nw20 | with_reducible exact Bk.Blk.nw21 | with_reducible exact Bk.Blk.nw30 | with_reducible exact Bk.Blk.nw31 | with_reducible exact Bk.Blk.nw32 | with_reducible exact Bk.Blk.nw40 | with_reducible exact Bk.Blk.nw41 | with_reducible exact Bk.Blk.nw42 | with_reducible exact Bk.Blk.nw43))
  try (have hn := Bk.Blk.later (g := (w2).heap.size + 2) hb3 (by first | with_reducible exact Bk.Blk.nw10 | with_reducible exact Bk.Blk.nw20 | with_reducible exact Bk.Blk.nw21 | with_reducible exact Bk.Blk.nw30 | with_reducible exact Bk.Blk.nw31 | with_reducible exact Bk.Blk.nw32 | with_reducible exact Bk.Blk.nw40 | with_reducible exact Bk.Blk.nw41 | with_reducible exact Bk.Blk.nw42 | with_reducible exact Bk.Blk.nw43))
  try (have hn := Bk.Blk.later (g := (w2).heap.size + 3) hb3 (by first | with_reducible exact Bk.Blk.nw10 | with_reducible exact Bk.Blk.nw20 | with_reducible exact Bk.Blk.nw21 | with_reducible exact Bk.Blk.nw30 | with_reducible exact Bk.Blk.nw31 | with_reducible exact Bk.Blk.nw32 | with_reducible exact Bk.Blk.nw40 | with_reducible exact Bk.Blk.nw41 | with_reducible exact Bk.Blk.nw42 | with_reducible exact Bk.Blk.nw43))
  clear hb3
  repeat (rename World.cell? w2 _ = _ => hq; clear hq)
  repeat (rename World.frozen? w2 _ = _ => hq; clear hq)
  repeat (rename Bk.Blk w3 _ _ _ => hq; (first | (have _k0 := (hq).c0; have _m0 := (hq).f0) | skip); (first | (have _k1 := (hq).c1; have _m1 := (hq).f1) | skip); (first | (have _k2 := (hq).c2; have _m2 := (hq).f2) | skip); (first | (have _k3 := (hq).c3; have _m3 := (hq).f3) | skip); have _z := (hq).lt; have hk := Bk.Kept.mk hq; clear hq)
  repeat (rename Bk.Kept (Bk.Blk w3 _ _ _) => hq; have hq' := hq.out; clear hq)
  go_wp2_with fail
  refine (HL.out _ (hS.of (by repeat (first | assumption | exact Below.refl _ _ | refine Below.setCell ?_ (by first | exact Nat.le_refl _ | (simp; done) | (simp; omega) | omega) _ | refine Below.alloc ?_ (by first | exact Nat.le_refl _ | (simp; done) | (simp; omega) | omega) _ | refine Below.drew ?_ | exact Nat.le_refl _)))).mono ?_
  rintro e w9 ⟨rfl, hb9⟩
  have b9 : Below w.heap.size w w9 := bl2 hb9 (by repeat (first | assumption | exact Below.refl _ _ | refine Below.setCell ?_ (by first | exact Nat.le_refl _ | (simp; done) | (simp; omega) | omega) _ | refine Below.alloc ?_ (by first | exact Nat.le_refl _ | (simp; done) | (simp; omega) | omega) _ | refine Below.drew ?_ | exact Nat.le_refl _))
  have z9 := b9.size
  repeat (rename Bk.Blk w3 _ _ _ => hq; (first | (have hq' := Bk.Blk.carry hq hb9 (by (repeat (first | with_reducible refine Bk.Blk.drew ?_ | with_reducible refine Bk.Blk.set_same ?_ | with_reducible refine Bk.Blk.set_ne ?_ (by omega) | with_reducible refine Bk.Blk.alloc ?_)); (with_reducible exact hq))) | (have hq' := Bk.Blk.later hb9 (Bk.Blk.set2 hq)) | skip); clear hq)
  try (have hn := Bk.Blk.later (g := (w3).heap.size) hb9 (by first | with_reducible exact Bk.Blk.nw10 | with_reducible exact Bk.Blk.nw20 | with_reducible exact Bk.Blk.nw21 | with_reducible exact Bk.Blk.nw30 | with_reducible exact Bk.Blk.nw31 | with_reducible exact Bk.Blk.nw32 | with_reducible exact Bk.Blk.nw40 | with_reducible exact Bk.Blk.nw41 | with_reducible exact Bk.Blk.nw42 | with_reducible exact Bk.Blk.nw43))
  try (have hn := Bk.Blk.later (g := (w3).heap.size + 1) hb9 (by first | with_reducible exact Bk.Blk.nw10 | with_reducible exact Bk.Blk.nw20 | with_reducible exact Bk.Blk.nw21 | with_reducible exact Bk.Blk.nw30 | with_reducible exact Bk.Blk.nw31 | with_reducible exact Bk.Blk.nw32 | with_reducible exact Bk.Blk.nw40 | with_reducible exact Bk.Blk.nw41 | with_reducible exact Bk.Blk.nw42 | with_reducible exact Bk.Blk.nw43))
  try (have hn := Bk.Blk.later (g := (w3).heap.size + 2) hb9 (by first | with_reducible exact Bk.Blk.nw10 | with_reducible exact Bk.Blk.nw20 | with_reducible exact Bk.Blk.nw21 | with_reducible exact Bk.Blk.nw30 | with_reducible exact Bk.Blk.nw31 | with_reducible exact Bk.Blk.nw32 | with_reducible exact Bk.Blk.nw40 | with_reducible exact Bk.Blk.nw41 | with_reducible exact Bk.Blk.nw42 | with_reducible exact Bk.Blk.nw43))
  try (have hn := Bk.Blk.later (g := (w3).heap.size + 3) hb9 (by first | with_reducible exact Bk.Blk.nw10 | with_reducible exact Bk.Blk.nw20 | with_reducible exact Bk.Blk.nw21 | with_reducible exact Bk.Blk.nw30 | with_reducible exact Bk.Blk.nw31 | with_reducible exact Bk.Blk.nw32 | with_reducible exact Bk.Blk.nw40 | with_reducible exact Bk.Blk.nw41 | with_reducible exact Bk.Blk.nw42 | with_reducible exact Bk.Blk.nw43))
  clear hb9
  repeat (rename World.cell? w3 _ = _ => hq; clear hq)
  repeat (rename World.frozen? w3 _ = _ => hq; clear hq)
  repeat (rename Bk.Blk w9 _ _ _ => hq; (first | (have _k0 := (hq).c0; have _m0 := (hq).f0) | skip); (first | (have _k1 := (hq).c1; have _m1 := (hq).f1) | skip); (first | (have _k2 := (hq).c2; have _m2 := (hq).f2) | skip); (first | (have _k3 := (hq).c3; have _m3 := (hq).f3) | skip); have _z := (hq).lt; have hk := Bk.Kept.mk hq; clear hq)
  repeat (rename Bk.Kept (Bk.Blk w9 _ _ _) => hq; have hq' := hq.out; clear hq)
  go_wp2_with fail
  go_ret
  exact ⟨rfl, (by repeat (first | assumption | exact Below.refl _ _ | refine Below.setCell ?_ (by first | exact Nat.le_refl _ | (simp; done) | (simp; omega) | omega) _ | refine Below.alloc ?_ (by first | exact Nat.le_refl _ | (simp; done) | (simp; omega) | omega) _ | refine Below.drew ?_ | exact Nat.le_refl _))⟩
end
theorem pay_is {p ppm ev m cnt bal v c : Int} (h : POut p ppm ev m cnt bal (.returned (.tuple #[.int .i64 v, .int .i64 c]))) (W : World) (hS : Stp W) : Calls Tryd.prog 17 #[.int .i64 p, .int .i64 ppm, .int .i64 ev, .int .i64 m, .int .i64 cnt, .int .i64 bal] W fun e w' => e = .returned (.tuple #[.int .i64 v, .int .i64 c]) ∧ Below W.heap.size W w' := by
  refine (pay_any p ppm ev m cnt bal W hS).mono ?_
  intro e w' ⟨he, hb⟩
  exact ⟨pout_unique he h, hb⟩
/-- A search among all payments. -/
theorem least_ex {c m p bal : Int} {k : Nat} (n : Nat) : (∃ x : Int, 0 ≤ x ∧ x ≤ n ∧ enough c m k p bal x = true ∧ ∀ y, 0 ≤ y → y < x → enough c m k p bal y = false) ∨ ∀ y : Int, 0 ≤ y → y ≤ n → enough c m k p bal y = false := by
  induction n with
  | zero =>
    cases h : enough c m k p bal 0
    · exact .inr fun y h0 h1 => by rw [show y = 0 by omega]; exact h
    · exact .inl ⟨0, by omega, by omega, h, fun y h0 h1 => by omega⟩
  | succ n ih =>
    rcases ih with ⟨x, x0, x1, hl⟩ | hno
    · exact .inl ⟨x, x0, by omega, hl⟩
    · cases h : enough c m k p bal ((n : Int) + 1)
      · refine .inr fun y h0 h1 => ?_
        by_cases e : y = (n : Int) + 1
        · rw [e]; exact h
        · exact hno y h0 (by omega)
      · exact .inl ⟨(n : Int) + 1, by omega, by omega, h, fun y h0 h1 => hno y h0 (by omega)⟩
theorem least_walk (p ppm ev m cnt bal : Int) (_ : (Lit.int .i64 p).wf = true) (_ : (Lit.int .i64 ppm).wf = true) (_ : (Lit.int .i64 ev).wf = true) (_ : (Lit.int .i64 m).wf = true) (_ : (Lit.int .i64 cnt).wf = true) (_ : (Lit.int .i64 bal).wf = true) (w : World) (hS : Stp w) :
    Calls Tryd.prog 6 #[.agg #[.int .i64 p, .int .i64 ppm, .int .i64 ev, .int .i64 m], .int .i64 cnt, .int .i64 bal] w fun e w' => e = .returned (.bool true) ∧ Below w.heap.size w w' := by
  have HL := Lib.hid (fun (W : World) (hS : Stp W) => live_any W hS)
  by_cases hy : pOk p ppm ev m cnt bal
  · have hy' := hy
    obtain ⟨ho, ⟨g1, g2⟩, ⟨g3, g4⟩⟩ := hy'
    have HG := Lib.hid (fun W => rgd_yes p ppm ev m W ho)
    have hrok : ∀ x, 0 ≤ x → x ≤ 1000000000000 → rOk p ppm ev m cnt x := fun x x0 x1 => ⟨ho, ⟨by omega, g2⟩, ⟨x0, x1⟩⟩
    have hR := fun (x : Int) (W : World) (hS : Stp W) => rest_any p ppm ev m cnt x W hS
    unfold ROut at hR
    cases he : enough (ppm * ev) m cnt.toNat p bal 1000000000000 with
    | false =>
      have HP := Lib.hid (pay_is (pout_over hy he))
      have hk := hrok 1000000000000 (by omega) (by omega)
      have h1 := hR 1000000000000
      rcases rs_more hk he with e | ⟨e, hv⟩
      · rw [e] at h1
        exact least_o6 hS HL HP HG (Lib.hid h1) g1 g2 g3 g4
      · rw [e] at h1
        exact least_o0 hS HL HP HG (Lib.hid h1) g1 g2 g3 g4 hv
    | true =>
      obtain ⟨x, hl⟩ : ∃ x, Least (ppm * ev) m cnt.toNat p bal x := by
        obtain ⟨M, hM⟩ : ∃ M : Nat, (M : Int) = 1000000000000 := ⟨1000000000000, by omega⟩
        rcases least_ex (c := ppm * ev) (m := m) (p := p) (bal := bal) (k := cnt.toNat) M with ⟨x, x0, x1, h⟩ | h
        · exact ⟨x, ⟨x0, by omega⟩, h⟩
        · have := h 1000000000000 (by omega) (by omega)
          rw [he] at this; cases this
      have HP := Lib.hid (pay_is (pout_ok hy hl))
      obtain ⟨⟨x0, x1⟩, hx, hbelow⟩ := hl
      obtain ⟨e1, hv1⟩ := rs_less (hrok x x0 x1) hx
      have h1 := hR x
      rw [e1] at h1
      by_cases hz : x = 0
      · subst hz
        exact least_z hS HL HP HG (Lib.hid h1) g1 g2 g3 g4 hv1
      · have h2 := hR (x - 1)
        rcases rs_more (hrok (x - 1) (by omega) (by omega)) (hbelow (x - 1) (by omega) (by omega)) with e | ⟨e, hv⟩
        · rw [e] at h2
          exact least_x6 hS HL (by omega) x1 (beq_eq_false_iff_ne.2 hz) HP HG (Lib.hid h1) (Lib.hid h2) g1 g2 g3 g4 hv1
        · rw [e] at h2
          exact least_x0 hS HL (by omega) x1 (beq_eq_false_iff_ne.2 hz) HP HG (Lib.hid h1) (Lib.hid h2) g1 g2 g3 g4 hv1 hv
  · have HP := Lib.hid (pay_is (pout_no hy))
    by_cases ho : Ok p ppm ev m
    · have HG := Lib.hid (fun W => rgd_yes p ppm ev m W ho)
      by_cases h1 : cnt < 1
      · exact least_b1 hS HL HP HG h1
      · by_cases h2 : 120 < cnt
        · exact least_b2 hS HL HP HG (by omega) h2
        · by_cases h3 : bal < 0
          · exact least_b3 hS HL HP HG (by omega) (by omega) h3
          · by_cases h4 : p < bal
            · exact least_b4 hS HL HP HG (by omega) (by omega) (by omega) h4
            · exact absurd ⟨ho, ⟨by omega, by omega⟩, ⟨by omega, by omega⟩⟩ hy
    · have HG := Lib.hid (fun W => rgd_no p ppm ev m W ho)
      exact least_b0 hS HL HP HG
end Go.Proofs.YtgjikcmejglgoaaDoor.An
