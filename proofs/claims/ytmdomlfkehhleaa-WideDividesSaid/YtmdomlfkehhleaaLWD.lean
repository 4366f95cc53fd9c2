/-
  The walk of the statement WideDivides: it returns true, for every argument.
-/
import Derived.Test.YtmdomlfkehhleaaLive01
import Derived.Test.YtmdomlfkehhleaaWany
namespace Go.Proofs.Ytmdomlfkehhleaa.Wt
open Go.RowKit
open Go.Proofs.Ytmdomlfkehhleaa
open Go.Proofs.Ytmdomlfkehhleaa.Wm

theorem wd_fit {x n : Int} (hx : I128 x) (hn : 1 ≤ n) : 0 ≤ x % n ∧ x % n < n ∧ x / n * n + x % n = x ∧ I128 (x / n) := by
  have e := Int.mul_ediv_add_emod x n
  rw [Int.mul_comm] at e
  exact ⟨Int.emod_nonneg x (by omega), Int.emod_lt_of_pos x (by omega), e, quo_bd hx (by omega)⟩
theorem wd_over {x n : Int} (hx : I128 x) (hn : 1 ≤ n) (h : ¬ I128 (x / n * n)) : x < 0 ∧ 0 < x % n ∧ I128 (x / n + 1) ∧ I128 ((x / n + 1) * n) ∧ (x / n + 1) * n - (n - x % n) = x := by
  obtain ⟨h1, h2, h3, h4⟩ := wd_fit hx hn
  have e : (x / n + 1) * n = x / n * n + n := by rw [Int.add_mul, Int.one_mul]
  unfold I128 at *
  have hneg : x / n < 0 := by
    rcases Classical.em (x / n < 0) with h' | h'
    · exact h'
    · have := Int.mul_nonneg (show 0 ≤ x / n by omega) (show 0 ≤ n by omega); omega
  have h5 : (x / n + 1) * n ≤ 0 := Int.mul_nonpos_of_nonpos_of_nonneg (by omega) (by omega)
  omega

set_option maxRecDepth 4000 in
set_option maxHeartbeats 2000000 in
theorem divides_low (x n : Int) (w : World) (h : n < 1) :
    Calls Try.prog 8 #[.agg #[.int .i64 (hi x), .int .u64 (lo x)], .int .i64 n] w fun e w' => e = .returned (.bool true) ∧ Below w.heap.size w w' := by
  have hA := Lib.hid (fun W => div_zero x n W h)
  have b0 := Below.refl w.heap.size w
  go_enter Try.func8, Try.ntmps8
  go_wp2_with fail
  refine (hA.out _).mono ?_
  rintro e w1 ⟨rfl, hb1⟩
  have b1 : Below w.heap.size w w1 := bl2 hb1 (by repeat (first | assumption | exact Below.refl _ _ | refine Below.setCell ?_ (by first | exact Nat.le_refl _ | (simp; done) | (simp; omega) | omega) _ | refine Below.alloc ?_ (by first | exact Nat.le_refl _ | (simp; done) | (simp; omega) | omega) _ | refine Below.drew ?_ | exact Nat.le_refl _))
  have z1 := b1.size
  repeat (rename Bk.Blk w _ _ _ => hq; (first | (have hq' := Bk.Blk.carry hq hb1 (by (repeat (first | with_reducible refine Bk.Blk.drew ?_ | with_reducible refine Bk.Blk.set_same ?_ | with_reducible refine Bk.Blk.set_ne ?_ (by omega) | with_reducible refine Bk.Blk.alloc ?_)); (with_reducible exact hq))) | (have hq' := Bk.Blk.later hb1 (Bk.Blk.set2 hq)) | skip); clear hq)
  try (have hn := Bk.Blk.later (g := (w).heap.size) hb1 (by first | with_reducible exact Bk.Blk.nw10 | with_reducible exact Bk.Blk.nw20 | with_reducible exact Bk.Blk.nw21 | with_reducible exact Bk.Blk.nw30 | with_reducible exact Bk.Blk.nw31 | with_reducible exact Bk.Blk.nw32 | with_reducible exact Bk.Blk.nw40 | with_reducible exact Bk.Blk.nw41 | with_reducible exact Bk.Blk.nw42 | with_reducible exact Bk.Blk.nw43))
  try (have hn := Bk.Blk.later (g := (w).heap.size + 1) hb1 (by first | with_reducible exact Bk.Blk.nw10 | with_reducible exact Bk.Blk.nw20 | with_reducible exact Bk.Blk.nw21 | with_reducible exact Bk.Blk.nw30 | with_reducible exact Bk.Blk.nw31 | with_reducible exact Bk.Blk.nw32 | with_reducible exact Bk.Blk.nw40 | with_reducible exact Bk.Blk.nw41 | with_reducible exact Bk.Blk.nw42 | with_reducible exact Bk.Blk.nw43))
  try (have hn := Bk.Blk.later (g := (w).heap.size + 2) hb1 (by first | with_reducible exact Bk.Blk.nw10 | with_reducible exact Bk.Blk.nw20 | with_reducible exact Bk.Blk.nw21 | with_reducible exact Bk.Blk.nw30 | with_reducible exact Bk.Blk.nw31 | with_reducible exact Bk.Blk.nw32 | with_reducible exact Bk.Blk.nw40 | with_reducible exact Bk.Blk.nw41 | with_reducible exact Bk.Blk.nw42 | with_reducible exact Bk.Blk.nw43))
  try (have hn := Bk.Blk.later (g := (w).heap.size + 3) hb1 (by first | with_reducible exact Bk.Blk.nw10 | with_reducible exact Bk.Blk.nw20 | with_reducible exact Bk.Blk.nw21 | with_reducible exact Bk.Blk.nw30 | with_reducible exact Bk.Blk.nw31 | with_reducible exact Bk.Blk.nw32 | with_reducible exact Bk.Blk.nw40 | with_reducible exact Bk.Blk.nw41 | with_reducible exact Bk.Blk.nw42 | with_reducible exact Bk.Blk.nw43))
  clear hb1
  repeat (rename World.cell? w _ = _ => hq; clear hq)
  repeat (rename World.frozen? w _ = _ => hq; clear hq)
  repeat (rename Bk.Blk w1 _ _ _ => hq; (first | (have _k0 := (hq).c0; have _m0 := (hq).f0) | skip); (first | (have _k1 := (hq).c1; have _m1 := (hq).f1) | skip); (first | (have _k2 := (hq).c2; have _m2 := (hq).f2) | skip); (first | (have _k3 := (hq).c3; have _m3 := (hq).f3) | skip); have _z := (hq).lt; have hk := Bk.Kept.mk hq; clear hq)
  repeat (rename Bk.Kept (Bk.Blk w1 _ _ _) => hq; have hq' := hq.out; clear hq)
  go_wp2_with fail
  refine (live_any _).mono ?_
  rintro e w2 ⟨rfl, hb2⟩
  have b2 : Below w.heap.size w w2 := bl2 hb2 (by repeat (first | assumption | exact Below.refl _ _ | refine Below.setCell ?_ (by first | exact Nat.le_refl _ | (simp; done) | (simp; omega) | omega) _ | refine Below.alloc ?_ (by first | exact Nat.le_refl _ | (simp; done) | (simp; omega) | omega) _ | refine Below.drew ?_ | exact Nat.le_refl _))
  have z2 := b2.size
  repeat (rename Bk.Blk w1 _ _ _ => hq; (first | (have hq' := Bk.Blk.carry hq hb2 (by (repeat (first | with_reducible refine Bk.Blk.drew ?_ | with_reducible refine Bk.Blk.set_same ?_ | with_reducible refine Bk.Blk.set_ne ?_ (by omega) | with_reducible refine Bk.Blk.alloc ?_)); (with_reducible exact hq))) | (have hq' := Bk.Blk.later hb2 (Bk.Blk.set2 hq)) | skip); clear hq)
  try (have hn := Bk.Blk.later (g := (w1).heap.size) hb2 (by first | with_reducible exact Bk.Blk.nw10 | with_reducible exact Bk.Blk.nw20 | with_reducible exact Bk.Blk.nw21 | with_reducible exact Bk.Blk.nw30 | with_reducible exact Bk.Blk.nw31 | with_reducible exact Bk.Blk.nw32 | with_reducible exact Bk.Blk.nw40 | with_reducible exact Bk.Blk.nw41 | with_reducible exact Bk.Blk.nw42 | with_reducible exact Bk.Blk.nw43))
  try (have hn := Bk.Blk.later (g := (w1).heap.size + 1) hb2 (by first | with_reducible exact Bk.Blk.nw10 | with_reducible exact Bk.Blk.nw20 | with_reducible exact Bk.Blk.nw21 | with_reducible exact Bk.Blk.nw30 | with_reducible exact Bk.Blk.nw31 | with_reducible exact Bk.Blk.nw32 | with_reducible exact Bk.Blk.nw40 | with_reducible exact Bk.Blk.nw41 | with_reducible exact Bk.Blk.nw42 | with_reducible exact Bk.Blk.nw43))
  try (have hn := Bk.Blk.later (g := (w1).heap.size + 2) hb2 (by first | with_reducible exact Bk.Blk.nw10 | with_reducible exact Bk.Blk.nw20 | with_reducible exact Bk.Blk.nw21 | with_reducible exact Bk.Blk.nw30 | with_reducible exact Bk.Blk.nw31 | with_reducible exact Bk.Blk.nw32 | with_reducible exact Bk.Blk.nw40 | with_reducible exact Bk.Blk.nw41 | with_reducible exact Bk.Blk.nw42 | with_reducible exact Bk.Blk.nw43))
  try (have hn := Bk.Blk.later (g := (w1).heap.size + 3) hb2 (by first | with_reducible exact Bk.Blk.nw10 | with_reducible exact Bk.Blk.nw20 | with_reducible exact Bk.Blk.nw21 | with_reducible exact Bk.Blk.nw30 | with_reducible exact Bk.Blk.nw31 | with_reducible exact Bk.Blk.nw32 | with_reducible exact Bk.Blk.nw40 | with_reducible exact Bk.Blk.nw41 | with_reducible exact Bk.Blk.nw42 | with_reducible exact Bk.Blk.nw43))
  clear hb2
  repeat (rename World.cell? w1 _ = _ => hq; clear hq)
  repeat (rename World.frozen? w1 _ = _ => hq; clear hq)
  repeat (rename Bk.Blk w2 _ _ _ => hq; (first | (have _k0 := (hq).c0; have _m0 := (hq).f0) | skip); (first | (have _k1 := (hq).c1; have _m1 := (hq).f1) | skip); (first | (have _k2 := (hq).c2; have _m2 := (hq).f2) | skip); (first | (have _k3 := (hq).c3; have _m3 := (hq).f3) | skip); have _z := (hq).lt; have hk := Bk.Kept.mk hq; clear hq)
  repeat (rename Bk.Kept (Bk.Blk w2 _ _ _) => hq; have hq' := hq.out; clear hq)
  go_wp2_with fail
  go_ret
  exact ⟨rfl, (by repeat (first | assumption | exact Below.refl _ _ | refine Below.setCell ?_ (by first | exact Nat.le_refl _ | (simp; done) | (simp; omega) | omega) _ | refine Below.alloc ?_ (by first | exact Nat.le_refl _ | (simp; done) | (simp; omega) | omega) _ | refine Below.drew ?_ | exact Nat.le_refl _))⟩

set_option maxRecDepth 4000 in
set_option maxHeartbeats 4000000 in
theorem divides_fit (x n : Int) (w : World) (hx : I128 x) (hn : I64 n) (h : 1 ≤ n) (hf : I128 (x / n * n)) :
    Calls Try.prog 8 #[.agg #[.int .i64 (hi x), .int .u64 (lo x)], .int .i64 n] w fun e w' => e = .returned (.bool true) ∧ Below w.heap.size w w' := by
  obtain ⟨h1, h2, h3, h4⟩ := wd_fit hx h
  have hd := fun W => div_any x n W hx hn
  rw [show dq x n = x / n from if_neg (by omega), show dr x n = x % n from if_neg (by omega), show de n = 0 from if_neg (by omega)] at hd
  have hs := fun W => scale_any (x / n) n W h4 hn
  rw [fit_in hf, ovf_in hf] at hs
  have hr64 : I64 (x % n) := by unfold I64 at *; omega
  have ha := fun W => add_any (x / n * n) (x % n) W hf (by unfold I128; unfold I64 at hr64; omega)
  unfold WSum at ha
  rw [h3, fit_in hx, ovf_in hx] at ha
  have ho := fun W => of_any (x % n) W hr64
  have HD := Lib.hid hd
  have HS := Lib.hid hs
  have HA := Lib.hid ha
  have HO := Lib.hid ho
  clear hd hs ha ho h3 h4 hf hx
  unfold I64 at hn
  generalize x / n * n = p at *
  generalize x / n = q at *
  generalize x % n = r at *
  clear hr64
  have b0 := Below.refl w.heap.size w
  go_enter Try.func8, Try.ntmps8
  go_wp2_with fail
  refine (HD.out _).mono ?_
  rintro e w1 ⟨rfl, hb1⟩
  have b1 : Below w.heap.size w w1 := bl2 hb1 (by repeat (first | assumption | exact Below.refl _ _ | refine Below.setCell ?_ (by first | exact Nat.le_refl _ | (simp; done) | (simp; omega) | omega) _ | refine Below.alloc ?_ (by first | exact Nat.le_refl _ | (simp; done) | (simp; omega) | omega) _ | refine Below.drew ?_ | exact Nat.le_refl _))
  have z1 := b1.size
  repeat (rename Bk.Blk w _ _ _ => hq; (first | (have hq' := Bk.Blk.carry hq hb1 (by (repeat (first | with_reducible refine Bk.Blk.drew ?_ | with_reducible refine Bk.Blk.set_same ?_ | with_reducible refine Bk.Blk.set_ne ?_ (by omega) | with_reducible refine Bk.Blk.alloc ?_)); (with_reducible exact hq))) | (have hq' := Bk.Blk.later hb1 (Bk.Blk.set2 hq)) | skip); clear hq)
  try (have hn := Bk.Blk.later (g := (w).heap.size) hb1 (by first | with_reducible exact Bk.Blk.nw10 | with_reducible exact Bk.Blk.nw20 | with_reducible exact Bk.Blk.nw21 | with_reducible exact Bk.Blk.nw30 | with_reducible exact Bk.Blk.nw31 | with_reducible exact Bk.Blk.nw32 | with_reducible exact Bk.Blk.nw40 | with_reducible exact Bk.Blk.nw41 | with_reducible exact Bk.Blk.nw42 | with_reducible exact Bk.Blk.nw43))
  try (have hn := Bk.Blk.later (g := (w).heap.size + 1) hb1 (by first | with_reducible exact Bk.Blk.nw10 | with_reducible exact Bk.Blk.nw20 | with_reducible exact Bk.Blk.nw21 | with_reducible exact Bk.Blk.nw30 | with_reducible exact Bk.Blk.nw31 | with_reducible exact Bk.Blk.nw32 | with_reducible exact Bk.Blk.nw40 | with_reducible exact Bk.Blk.nw41 | with_reducible exact Bk.Blk.nw42 | with_reducible exact Bk.Blk.nw43))
  try (have hn := Bk.Blk.later (g := (w).heap.size + 2) hb1 (by first | with_reducible exact Bk.Blk.nw10 | with_reducible exact Bk.Blk.nw20 | with_reducible exact Bk.Blk.nw21 | with_reducible exact Bk.Blk.nw30 | with_reducible exact Bk.Blk.nw31 | with_reducible exact Bk.Blk.nw32 | with_reducible exact Bk.Blk.nw40 | with_reducible exact Bk.Blk.nw41 | with_reducible exact Bk.Blk.nw42 | with_reducible exact Bk.Blk.nw43))
  try (have hn := Bk.Blk.later (g := (w).heap.size + 3) hb1 (by first | with_reducible exact Bk.Blk.nw10 | with_reducible exact Bk.Blk.nw20 | with_reducible exact Bk.Blk.nw21 | with_reducible exact Bk.Blk.nw30 | with_reducible exact Bk.Blk.nw31 | with_reducible exact Bk.Blk.nw32 | with_reducible exact Bk.Blk.nw40 | with_reducible exact Bk.Blk.nw41 | with_reducible exact Bk.Blk.nw42 | with_reducible exact Bk.Blk.nw43))
  clear hb1
  repeat (rename World.cell? w _ = _ => hq; clear hq)
  repeat (rename World.frozen? w _ = _ => hq; clear hq)
  repeat (rename Bk.Blk w1 _ _ _ => hq; (first | (have _k0 := (hq).c0; have _m0 := (hq).f0) | skip); (first | (have _k1 := (hq).c1; have _m1 := (hq).f1) | skip); (first | (have _k2 := (hq).c2; have _m2 := (hq).f2) | skip); (first | (have _k3 := (hq).c3; have _m3 := (hq).f3) | skip); have _z := (hq).lt; have hk := Bk.Kept.mk hq; clear hq)
  repeat (rename Bk.Kept (Bk.Blk w1 _ _ _) => hq; have hq' := hq.out; clear hq)
  go_wp2_with fail
  refine (HS.out _).mono ?_
  rintro e w2 ⟨rfl, hb2⟩
  have b2 : Below w.heap.size w w2 := bl2 hb2 (by repeat (first | assumption | exact Below.refl _ _ | refine Below.setCell ?_ (by first | exact Nat.le_refl _ | (simp; done) | (simp; omega) | omega) _ | refine Below.alloc ?_ (by first | exact Nat.le_refl _ | (simp; done) | (simp; omega) | omega) _ | refine Below.drew ?_ | exact Nat.le_refl _))
  have z2 := b2.size
  repeat (rename Bk.Blk w1 _ _ _ => hq; (first | (have hq' := Bk.Blk.carry hq hb2 (by (repeat (first | with_reducible refine Bk.Blk.drew ?_ | with_reducible refine Bk.Blk.set_same ?_ | with_reducible refine Bk.Blk.set_ne ?_ (by omega) | with_reducible refine Bk.Blk.alloc ?_)); (with_reducible exact hq))) | (have hq' := Bk.Blk.later hb2 (Bk.Blk.set2 hq)) | skip); clear hq)
  try (have hn := Bk.Blk.later (g := (w1).heap.size) hb2 (by first | with_reducible exact Bk.Blk.nw10 | with_reducible exact Bk.Blk.nw20 | with_reducible exact Bk.Blk.nw21 | with_reducible exact Bk.Blk.nw30 | with_reducible exact Bk.Blk.nw31 | with_reducible exact Bk.Blk.nw32 | with_reducible exact Bk.Blk.nw40 | with_reducible exact Bk.Blk.nw41 | with_reducible exact Bk.Blk.nw42 | with_reducible exact Bk.Blk.nw43))
  try (have hn := Bk.Blk.later (g := (w1).heap.size + 1) hb2 (by first | with_reducible exact Bk.Blk.nw10 | with_reducible exact Bk.Blk.nw20 | with_reducible exact Bk.Blk.nw21 | with_reducible exact Bk.Blk.nw30 | with_reducible exact Bk.Blk.nw31 | with_reducible exact Bk.Blk.nw32 | with_reducible exact Bk.Blk.nw40 | with_reducible exact Bk.Blk.nw41 | with_reducible exact Bk.Blk.nw42 | with_reducible exact Bk.Blk.nw43))
  try (have hn := Bk.Blk.later (g := (w1).heap.size + 2) hb2 (by first | with_reducible exact Bk.Blk.nw10 | with_reducible exact Bk.Blk.nw20 | with_reducible exact Bk.Blk.nw21 | with_reducible exact Bk.Blk.nw30 | with_reducible exact Bk.Blk.nw31 | with_reducible exact Bk.Blk.nw32 | with_reducible exact Bk.Blk.nw40 | with_reducible exact Bk.Blk.nw41 | with_reducible exact Bk.Blk.nw42 | with_reducible exact Bk.Blk.nw43))
  try (have hn := Bk.Blk.later (g := (w1).heap.size + 3) hb2 (by first | with_reducible exact Bk.Blk.nw10 | with_reducible exact Bk.Blk.nw20 | with_reducible exact Bk.Blk.nw21 | with_reducible exact Bk.Blk.nw30 | with_reducible exact Bk.Blk.nw31 | with_reducible exact Bk.Blk.nw32 | with_reducible exact Bk.Blk.nw40 | with_reducible exact Bk.Blk.nw41 | with_reducible exact Bk.Blk.nw42 | with_reducible exact Bk.Blk.nw43))
  clear hb2
  repeat (rename World.cell? w1 _ = _ => hq; clear hq)
  repeat (rename World.frozen? w1 _ = _ => hq; clear hq)
  repeat (rename Bk.Blk w2 _ _ _ => hq; (first | (have _k0 := (hq).c0; have _m0 := (hq).f0) | skip); (first | (have _k1 := (hq).c1; have _m1 := (hq).f1) | skip); (first | (have _k2 := (hq).c2; have _m2 := (hq).f2) | skip); (first | (have _k3 := (hq).c3; have _m3 := (hq).f3) | skip); have _z := (hq).lt; have hk := Bk.Kept.mk hq; clear hq)
  repeat (rename Bk.Kept (Bk.Blk w2 _ _ _) => hq; have hq' := hq.out; clear hq)
  go_wp2_with fail
  have hn := Bk.Blk.nw10 (W := w2) (cs := #[.int .i64 (hi p), .int .u64 (lo p)]) (t := 24)
  have hb3 : Below (w2).heap.size w2 ((w2).alloc (.cells #[.int .i64 (hi p), .int .u64 (lo p)] 24)) := (Below.refl _ _).alloc (Nat.le_refl _) _
  generalize (w2).alloc (.cells #[.int .i64 (hi p), .int .u64 (lo p)] 24) = w3 at *
  have b3 : Below w.heap.size w w3 := bl2 hb3 (by repeat (first | assumption | exact Below.refl _ _ | refine Below.setCell ?_ (by first | exact Nat.le_refl _ | (simp; done) | (simp; omega) | omega) _ | refine Below.alloc ?_ (by first | exact Nat.le_refl _ | (simp; done) | (simp; omega) | omega) _ | refine Below.drew ?_ | exact Nat.le_refl _))
  have z3 := b3.size
  repeat (rename Bk.Blk w2 _ _ _ => hq; (first | (have hq' := Bk.Blk.carry hq hb3 (by (repeat (first | with_reducible refine Bk.Blk.drew ?_ | with_reducible refine Bk.Blk.set_same ?_ | with_reducible refine Bk.Blk.set_ne ?_ (by omega) | with_reducible refine Bk.Blk.alloc ?_)); (with_reducible exact hq))) | (have hq' := Bk.Blk.later hb3 (Bk.Blk.set2 hq)) | skip); clear hq)
  try (have hn := Bk.Blk.later (g := (w2).heap.size) hb3 (by first | with_reducible exact Bk.Blk.nw10 | with_reducible exact Bk.Blk.nw20 | with_reducible exact Bk.Blk.nw21 | with_reducible exact Bk.Blk.nw30 | with_reducible exact Bk.Blk.nw31 | with_reducible exact Bk.Blk.nw32 | with_reducible exact Bk.Blk.nw40 | with_reducible exact Bk.Blk.nw41 | with_reducible exact Bk.Blk.nw42 | with_reducible exact Bk.Blk.nw43))
  try (have hn := Bk.Blk.later (g := (w2).heap.size + 1) hb3 (by first | with_reducible exact Bk.Blk.nw10 | with_reducible exact Bk.Blk.nw20 | with_reducible exact Bk.Blk.nw21 | with_reducible exact Bk.Blk.nw30 | with_reducible exact Bk.Blk.nw31 | with_reducible exact Bk.Blk.nw32 | with_reducible exact Bk.Blk.nw40 | with_reducible exact Bk.Blk.nw41 | with_reducible exact Bk.Blk.nw42 | with_reducible exact Bk.Blk.nw43))
  try (have hn := Bk.Blk.later (g := (w2).heap.size + 2) hb3 (by first | with_reducible exact Bk.Blk.nw10 | with_reducible exact Bk.Blk.nw20 | with_reducible exact Bk.Blk.nw21 | with_reducible exact Bk.Blk.nw30 | with_reducible exact Bk.Blk.nw31 | with_reducible exact Bk.Blk.nw32 | with_reducible exact Bk.Blk.nw40 | with_reducible exact Bk.Blk.nw41 | with_reducible exact Bk.Blk.nw42 | with_reducible exact Bk.Blk.nw43))
  try (have hn := Bk.Blk.later (g := (w2).heap.size + 3) hb3 (by first | with_reducible exact Bk.Blk.nw10 | with_reducible exact Bk.Blk.nw20 | with_reducible exact Bk.Blk.nw21 | with_reducible exact Bk.Blk.nw30 | with_reducible exact Bk.Blk.nw31 | with_reducible exact Bk.Blk.nw32 | with_reducible exact Bk.Blk.nw40 | with_reducible exact Bk.Blk.nw41 | with_reducible exact Bk.Blk.nw42 | with_reducible exact Bk.Blk.nw43))
  clear hb3
  repeat (rename World.cell? w2 _ = _ => hq; clear hq)
  repeat (rename World.frozen? w2 _ = _ => hq; clear hq)
  repeat (rename Bk.Blk w3 _ _ _ => hq; (first | (have _k0 := (hq).c0; have _m0 := (hq).f0) | skip); (first | (have _k1 := (hq).c1; have _m1 := (hq).f1) | skip); (first | (have _k2 := (hq).c2; have _m2 := (hq).f2) | skip); (first | (have _k3 := (hq).c3; have _m3 := (hq).f3) | skip); have _z := (hq).lt; have hk := Bk.Kept.mk hq; clear hq)
  repeat (rename Bk.Kept (Bk.Blk w3 _ _ _) => hq; have hq' := hq.out; clear hq)
  refine Reg.region_alloc 8 7 10 (.cells #[.int .i64 0, .int .u64 0] 24) [(6, 8)] (by kernel_rfl) (by kernel_rfl) (by kernel_rfl) (fun d _ _ _ _ h => by cases d <;> exact h) _ rfl rfl rfl (fun ρ W => by simp [go_sem, Reg.ptr]) ?_
  simp only [Reg.edges, Reg.edge]
  have key := Bk.key0 (W := w3)
  repeat (rename Bk.Blk w3 _ _ _ => hq; (first | replace key := Bk.kadd key (hq).gall1 | replace key := Bk.kadd key (hq).gall2 | replace key := Bk.kadd key (hq).gall3 | replace key := Bk.kadd key (hq).gall4 | replace key := Bk.kadd key (hq).gall5 | replace key := Bk.kadd key (hq).gall6 | replace key := Bk.kadd key (hq).gall7 | replace key := Bk.kadd key (hq).gall8 | replace key := Bk.kadd key (hq).gall9 | replace key := Bk.kadd key (hq).gall10 | replace key := Bk.kadd key (hq).gall11 | replace key := Bk.kadd key (hq).gall12 | replace key := Bk.kadd key (hq).gall13 | replace key := Bk.kadd key (hq).gall14 | replace key := Bk.kadd key (hq).gall15 | replace key := Bk.kadd key (hq).gall16 | replace key := Bk.kadd key (hq).gall17 | replace key := Bk.kadd key (hq).gall18 | replace key := Bk.kadd key (hq).gall19 | replace key := Bk.kadd key (hq).gall20 | skip); have hk := Bk.Kept.mk hq; clear hq)
  repeat (rename Bk.Kept (Bk.Blk w3 _ _ _) => hq; have hq' := hq.out; clear hq)
  apply Exists.intro
  refine ⟨?walk4, ?tail4⟩
  case walk4 => (intro C hC; simp only [Reg.blank, List.take_succ_cons, List.take_zero]; have kk := key C hC; (try have _a := kk.1.1); (try have _a := kk.1.2.1); (try have _a := kk.1.2.2.1); (try have _a := kk.2.1.1); (try have _a := kk.2.1.2.1); (try have _a := kk.2.1.2.2.1); (try have _a := kk.2.2.1.1); (try have _a := kk.2.2.1.2.1); (try have _a := kk.2.2.1.2.2.1); (try have _a := kk.2.2.2.1.1); (try have _a := kk.2.2.2.1.2.1); (try have _a := kk.2.2.2.1.2.2.1); (try have _a := kk.2.2.2.2.1.1); (try have _a := kk.2.2.2.2.1.2.1); (try have _a := kk.2.2.2.2.1.2.2.1); (try have _a := kk.2.2.2.2.2.1.1); (try have _a := kk.2.2.2.2.2.1.2.1); (try have _a := kk.2.2.2.2.2.1.2.2.1); (try have _a := kk.2.2.2.2.2.2.1.1); (try have _a := kk.2.2.2.2.2.2.1.2.1); (try have _a := kk.2.2.2.2.2.2.1.2.2.1); (try have _a := kk.2.2.2.2.2.2.2.1.1); (try have _a := kk.2.2.2.2.2.2.2.1.2.1); (try have _a := kk.2.2.2.2.2.2.2.1.2.2.1); (try have _a := kk.2.2.2.2.2.2.2.2.1.1); (try have _a := kk.2.2.2.2.2.2.2.2.1.2.1); (try have _a := kk.2.2.2.2.2.2.2.2.1.2.2.1); (try have _a := kk.2.2.2.2.2.2.2.2.2.1.1); (try have _a := kk.2.2.2.2.2.2.2.2.2.1.2.1); (try have _a := kk.2.2.2.2.2.2.2.2.2.1.2.2.1); (iterate 8 (first | go_big_quiet_skip | (go_big_quiet_want; (first | (go_big_quiet_op; go_big_quiet_on) | (apply Reg.quiet_run; (intro W hW; have hI : Bk.In C W := hW; go_simp; (first | done | rfl | exact ⟨rfl, rfl⟩ )); (simp only [Act.put, List.setIfInBounds_toArray, List.set_cons_zero, List.set_cons_succ]; go_big_quiet_on)) | (apply Reg.quiet_call; (intro W hW; go_simp; (first | done | rfl | exact ⟨rfl, rfl⟩)); (intro W hW; (first | (go_at_call 23; exact hC.call hW (HO.out _)) | (go_at_call 25; exact hC.call hW (HA.out _)))); (simp only [Act.put, List.setIfInBounds_toArray, List.set_cons_zero, List.set_cons_succ]; go_big_quiet_on)))))); exact wpQuiet_nil rfl)
  clear key
  intro W w4 hW hb
  have hW4 := Reg.alc_back hW hb
  have hn := Bk.Blk.made hb
  have k4 := Below.size hW
  have b4 := bl2 hW4 (by repeat (first | assumption | exact Below.refl _ _ | refine Below.setCell ?_ (by first | exact Nat.le_refl _ | (simp; done) | (simp; omega) | omega) _ | refine Below.alloc ?_ (by first | exact Nat.le_refl _ | (simp; done) | (simp; omega) | omega) _ | refine Below.drew ?_ | exact Nat.le_refl _))
  have z4 := b4.size
  repeat (rename Bk.Blk w3 _ _ _ => hq; (first | (have hq' := Bk.Blk.later hW4 hq) | skip); clear hq)
  clear hb hW hW4
  repeat (rename World.cell? w3 _ = _ => hq; clear hq)
  repeat (rename World.frozen? w3 _ = _ => hq; clear hq)
  repeat (rename Bk.Blk w4 _ _ _ => hq; (first | (have _k0 := (hq).c0; have _m0 := (hq).f0) | skip); (first | (have _k1 := (hq).c1; have _m1 := (hq).f1) | skip); (first | (have _k2 := (hq).c2; have _m2 := (hq).f2) | skip); (first | (have _k3 := (hq).c3; have _m3 := (hq).f3) | skip); have _z := (hq).lt; have hk := Bk.Kept.mk hq; clear hq)
  repeat (rename Bk.Kept (Bk.Blk w4 _ _ _) => hq; have hq' := hq.out; clear hq)
  simp only [List.drop_succ_cons, List.drop_zero, Act.put, List.setIfInBounds_toArray, List.set_cons_zero, List.set_cons_succ, Reg.ptr]
  generalize W.heap.size = g4 at *
  go_wp2_with fail
  refine (live_any _).mono ?_
  rintro e w5 ⟨rfl, hb5⟩
  have b5 : Below w.heap.size w w5 := bl2 hb5 (by repeat (first | assumption | exact Below.refl _ _ | refine Below.setCell ?_ (by first | exact Nat.le_refl _ | (simp; done) | (simp; omega) | omega) _ | refine Below.alloc ?_ (by first | exact Nat.le_refl _ | (simp; done) | (simp; omega) | omega) _ | refine Below.drew ?_ | exact Nat.le_refl _))
  have z5 := b5.size
  repeat (rename Bk.Blk w4 _ _ _ => hq; (first | (have hq' := Bk.Blk.carry hq hb5 (by (repeat (first | with_reducible refine Bk.Blk.drew ?_ | with_reducible refine Bk.Blk.set_same ?_ | with_reducible refine Bk.Blk.set_ne ?_ (by omega) | with_reducible refine Bk.Blk.alloc ?_)); (with_reducible exact hq))) | (have hq' := Bk.Blk.later hb5 (Bk.Blk.set2 hq)) | skip); clear hq)
  try (have hn := Bk.Blk.later (g := (w4).heap.size) hb5 (by first | with_reducible exact Bk.Blk.nw10 | with_reducible exact Bk.Blk.nw20 | with_reducible exact Bk.Blk.nw21 | with_reducible exact Bk.Blk.nw30 | with_reducible exact Bk.Blk.nw31 | with_reducible exact Bk.Blk.nw32 | with_reducible exact Bk.Blk.nw40 | with_reducible exact Bk.Blk.nw41 | with_reducible exact Bk.Blk.nw42 | with_reducible exact Bk.Blk.nw43))
  try (have hn := Bk.Blk.later (g := (w4).heap.size + 1) hb5 (by first | with_reducible exact Bk.Blk.nw10 | with_reducible exact Bk.Blk.nw20 | with_reducible exact Bk.Blk.nw21 | with_reducible exact Bk.Blk.nw30 | with_reducible exact Bk.Blk.nw31 | with_reducible exact Bk.Blk.nw32 | with_reducible exact Bk.Blk.nw40 | with_reducible exact Bk.Blk.nw41 | with_reducible exact Bk.Blk.nw42 | with_reducible exact Bk.Blk.nw43))
  try (have hn := Bk.Blk.later (g := (w4).heap.size + 2) hb5 (by first | with_reducible exact Bk.Blk.nw10 | with_reducible exact Bk.Blk.nw20 | with_reducible exact Bk.Blk.nw21 | with_reducible exact Bk.Blk.nw30 | with_reducible exact Bk.Blk.nw31 | with_reducible exact Bk.Blk.nw32 | with_reducible exact Bk.Blk.nw40 | with_reducible exact Bk.Blk.nw41 | with_reducible exact Bk.Blk.nw42 | with_reducible exact Bk.Blk.nw43))
  try (have hn := Bk.Blk.later (g := (w4).heap.size + 3) hb5 (by first | with_reducible exact Bk.Blk.nw10 | with_reducible exact Bk.Blk.nw20 | with_reducible exact Bk.Blk.nw21 | with_reducible exact Bk.Blk.nw30 | with_reducible exact Bk.Blk.nw31 | with_reducible exact Bk.Blk.nw32 | with_reducible exact Bk.Blk.nw40 | with_reducible exact Bk.Blk.nw41 | with_reducible exact Bk.Blk.nw42 | with_reducible exact Bk.Blk.nw43))
  clear hb5
  repeat (rename World.cell? w4 _ = _ => hq; clear hq)
  repeat (rename World.frozen? w4 _ = _ => hq; clear hq)
  repeat (rename Bk.Blk w5 _ _ _ => hq; (first | (have _k0 := (hq).c0; have _m0 := (hq).f0) | skip); (first | (have _k1 := (hq).c1; have _m1 := (hq).f1) | skip); (first | (have _k2 := (hq).c2; have _m2 := (hq).f2) | skip); (first | (have _k3 := (hq).c3; have _m3 := (hq).f3) | skip); have _z := (hq).lt; have hk := Bk.Kept.mk hq; clear hq)
  repeat (rename Bk.Kept (Bk.Blk w5 _ _ _) => hq; have hq' := hq.out; clear hq)
  go_wp2_with fail
  go_ret
  exact ⟨rfl, (by repeat (first | assumption | exact Below.refl _ _ | refine Below.setCell ?_ (by first | exact Nat.le_refl _ | (simp; done) | (simp; omega) | omega) _ | refine Below.alloc ?_ (by first | exact Nat.le_refl _ | (simp; done) | (simp; omega) | omega) _ | refine Below.drew ?_ | exact Nat.le_refl _))⟩

set_option maxRecDepth 4000 in
set_option maxHeartbeats 4000000 in
theorem divides_over (x n : Int) (w : World) (hx : I128 x) (hn : I64 n) (h : 1 ≤ n) (hf : ¬ I128 (x / n * n)) :
    Calls Try.prog 8 #[.agg #[.int .i64 (hi x), .int .u64 (lo x)], .int .i64 n] w fun e w' => e = .returned (.bool true) ∧ Below w.heap.size w w' := by
  obtain ⟨h1, h2, h3, h4⟩ := wd_fit hx h
  obtain ⟨g1, g2, g3, g4, g5⟩ := wd_over hx h hf
  have hd := fun W => div_any x n W hx hn
  rw [show dq x n = x / n from if_neg (by omega), show dr x n = x % n from if_neg (by omega), show de n = 0 from if_neg (by omega)] at hd
  have hs := fun W => scale_any (x / n) n W h4 hn
  rw [fit_out hf, ovf_out hf, hi_0, lo_0] at hs
  have ha := fun W => add_any (x / n) 1 W h4 (by unfold I128; omega)
  unfold WSum at ha
  rw [fit_in g3, ovf_in g3] at ha
  have hs2 := fun W => scale_any (x / n + 1) n W g3 hn
  rw [fit_in g4, ovf_in g4] at hs2
  have hr64 : I64 (n - x % n) := by unfold I64 at *; omega
  have hu := fun W => sub_any ((x / n + 1) * n) (n - x % n) W g4 (by unfold I128; unfold I64 at hr64; omega)
  unfold WSum at hu
  rw [g5, fit_in hx, ovf_in hx] at hu
  have ho := fun W => of_any (n - x % n) W hr64
  have ho1 := Lib.hid (fun W => of_any 1 W (by unfold I64; omega))
  have HD := Lib.hid hd
  have HS := Lib.hid hs
  have HA := Lib.hid ha
  have HS2 := Lib.hid hs2
  have HU := Lib.hid hu
  have HO := Lib.hid ho
  have hneg := (hi_neg x).2 g1
  clear hd hs ha ho hs2 hu h3 h4 hf hx g1 g3 g4 g5
  unfold I64 at hn
  generalize (x / n + 1) * n = p at *
  generalize x / n + 1 = q2 at *
  generalize x / n = q at *
  generalize x % n = r at *
  have hnr : IntKind.i64.wrap (n - r) = n - r := by rw [IntKind.wrap_i64]; omega
  clear hr64
  have b0 := Below.refl w.heap.size w
  go_enter Try.func8, Try.ntmps8
  go_wp2_with fail
  refine (HD.out _).mono ?_
  rintro e w1 ⟨rfl, hb1⟩
  have b1 : Below w.heap.size w w1 := bl2 hb1 (by repeat (first | assumption | exact Below.refl _ _ | refine Below.setCell ?_ (by first | exact Nat.le_refl _ | (simp; done) | (simp; omega) | omega) _ | refine Below.alloc ?_ (by first | exact Nat.le_refl _ | (simp; done) | (simp; omega) | omega) _ | refine Below.drew ?_ | exact Nat.le_refl _))
  have z1 := b1.size
  repeat (rename Bk.Blk w _ _ _ => hq; (first | (have hq' := Bk.Blk.carry hq hb1 (by (repeat (first | with_reducible refine Bk.Blk.drew ?_ | with_reducible refine Bk.Blk.set_same ?_ | with_reducible refine Bk.Blk.set_ne ?_ (by omega) | with_reducible refine Bk.Blk.alloc ?_)); (with_reducible exact hq))) | (have hq' := Bk.Blk.later hb1 (Bk.Blk.set2 hq)) | skip); clear hq)
  try (have hn := Bk.Blk.later (g := (w).heap.size) hb1 (by first | with_reducible exact Bk.Blk.nw10 | with_reducible exact Bk.Blk.nw20 | with_reducible exact Bk.Blk.nw21 | with_reducible exact Bk.Blk.nw30 | with_reducible exact Bk.Blk.nw31 | with_reducible exact Bk.Blk.nw32 | with_reducible exact Bk.Blk.nw40 | with_reducible exact Bk.Blk.nw41 | with_reducible exact Bk.Blk.nw42 | with_reducible exact Bk.Blk.nw43))
  try (have hn := Bk.Blk.later (g := (w).heap.size + 1) hb1 (by first | with_reducible exact Bk.Blk.nw10 | with_reducible exact Bk.Blk.nw20 | with_reducible exact Bk.Blk.nw21 | with_reducible exact Bk.Blk.nw30 | with_reducible exact Bk.Blk.nw31 | with_reducible exact Bk.Blk.nw32 | with_reducible exact Bk.Blk.nw40 | with_reducible exact Bk.Blk.nw41 | with_reducible exact Bk.Blk.nw42 | with_reducible exact Bk.Blk.nw43))
  try (have hn := Bk.Blk.later (g := (w).heap.size + 2) hb1 (by first | with_reducible exact Bk.Blk.nw10 | with_reducible exact Bk.Blk.nw20 | with_reducible exact Bk.Blk.nw21 | with_reducible exact Bk.Blk.nw30 | with_reducible exact Bk.Blk.nw31 | with_reducible exact Bk.Blk.nw32 | with_reducible exact Bk.Blk.nw40 | with_reducible exact Bk.Blk.nw41 | with_reducible exact Bk.Blk.nw42 | with_reducible exact Bk.Blk.nw43))
  try (have hn := Bk.Blk.later (g := (w).heap.size + 3) hb1 (by first | with_reducible exact Bk.Blk.nw10 | with_reducible exact Bk.Blk.nw20 | with_reducible exact Bk.Blk.nw21 | with_reducible exact Bk.Blk.nw30 | with_reducible exact Bk.Blk.nw31 | with_reducible exact Bk.Blk.nw32 | with_reducible exact Bk.Blk.nw40 | with_reducible exact Bk.Blk.nw41 | with_reducible exact Bk.Blk.nw42 | with_reducible exact Bk.Blk.nw43))
  clear hb1
  repeat (rename World.cell? w _ = _ => hq; clear hq)
  repeat (rename World.frozen? w _ = _ => hq; clear hq)
  repeat (rename Bk.Blk w1 _ _ _ => hq; (first | (have _k0 := (hq).c0; have _m0 := (hq).f0) | skip); (first | (have _k1 := (hq).c1; have _m1 := (hq).f1) | skip); (first | (have _k2 := (hq).c2; have _m2 := (hq).f2) | skip); (first | (have _k3 := (hq).c3; have _m3 := (hq).f3) | skip); have _z := (hq).lt; have hk := Bk.Kept.mk hq; clear hq)
  repeat (rename Bk.Kept (Bk.Blk w1 _ _ _) => hq; have hq' := hq.out; clear hq)
  go_wp2_with fail
  refine (HS.out _).mono ?_
  rintro e w2 ⟨rfl, hb2⟩
  have b2 : Below w.heap.size w w2 := bl2 hb2 (by repeat (first | assumption | exact Below.refl _ _ | refine Below.setCell ?_ (by first | exact Nat.le_refl _ | (simp; done) | (simp; omega) | omega) _ | refine Below.alloc ?_ (by first | exact Nat.le_refl _ | (simp; done) | (simp; omega) | omega) _ | refine Below.drew ?_ | exact Nat.le_refl _))
  have z2 := b2.size
  repeat (rename Bk.Blk w1 _ _ _ => hq; (first | (have hq' := Bk.Blk.carry hq hb2 (by (repeat (first | with_reducible refine Bk.Blk.drew ?_ | with_reducible refine Bk.Blk.set_same ?_ | with_reducible refine Bk.Blk.set_ne ?_ (by omega) | with_reducible refine Bk.Blk.alloc ?_)); (with_reducible exact hq))) | (have hq' := Bk.Blk.later hb2 (Bk.Blk.set2 hq)) | skip); clear hq)
  try (have hn := Bk.Blk.later (g := (w1).heap.size) hb2 (by first | with_reducible exact Bk.Blk.nw10 | with_reducible exact Bk.Blk.nw20 | with_reducible exact Bk.Blk.nw21 | with_reducible exact Bk.Blk.nw30 | with_reducible exact Bk.Blk.nw31 | with_reducible exact Bk.Blk.nw32 | with_reducible exact Bk.Blk.nw40 | with_reducible exact Bk.Blk.nw41 | with_reducible exact Bk.Blk.nw42 | with_reducible exact Bk.Blk.nw43))
  try (have hn := Bk.Blk.later (g := (w1).heap.size + 1) hb2 (by first | with_reducible exact Bk.Blk.nw10 | with_reducible exact Bk.Blk.nw20 | with_reducible exact Bk.Blk.nw21 | with_reducible exact Bk.Blk.nw30 | with_reducible exact Bk.Blk.nw31 | with_reducible exact Bk.Blk.nw32 | with_reducible exact Bk.Blk.nw40 | with_reducible exact Bk.Blk.nw41 | with_reducible exact Bk.Blk.nw42 | with_reducible exact Bk.Blk.nw43))
  try (have hn := Bk.Blk.later (g := (w1).heap.size + 2) hb2 (by first | with_reducible exact Bk.Blk.nw10 | with_reducible exact Bk.Blk.nw20 | with_reducible exact Bk.Blk.nw21 | with_reducible exact Bk.Blk.nw30 | with_reducible exact Bk.Blk.nw31 | with_reducible exact Bk.Blk.nw32 | with_reducible exact Bk.Blk.nw40 | with_reducible exact Bk.Blk.nw41 | with_reducible exact Bk.Blk.nw42 | with_reducible exact Bk.Blk.nw43))
  try (have hn := Bk.Blk.later (g := (w1).heap.size + 3) hb2 (by first | with_reducible exact Bk.Blk.nw10 | with_reducible exact Bk.Blk.nw20 | with_reducible exact Bk.Blk.nw21 | with_reducible exact Bk.Blk.nw30 | with_reducible exact Bk.Blk.nw31 | with_reducible exact Bk.Blk.nw32 | with_reducible exact Bk.Blk.nw40 | with_reducible exact Bk.Blk.nw41 | with_reducible exact Bk.Blk.nw42 | with_reducible exact Bk.Blk.nw43))
  clear hb2
  repeat (rename World.cell? w1 _ = _ => hq; clear hq)
  repeat (rename World.frozen? w1 _ = _ => hq; clear hq)
  repeat (rename Bk.Blk w2 _ _ _ => hq; (first | (have _k0 := (hq).c0; have _m0 := (hq).f0) | skip); (first | (have _k1 := (hq).c1; have _m1 := (hq).f1) | skip); (first | (have _k2 := (hq).c2; have _m2 := (hq).f2) | skip); (first | (have _k3 := (hq).c3; have _m3 := (hq).f3) | skip); have _z := (hq).lt; have hk := Bk.Kept.mk hq; clear hq)
  repeat (rename Bk.Kept (Bk.Blk w2 _ _ _) => hq; have hq' := hq.out; clear hq)
  go_wp2_with fail
  have hn := Bk.Blk.nw10 (W := w2) (cs := #[.int .i64 0, .int .u64 0]) (t := 24)
  have hb3 : Below (w2).heap.size w2 ((w2).alloc (.cells #[.int .i64 0, .int .u64 0] 24)) := (Below.refl _ _).alloc (Nat.le_refl _) _
  generalize (w2).alloc (.cells #[.int .i64 0, .int .u64 0] 24) = w3 at *
  have b3 : Below w.heap.size w w3 := bl2 hb3 (by repeat (first | assumption | exact Below.refl _ _ | refine Below.setCell ?_ (by first | exact Nat.le_refl _ | (simp; done) | (simp; omega) | omega) _ | refine Below.alloc ?_ (by first | exact Nat.le_refl _ | (simp; done) | (simp; omega) | omega) _ | refine Below.drew ?_ | exact Nat.le_refl _))
  have z3 := b3.size
  repeat (rename Bk.Blk w2 _ _ _ => hq; (first | (have hq' := Bk.Blk.carry hq hb3 (by (repeat (first | with_reducible refine Bk.Blk.drew ?_ | with_reducible refine Bk.Blk.set_same ?_ | with_reducible refine Bk.Blk.set_ne ?_ (by omega) | with_reducible refine Bk.Blk.alloc ?_)); (with_reducible exact hq))) | (have hq' := Bk.Blk.later hb3 (Bk.Blk.set2 hq)) | skip); clear hq)
  try (have hn := Bk.Blk.later (g := (w2).heap.size) hb3 (by first | with_reducible exact Bk.Blk.nw10 | with_reducible exact Bk.Blk.nw20 | with_reducible exact Bk.Blk.nw21 | with_reducible exact Bk.Blk.nw30 | with_reducible exact Bk.Blk.nw31 | with_reducible exact Bk.Blk.nw32 | with_reducible exact Bk.Blk.nw40 | with_reducible exact Bk.Blk.nw41 | with_reducible exact Bk.Blk.nw42 | with_reducible exact Bk.Blk.nw43))
  try (have hn := Bk.Blk.later (g := (w2).heap.size + 1) hb3 (by first | with_reducible exact Bk.Blk.nw10 | with_reducible exact Bk.Blk.nw20 | with_reducible exact Bk.Blk.nw21 | with_reducible exact Bk.Blk.nw30 | with_reducible exact Bk.Blk.nw31 | with_reducible exact Bk.Blk.nw32 | with_reducible exact Bk.Blk.nw40 | with_reducible exact Bk.Blk.nw41 | with_reducible exact Bk.Blk.nw42 | with_reducible exact Bk.Blk.nw43))
  try (have hn := Bk.Blk.later (g := (w2).heap.size + 2) hb3 (by first | with_reducible exact Bk.Blk.nw10 | with_reducible exact Bk.Blk.nw20 | with_reducible exact Bk.Blk.nw21 | with_reducible exact Bk.Blk.nw30 | with_reducible exact Bk.Blk.nw31 | with_reducible exact Bk.Blk.nw32 | with_reducible exact Bk.Blk.nw40 | with_reducible exact Bk.Blk.nw41 | with_reducible exact Bk.Blk.nw42 | with_reducible exact Bk.Blk.nw43))
  try (have hn := Bk.Blk.later (g := (w2).heap.size + 3) hb3 (by first | with_reducible exact Bk.Blk.nw10 | with_reducible exact Bk.Blk.nw20 | with_reducible exact Bk.Blk.nw21 | with_reducible exact Bk.Blk.nw30 | with_reducible exact Bk.Blk.nw31 | with_reducible exact Bk.Blk.nw32 | with_reducible exact Bk.Blk.nw40 | with_reducible exact Bk.Blk.nw41 | with_reducible exact Bk.Blk.nw42 | with_reducible exact Bk.Blk.nw43))
  clear hb3
  repeat (rename World.cell? w2 _ = _ => hq; clear hq)
  repeat (rename World.frozen? w2 _ = _ => hq; clear hq)
  repeat (rename Bk.Blk w3 _ _ _ => hq; (first | (have _k0 := (hq).c0; have _m0 := (hq).f0) | skip); (first | (have _k1 := (hq).c1; have _m1 := (hq).f1) | skip); (first | (have _k2 := (hq).c2; have _m2 := (hq).f2) | skip); (first | (have _k3 := (hq).c3; have _m3 := (hq).f3) | skip); have _z := (hq).lt; have hk := Bk.Kept.mk hq; clear hq)
  repeat (rename Bk.Kept (Bk.Blk w3 _ _ _) => hq; have hq' := hq.out; clear hq)
  refine Reg.region_alloc 7 6 12 (.cells #[.int .i64 0, .int .u64 0] 24) [(5, 7)] (by kernel_rfl) (by kernel_rfl) (by kernel_rfl) (fun d _ _ _ _ h => by cases d <;> exact h) _ rfl rfl rfl (fun ρ W => by simp [go_sem, Reg.ptr]) ?_
  simp only [Reg.edges, Reg.edge]
  have key := Bk.key0 (W := w3)
  repeat (rename Bk.Blk w3 _ _ _ => hq; (first | replace key := Bk.kadd key (hq).gall1 | replace key := Bk.kadd key (hq).gall2 | replace key := Bk.kadd key (hq).gall3 | replace key := Bk.kadd key (hq).gall4 | replace key := Bk.kadd key (hq).gall5 | replace key := Bk.kadd key (hq).gall6 | replace key := Bk.kadd key (hq).gall7 | replace key := Bk.kadd key (hq).gall8 | replace key := Bk.kadd key (hq).gall9 | replace key := Bk.kadd key (hq).gall10 | replace key := Bk.kadd key (hq).gall11 | replace key := Bk.kadd key (hq).gall12 | replace key := Bk.kadd key (hq).gall13 | replace key := Bk.kadd key (hq).gall14 | replace key := Bk.kadd key (hq).gall15 | replace key := Bk.kadd key (hq).gall16 | replace key := Bk.kadd key (hq).gall17 | replace key := Bk.kadd key (hq).gall18 | replace key := Bk.kadd key (hq).gall19 | replace key := Bk.kadd key (hq).gall20 | skip); have hk := Bk.Kept.mk hq; clear hq)
  repeat (rename Bk.Kept (Bk.Blk w3 _ _ _) => hq; have hq' := hq.out; clear hq)
  apply Exists.intro
  refine ⟨?walk4, ?tail4⟩
  case walk4 => (intro C hC; simp only [Reg.blank, List.take_succ_cons, List.take_zero]; have kk := key C hC; (try have _a := kk.1.1); (try have _a := kk.1.2.1); (try have _a := kk.1.2.2.1); (try have _a := kk.2.1.1); (try have _a := kk.2.1.2.1); (try have _a := kk.2.1.2.2.1); (try have _a := kk.2.2.1.1); (try have _a := kk.2.2.1.2.1); (try have _a := kk.2.2.1.2.2.1); (try have _a := kk.2.2.2.1.1); (try have _a := kk.2.2.2.1.2.1); (try have _a := kk.2.2.2.1.2.2.1); (try have _a := kk.2.2.2.2.1.1); (try have _a := kk.2.2.2.2.1.2.1); (try have _a := kk.2.2.2.2.1.2.2.1); (try have _a := kk.2.2.2.2.2.1.1); (try have _a := kk.2.2.2.2.2.1.2.1); (try have _a := kk.2.2.2.2.2.1.2.2.1); (try have _a := kk.2.2.2.2.2.2.1.1); (try have _a := kk.2.2.2.2.2.2.1.2.1); (try have _a := kk.2.2.2.2.2.2.1.2.2.1); (try have _a := kk.2.2.2.2.2.2.2.1.1); (try have _a := kk.2.2.2.2.2.2.2.1.2.1); (try have _a := kk.2.2.2.2.2.2.2.1.2.2.1); (try have _a := kk.2.2.2.2.2.2.2.2.1.1); (try have _a := kk.2.2.2.2.2.2.2.2.1.2.1); (try have _a := kk.2.2.2.2.2.2.2.2.1.2.2.1); (try have _a := kk.2.2.2.2.2.2.2.2.2.1.1); (try have _a := kk.2.2.2.2.2.2.2.2.2.1.2.1); (try have _a := kk.2.2.2.2.2.2.2.2.2.1.2.2.1); (iterate 7 (first | go_big_quiet_skip | (go_big_quiet_want; (first | (go_big_quiet_op; go_big_quiet_on) | (apply Reg.quiet_run; (intro W hW; have hI : Bk.In C W := hW; go_simp; (first | done | rfl | exact ⟨rfl, rfl⟩ )); (simp only [Act.put, List.setIfInBounds_toArray, List.set_cons_zero, List.set_cons_succ]; go_big_quiet_on)) | (apply Reg.quiet_call; (intro W hW; go_simp; (first | done | rfl | exact ⟨rfl, rfl⟩)); (intro W hW; (first | (go_at_call 23; exact hC.call hW (ho1.out _)) | (go_at_call 25; exact hC.call hW (HA.out _)))); (simp only [Act.put, List.setIfInBounds_toArray, List.set_cons_zero, List.set_cons_succ]; go_big_quiet_on)))))); exact wpQuiet_nil rfl)
  clear key
  intro W w4 hW hb
  have hW4 := Reg.alc_back hW hb
  have hn := Bk.Blk.made hb
  have k4 := Below.size hW
  have b4 := bl2 hW4 (by repeat (first | assumption | exact Below.refl _ _ | refine Below.setCell ?_ (by first | exact Nat.le_refl _ | (simp; done) | (simp; omega) | omega) _ | refine Below.alloc ?_ (by first | exact Nat.le_refl _ | (simp; done) | (simp; omega) | omega) _ | refine Below.drew ?_ | exact Nat.le_refl _))
  have z4 := b4.size
  repeat (rename Bk.Blk w3 _ _ _ => hq; (first | (have hq' := Bk.Blk.later hW4 hq) | skip); clear hq)
  clear hb hW hW4
  repeat (rename World.cell? w3 _ = _ => hq; clear hq)
  repeat (rename World.frozen? w3 _ = _ => hq; clear hq)
  repeat (rename Bk.Blk w4 _ _ _ => hq; (first | (have _k0 := (hq).c0; have _m0 := (hq).f0) | skip); (first | (have _k1 := (hq).c1; have _m1 := (hq).f1) | skip); (first | (have _k2 := (hq).c2; have _m2 := (hq).f2) | skip); (first | (have _k3 := (hq).c3; have _m3 := (hq).f3) | skip); have _z := (hq).lt; have hk := Bk.Kept.mk hq; clear hq)
  repeat (rename Bk.Kept (Bk.Blk w4 _ _ _) => hq; have hq' := hq.out; clear hq)
  simp only [List.drop_succ_cons, List.drop_zero, Act.put, List.setIfInBounds_toArray, List.set_cons_zero, List.set_cons_succ, Reg.ptr]
  generalize W.heap.size = g4 at *
  go_wp2_with fail
  refine (HS2.out _).mono ?_
  rintro e w5 ⟨rfl, hb5⟩
  have b5 : Below w.heap.size w w5 := bl2 hb5 (by repeat (first | assumption | exact Below.refl _ _ | refine Below.setCell ?_ (by first | exact Nat.le_refl _ | (simp; done) | (simp; omega) | omega) _ | refine Below.alloc ?_ (by first | exact Nat.le_refl _ | (simp; done) | (simp; omega) | omega) _ | refine Below.drew ?_ | exact Nat.le_refl _))
  have z5 := b5.size
  repeat (rename Bk.Blk w4 _ _ _ => hq; (first | (have hq' := Bk.Blk.carry hq hb5 (by (repeat (first | with_reducible refine Bk.Blk.drew ?_ | with_reducible refine Bk.Blk.set_same ?_ | with_reducible refine Bk.Blk.set_ne ?_ (by omega) | with_reducible refine Bk.Blk.alloc ?_)); (with_reducible exact hq))) | (have hq' := Bk.Blk.later hb5 (Bk.Blk.set2 hq)) | skip); clear hq)
  try (have hn := Bk.Blk.later (g := (w4).heap.size) hb5 (by first | with_reducible exact Bk.Blk.nw10 | with_reducible exact Bk.Blk.nw20 | with_reducible exact Bk.Blk.nw21 | with_reducible exact Bk.Blk.nw30 | with_reducible exact Bk.Blk.nw31 | with_reducible exact Bk.Blk.nw32 | with_reducible exact Bk.Blk.nw40 | with_reducible exact Bk.Blk.nw41 | with_reducible exact Bk.Blk.nw42 | with_reducible exact Bk.Blk.nw43))
  try (have hn := Bk.Blk.later (g := (w4).heap.size + 1) hb5 (by first | with_reducible exact Bk.Blk.nw10 | with_reducible exact Bk.Blk.nw20 | with_reducible exact Bk.Blk.nw21 | with_reducible exact Bk.Blk.nw30 | with_reducible exact Bk.Blk.nw31 | with_reducible exact Bk.Blk.nw32 | with_reducible exact Bk.Blk.nw40 | with_reducible exact Bk.Blk.nw41 | with_reducible exact Bk.Blk.nw42 | with_reducible exact Bk.Blk.nw43))
  try (have hn := Bk.Blk.later (g := (w4).heap.size + 2) hb5 (by first | with_reducible exact Bk.Blk.nw10 | with_reducible exact Bk.Blk.nw20 | with_reducible exact Bk.Blk.nw21 | with_reducible exact Bk.Blk.nw30 | with_reducible exact Bk.Blk.nw31 | with_reducible exact Bk.Blk.nw32 | with_reducible exact Bk.Blk.nw40 | with_reducible exact Bk.Blk.nw41 | with_reducible exact Bk.Blk.nw42 | with_reducible exact Bk.Blk.nw43))
  try (have hn := Bk.Blk.later (g := (w4).heap.size + 3) hb5 (by first | with_reducible exact Bk.Blk.nw10 | with_reducible exact Bk.Blk.nw20 | with_reducible exact Bk.Blk.nw21 | with_reducible exact Bk.Blk.nw30 | with_reducible exact Bk.Blk.nw31 | with_reducible exact Bk.Blk.nw32 | with_reducible exact Bk.Blk.nw40 | with_reducible exact Bk.Blk.nw41 | with_reducible exact Bk.Blk.nw42 | with_reducible exact Bk.Blk.nw43))
  clear hb5
  repeat (rename World.cell? w4 _ = _ => hq; clear hq)
  repeat (rename World.frozen? w4 _ = _ => hq; clear hq)
  repeat (rename Bk.Blk w5 _ _ _ => hq; (first | (have _k0 := (hq).c0; have _m0 := (hq).f0) | skip); (first | (have _k1 := (hq).c1; have _m1 := (hq).f1) | skip); (first | (have _k2 := (hq).c2; have _m2 := (hq).f2) | skip); (first | (have _k3 := (hq).c3; have _m3 := (hq).f3) | skip); have _z := (hq).lt; have hk := Bk.Kept.mk hq; clear hq)
  repeat (rename Bk.Kept (Bk.Blk w5 _ _ _) => hq; have hq' := hq.out; clear hq)
  go_wp2_with fail
  have b6 : Below w.heap.size w (((w5).setCell ⟨w2.heap.size, 0, none⟩ (.int .i64 (hi p))).setCell ⟨w2.heap.size, 1, none⟩ (.int .u64 (lo p))) := (by repeat (first | assumption | exact Below.refl _ _ | refine Below.setCell ?_ (by first | exact Nat.le_refl _ | (simp; done) | (simp; omega) | omega) _ | refine Below.alloc ?_ (by first | exact Nat.le_refl _ | (simp; done) | (simp; omega) | omega) _ | refine Below.drew ?_ | exact Nat.le_refl _))
  have z6 := b6.size
  repeat (rename Bk.Blk w5 _ _ _ => hq; (first | (have hq' := Bk.Blk.carry0 (W := ((w5).setCell ⟨w2.heap.size, 0, none⟩ (.int .i64 (hi p))).setCell ⟨w2.heap.size, 1, none⟩ (.int .u64 (lo p))) hq (by (repeat (first | with_reducible refine Bk.Blk.drew ?_ | with_reducible refine Bk.Blk.set_same ?_ | with_reducible refine Bk.Blk.set_ne ?_ (by omega) | with_reducible refine Bk.Blk.alloc ?_)); (with_reducible exact hq))) | (have hq' := Bk.Blk.set2 (u := .int .i64 (hi p)) (v := .int .u64 (lo p)) hq) | skip); clear hq)
  generalize ((w5).setCell ⟨w2.heap.size, 0, none⟩ (.int .i64 (hi p))).setCell ⟨w2.heap.size, 1, none⟩ (.int .u64 (lo p)) = w6 at *
  repeat (rename World.cell? w5 _ = _ => hq; clear hq)
  repeat (rename World.frozen? w5 _ = _ => hq; clear hq)
  repeat (rename Bk.Blk w6 _ _ _ => hq; (first | (have _k0 := (hq).c0; have _m0 := (hq).f0) | skip); (first | (have _k1 := (hq).c1; have _m1 := (hq).f1) | skip); (first | (have _k2 := (hq).c2; have _m2 := (hq).f2) | skip); (first | (have _k3 := (hq).c3; have _m3 := (hq).f3) | skip); have _z := (hq).lt; have hk := Bk.Kept.mk hq; clear hq)
  repeat (rename Bk.Kept (Bk.Blk w6 _ _ _) => hq; have hq' := hq.out; clear hq)
  refine Reg.region_alloc 10 9 15 (.cells #[.int .i64 0, .int .u64 0] 24) [(8, 10)] (by kernel_rfl) (by kernel_rfl) (by kernel_rfl) (fun d _ _ _ _ h => by cases d <;> exact h) _ rfl rfl rfl (fun ρ W => by simp [go_sem, Reg.ptr]) ?_
  simp only [Reg.edges, Reg.edge]
  have key := Bk.key0 (W := w6)
  repeat (rename Bk.Blk w6 _ _ _ => hq; (first | replace key := Bk.kadd key (hq).gall1 | replace key := Bk.kadd key (hq).gall2 | replace key := Bk.kadd key (hq).gall3 | replace key := Bk.kadd key (hq).gall4 | replace key := Bk.kadd key (hq).gall5 | replace key := Bk.kadd key (hq).gall6 | replace key := Bk.kadd key (hq).gall7 | replace key := Bk.kadd key (hq).gall8 | replace key := Bk.kadd key (hq).gall9 | replace key := Bk.kadd key (hq).gall10 | replace key := Bk.kadd key (hq).gall11 | replace key := Bk.kadd key (hq).gall12 | replace key := Bk.kadd key (hq).gall13 | replace key := Bk.kadd key (hq).gall14 | replace key := Bk.kadd key (hq).gall15 | replace key := Bk.kadd key (hq).gall16 | replace key := Bk.kadd key (hq).gall17 | replace key := Bk.kadd key (hq).gall18 | replace key := Bk.kadd key (hq).gall19 | replace key := Bk.kadd key (hq).gall20 | skip); have hk := Bk.Kept.mk hq; clear hq)
  repeat (rename Bk.Kept (Bk.Blk w6 _ _ _) => hq; have hq' := hq.out; clear hq)
  apply Exists.intro
  refine ⟨?walk7, ?tail7⟩
  case walk7 => (intro C hC; simp only [Reg.blank, List.take_succ_cons, List.take_zero]; have kk := key C hC; (try have _a := kk.1.1); (try have _a := kk.1.2.1); (try have _a := kk.1.2.2.1); (try have _a := kk.2.1.1); (try have _a := kk.2.1.2.1); (try have _a := kk.2.1.2.2.1); (try have _a := kk.2.2.1.1); (try have _a := kk.2.2.1.2.1); (try have _a := kk.2.2.1.2.2.1); (try have _a := kk.2.2.2.1.1); (try have _a := kk.2.2.2.1.2.1); (try have _a := kk.2.2.2.1.2.2.1); (try have _a := kk.2.2.2.2.1.1); (try have _a := kk.2.2.2.2.1.2.1); (try have _a := kk.2.2.2.2.1.2.2.1); (try have _a := kk.2.2.2.2.2.1.1); (try have _a := kk.2.2.2.2.2.1.2.1); (try have _a := kk.2.2.2.2.2.1.2.2.1); (try have _a := kk.2.2.2.2.2.2.1.1); (try have _a := kk.2.2.2.2.2.2.1.2.1); (try have _a := kk.2.2.2.2.2.2.1.2.2.1); (try have _a := kk.2.2.2.2.2.2.2.1.1); (try have _a := kk.2.2.2.2.2.2.2.1.2.1); (try have _a := kk.2.2.2.2.2.2.2.1.2.2.1); (try have _a := kk.2.2.2.2.2.2.2.2.1.1); (try have _a := kk.2.2.2.2.2.2.2.2.1.2.1); (try have _a := kk.2.2.2.2.2.2.2.2.1.2.2.1); (try have _a := kk.2.2.2.2.2.2.2.2.2.1.1); (try have _a := kk.2.2.2.2.2.2.2.2.2.1.2.1); (try have _a := kk.2.2.2.2.2.2.2.2.2.1.2.2.1); (iterate 10 (first | go_big_quiet_skip | (go_big_quiet_want; (first | (go_big_quiet_op; go_big_quiet_on) | (apply Reg.quiet_run; (intro W hW; have hI : Bk.In C W := hW; go_simp; (first | done | rfl | exact ⟨rfl, rfl⟩ )); (simp only [Act.put, List.setIfInBounds_toArray, List.set_cons_zero, List.set_cons_succ]; go_big_quiet_on)) | (apply Reg.quiet_call; (intro W hW; go_simp; (first | done | rfl | exact ⟨rfl, rfl⟩)); (intro W hW; (first | (go_at_call 23; exact hC.call hW (HO.out _)) | (go_at_call 27; exact hC.call hW (HU.out _)))); (simp only [Act.put, List.setIfInBounds_toArray, List.set_cons_zero, List.set_cons_succ]; go_big_quiet_on)))))); exact wpQuiet_nil rfl)
  clear key
  intro W w7 hW hb
  have hW7 := Reg.alc_back hW hb
  have hn := Bk.Blk.made hb
  have k7 := Below.size hW
  have b7 := bl2 hW7 (by repeat (first | assumption | exact Below.refl _ _ | refine Below.setCell ?_ (by first | exact Nat.le_refl _ | (simp; done) | (simp; omega) | omega) _ | refine Below.alloc ?_ (by first | exact Nat.le_refl _ | (simp; done) | (simp; omega) | omega) _ | refine Below.drew ?_ | exact Nat.le_refl _))
  have z7 := b7.size
  repeat (rename Bk.Blk w6 _ _ _ => hq; (first | (have hq' := Bk.Blk.later hW7 hq) | skip); clear hq)
  clear hb hW hW7
  repeat (rename World.cell? w6 _ = _ => hq; clear hq)
  repeat (rename World.frozen? w6 _ = _ => hq; clear hq)
  repeat (rename Bk.Blk w7 _ _ _ => hq; (first | (have _k0 := (hq).c0; have _m0 := (hq).f0) | skip); (first | (have _k1 := (hq).c1; have _m1 := (hq).f1) | skip); (first | (have _k2 := (hq).c2; have _m2 := (hq).f2) | skip); (first | (have _k3 := (hq).c3; have _m3 := (hq).f3) | skip); have _z := (hq).lt; have hk := Bk.Kept.mk hq; clear hq)
  repeat (rename Bk.Kept (Bk.Blk w7 _ _ _) => hq; have hq' := hq.out; clear hq)
  simp only [List.drop_succ_cons, List.drop_zero, Act.put, List.setIfInBounds_toArray, List.set_cons_zero, List.set_cons_succ, Reg.ptr]
  generalize W.heap.size = g7 at *
  go_wp2_with fail
  refine (live_any _).mono ?_
  rintro e w8 ⟨rfl, hb8⟩
  have b8 : Below w.heap.size w w8 := bl2 hb8 (by repeat (first | assumption | exact Below.refl _ _ | refine Below.setCell ?_ (by first | exact Nat.le_refl _ | (simp; done) | (simp; omega) | omega) _ | refine Below.alloc ?_ (by first | exact Nat.le_refl _ | (simp; done) | (simp; omega) | omega) _ | refine Below.drew ?_ | exact Nat.le_refl _))
  have z8 := b8.size
  repeat (rename Bk.Blk w7 _ _ _ => hq; (first | (have hq' := Bk.Blk.carry hq hb8 (by (repeat (first | with_reducible refine Bk.Blk.drew ?_ | with_reducible refine Bk.Blk.set_same ?_ | with_reducible refine Bk.Blk.set_ne ?_ (by omega) | with_reducible refine Bk.Blk.alloc ?_)); (with_reducible exact hq))) | (have hq' := Bk.Blk.later hb8 (Bk.Blk.set2 hq)) | skip); clear hq)
  try (have hn := Bk.Blk.later (g := (w7).heap.size) hb8 (by first | with_reducible exact Bk.Blk.nw10 | with_reducible exact Bk.Blk.nw20 | with_reducible exact Bk.Blk.nw21 | with_reducible exact Bk.Blk.nw30 | with_reducible exact Bk.Blk.nw31 | with_reducible exact Bk.Blk.nw32 | with_reducible exact Bk.Blk.nw40 | with_reducible exact Bk.Blk.nw41 | with_reducible exact Bk.Blk.nw42 | with_reducible exact Bk.Blk.nw43))
  try (have hn := Bk.Blk.later (g := (w7).heap.size + 1) hb8 (by first | with_reducible exact Bk.Blk.nw10 | with_reducible exact Bk.Blk.nw20 | with_reducible exact Bk.Blk.nw21 | with_reducible exact Bk.Blk.nw30 | with_reducible exact Bk.Blk.nw31 | with_reducible exact Bk.Blk.nw32 | with_reducible exact Bk.Blk.nw40 | with_reducible exact Bk.Blk.nw41 | with_reducible exact Bk.Blk.nw42 | with_reducible exact Bk.Blk.nw43))
  try (have hn := Bk.Blk.later (g := (w7).heap.size + 2) hb8 (by first | with_reducible exact Bk.Blk.nw10 | with_reducible exact Bk.Blk.nw20 | with_reducible exact Bk.Blk.nw21 | with_reducible exact Bk.Blk.nw30 | with_reducible exact Bk.Blk.nw31 | with_reducible exact Bk.Blk.nw32 | with_reducible exact Bk.Blk.nw40 | with_reducible exact Bk.Blk.nw41 | with_reducible exact Bk.Blk.nw42 | with_reducible exact Bk.Blk.nw43))
  try (have hn := Bk.Blk.later (g := (w7).heap.size + 3) hb8 (by first | with_reducible exact Bk.Blk.nw10 | with_reducible exact Bk.Blk.nw20 | with_reducible exact Bk.Blk.nw21 | with_reducible exact Bk.Blk.nw30 | with_reducible exact Bk.Blk.nw31 | with_reducible exact Bk.Blk.nw32 | with_reducible exact Bk.Blk.nw40 | with_reducible exact Bk.Blk.nw41 | with_reducible exact Bk.Blk.nw42 | with_reducible exact Bk.Blk.nw43))
  clear hb8
  repeat (rename World.cell? w7 _ = _ => hq; clear hq)
  repeat (rename World.frozen? w7 _ = _ => hq; clear hq)
  repeat (rename Bk.Blk w8 _ _ _ => hq; (first | (have _k0 := (hq).c0; have _m0 := (hq).f0) | skip); (first | (have _k1 := (hq).c1; have _m1 := (hq).f1) | skip); (first | (have _k2 := (hq).c2; have _m2 := (hq).f2) | skip); (first | (have _k3 := (hq).c3; have _m3 := (hq).f3) | skip); have _z := (hq).lt; have hk := Bk.Kept.mk hq; clear hq)
  repeat (rename Bk.Kept (Bk.Blk w8 _ _ _) => hq; have hq' := hq.out; clear hq)
  go_wp2_with fail
  go_ret
  exact ⟨rfl, (by repeat (first | assumption | exact Below.refl _ _ | refine Below.setCell ?_ (by first | exact Nat.le_refl _ | (simp; done) | (simp; omega) | omega) _ | refine Below.alloc ?_ (by first | exact Nat.le_refl _ | (simp; done) | (simp; omega) | omega) _ | refine Below.drew ?_ | exact Nat.le_refl _))⟩
theorem divides_walk (a b n : Int) (ha : (Lit.int .i64 a).wf = true) (hb : (Lit.int .u64 b).wf = true) (hn : (Lit.int .i64 n).wf = true) (w : World) :
    Calls Try.prog 8 #[.agg #[.int .i64 a, .int .u64 b], .int .i64 n] w fun e w' => e = .returned (.bool true) ∧ Below w.heap.size w w' := by
  obtain ⟨x, hx, rfl, rfl⟩ := as_wide ha hb
  by_cases h : n < 1
  · exact divides_low x n w h
  · rcases Classical.em (I128 (x / n * n)) with hf | hf
    · exact divides_fit x n w hx (wf_i64 hn) (by omega) hf
    · exact divides_over x n w hx (wf_i64 hn) (by omega) hf
end Go.Proofs.Ytmdomlfkehhleaa.Wt
