/-
  The walk of the statement WideAdds: it returns true, for every argument.
-/
import Derived.Test.YtmdomlfkehhleaaLive01
import Derived.Test.YtmdomlfkehhleaaWany
import Derived.Test.YtmdomlfkehhleaaR8
namespace Go.Proofs.Ytmdomlfkehhleaa.Wt
open Go.RowKit
open Go.Proofs.Ytmdomlfkehhleaa
open Go.Proofs.Ytmdomlfkehhleaa.Wm

set_option maxRecDepth 4000 in
set_option maxHeartbeats 2000000 in
theorem adds_walk (a b c d : Int) (ha : (Lit.int .i64 a).wf = true) (hb : (Lit.int .u64 b).wf = true) (hc : (Lit.int .i64 c).wf = true) (hd : (Lit.int .u64 d).wf = true) (w : World) :
    Calls Try.prog 7 #[.agg #[.int .i64 a, .int .u64 b], .agg #[.int .i64 c, .int .u64 d]] w fun e w' => e = .returned (.bool true) ∧ Below w.heap.size w w' := by
  obtain ⟨x, hx, rfl, rfl⟩ := as_wide ha hb
  obtain ⟨y, hy, rfl, rfl⟩ := as_wide hc hd
  have h1 := fun W => add_any x y W hx hy
  have h2 := fun W => radd_any x y W hx hy
  have h3 := fun W => sub_any x y W hx hy
  have h4 := fun W => rsub_any x y W hx hy
  unfold WSum at h1 h3
  unfold SumPost at h2 h4
  have H1 := Lib.hid h1
  have H2 := Lib.hid h2
  have H3 := Lib.hid h3
  have H4 := Lib.hid h4
  have H5 := Lib.hid (fun W => cmp_any x y W)
  have H6 := Lib.hid (fun W => rcmp_any x y W)
  clear h1 h2 h3 h4 ha hb hc hd hx hy
  generalize cmp x y = k at *
  generalize fit (x + y) = s at *
  generalize ovf (x + y) = u at *
  generalize fit (x - y) = t at *
  generalize ovf (x - y) = v at *
  have b0 := Below.refl w.heap.size w
  go_enter Try.func7, Try.ntmps7
  go_wp2_with fail
  refine (H1.out _).mono ?_
  rintro e w1 ⟨rfl, hb1⟩
  have b1 : Below w.heap.size w w1 := bl2 hb1 (by repeat (first | assumption | exact Below.refl _ _ | refine Below.setCell ?_ (by first | exact Nat.le_refl _ | (simp; done) | (simp; omega) | omega) _ | refine Below.alloc ?_ (by first | exact Nat.le_refl _ | (simp; done) | (simp; omega) | omega) _ | refine Below.drew ?_ | exact Nat.le_refl _))
  have z1 := b1.size
  repeat (rename Bk.Blk w _ _ _ => hq; have hq' := Bk.Blk.carry hq hb1 (by (repeat (first | with_reducible refine Bk.Blk.drew ?_ | with_reducible refine Bk.Blk.set_same ?_ | with_reducible refine Bk.Blk.set_ne ?_ (by omega) | with_reducible refine Bk.Blk.alloc ?_)); try (with_reducible exact hq)); clear hq)
  try (have hn := Bk.Blk.later (g := (w).heap.size) hb1 (by first | with_reducible exact Bk.Blk.nw10 | with_reducible exact Bk.Blk.nw20 | with_reducible exact Bk.Blk.nw21 | with_reducible exact Bk.Blk.nw30 | with_reducible exact Bk.Blk.nw31 | with_reducible exact Bk.Blk.nw32 | with_reducible exact Bk.Blk.nw40 | with_reducible exact Bk.Blk.nw41 | with_reducible exact Bk.Blk.nw42 | with_reducible exact Bk.Blk.nw43))
  try (have hn := Bk.Blk.later (g := (w).heap.size + 1) hb1 (by first | with_reducible exact Bk.Blk.nw10 | with_reducible exact Bk.Blk.nw20 | with_reducible exact Bk.Blk.nw21 | with_reducible exact Bk.Blk.nw30 | with_reducible exact Bk.Blk.nw31 | with_reducible exact Bk.Blk.nw32 | with_reducible exact Bk.Blk.nw40 | with_reducible exact Bk.Blk.nw41 | with_reducible exact Bk.Blk.nw42 | with_reducible exact Bk.Blk.nw43))
  try (have hn := Bk.Blk.later (g := (w).heap.size + 2) hb1 (by first | with_reducible exact Bk.Blk.nw10 | with_reducible exact Bk.Blk.nw20 | with_reducible exact Bk.Blk.nw21 | with_reducible exact Bk.Blk.nw30 | with_reducible exact Bk.Blk.nw31 | with_reducible exact Bk.Blk.nw32 | with_reducible exact Bk.Blk.nw40 | with_reducible exact Bk.Blk.nw41 | with_reducible exact Bk.Blk.nw42 | with_reducible exact Bk.Blk.nw43))
  try (have hn := Bk.Blk.later (g := (w).heap.size + 3) hb1 (by first | with_reducible exact Bk.Blk.nw10 | with_reducible exact Bk.Blk.nw20 | with_reducible exact Bk.Blk.nw21 | with_reducible exact Bk.Blk.nw30 | with_reducible exact Bk.Blk.nw31 | with_reducible exact Bk.Blk.nw32 | with_reducible exact Bk.Blk.nw40 | with_reducible exact Bk.Blk.nw41 | with_reducible exact Bk.Blk.nw42 | with_reducible exact Bk.Blk.nw43))
  clear hb1
  repeat (rename World.cell? w _ = _ => hq; clear hq)
  repeat (rename World.frozen? w _ = _ => hq; clear hq)
  repeat (rename Bk.Blk w1 _ _ _ => hq; (first | (have _k0 := (hq).c0; have _m0 := (hq).f0) | skip); (first | (have _k1 := (hq).c1; have _m1 := (hq).f1) | skip); (first | (have _k2 := (hq).c2; have _m2 := (hq).f2) | skip); (first | (have _k3 := (hq).c3; have _m3 := (hq).f3) | skip); have _z := (hq).lt; have hk := Bk.Kept.mk hq; clear hq)
  repeat (rename Bk.Kept (Bk.Blk w1 _ _ _) => hq; have hq' := hq.out; clear hq)
  go_wp2_with fail
  refine (H2.out _).mono ?_
  rintro e w2 ⟨rfl, hb2⟩
  have b2 : Below w.heap.size w w2 := bl2 hb2 (by repeat (first | assumption | exact Below.refl _ _ | refine Below.setCell ?_ (by first | exact Nat.le_refl _ | (simp; done) | (simp; omega) | omega) _ | refine Below.alloc ?_ (by first | exact Nat.le_refl _ | (simp; done) | (simp; omega) | omega) _ | refine Below.drew ?_ | exact Nat.le_refl _))
  have z2 := b2.size
  repeat (rename Bk.Blk w1 _ _ _ => hq; have hq' := Bk.Blk.carry hq hb2 (by (repeat (first | with_reducible refine Bk.Blk.drew ?_ | with_reducible refine Bk.Blk.set_same ?_ | with_reducible refine Bk.Blk.set_ne ?_ (by omega) | with_reducible refine Bk.Blk.alloc ?_)); try (with_reducible exact hq)); clear hq)
  try (have hn := Bk.Blk.later (g := (w1).heap.size) hb2 (by first | with_reducible exact Bk.Blk.nw10 | with_reducible exact Bk.Blk.nw20 | with_reducible exact Bk.Blk.nw21 | with_reducible exact Bk.Blk.nw30 | with_reducible exact Bk.Blk.nw31 | with_reducible exact Bk.Blk.nw32 | with_reducible exact Bk.Blk.nw40 | with_reducible exact Bk.Blk.nw41 | with_reducible exact Bk.Blk.nw42 | with_reducible exact Bk.Blk.nw43))
  try (have hn := Bk.Blk.later (g := (w1).heap.size + 1) hb2 (by first | with_reducible exact Bk.Blk.nw10 | with_reducible exact Bk.Blk.nw20 | with_reducible exact Bk.Blk.nw21 | with_reducible exact Bk.Blk.nw30 | with_reducible exact Bk.Blk.nw31 | with_reducible exact Bk.Blk.nw32 | with_reducible exact Bk.Blk.nw40 | with_reducible exact Bk.Blk.nw41 | with_reducible exact Bk.Blk.nw42 | with_reducible exact Bk.Blk.nw43))
  try (have hn := Bk.Blk.later (g := (w1).heap.size + 2) hb2 (by first | with_reducible exact Bk.Blk.nw10 | with_reducible exact Bk.Blk.nw20 | with_reducible exact Bk.Blk.nw21 | with_reducible exact Bk.Blk.nw30 | with_reducible exact Bk.Blk.nw31 | with_reducible exact Bk.Blk.nw32 | with_reducible exact Bk.Blk.nw40 | with_reducible exact Bk.Blk.nw41 | with_reducible exact Bk.Blk.nw42 | with_reducible exact Bk.Blk.nw43))
  try (have hn := Bk.Blk.later (g := (w1).heap.size + 3) hb2 (by first | with_reducible exact Bk.Blk.nw10 | with_reducible exact Bk.Blk.nw20 | with_reducible exact Bk.Blk.nw21 | with_reducible exact Bk.Blk.nw30 | with_reducible exact Bk.Blk.nw31 | with_reducible exact Bk.Blk.nw32 | with_reducible exact Bk.Blk.nw40 | with_reducible exact Bk.Blk.nw41 | with_reducible exact Bk.Blk.nw42 | with_reducible exact Bk.Blk.nw43))
  clear hb2
  repeat (rename World.cell? w1 _ = _ => hq; clear hq)
  repeat (rename World.frozen? w1 _ = _ => hq; clear hq)
  repeat (rename Bk.Blk w2 _ _ _ => hq; (first | (have _k0 := (hq).c0; have _m0 := (hq).f0) | skip); (first | (have _k1 := (hq).c1; have _m1 := (hq).f1) | skip); (first | (have _k2 := (hq).c2; have _m2 := (hq).f2) | skip); (first | (have _k3 := (hq).c3; have _m3 := (hq).f3) | skip); have _z := (hq).lt; have hk := Bk.Kept.mk hq; clear hq)
  repeat (rename Bk.Kept (Bk.Blk w2 _ _ _) => hq; have hq' := hq.out; clear hq)
  go_wp2_with fail
  refine (H3.out _).mono ?_
  rintro e w3 ⟨rfl, hb3⟩
  have b3 : Below w.heap.size w w3 := bl2 hb3 (by repeat (first | assumption | exact Below.refl _ _ | refine Below.setCell ?_ (by first | exact Nat.le_refl _ | (simp; done) | (simp; omega) | omega) _ | refine Below.alloc ?_ (by first | exact Nat.le_refl _ | (simp; done) | (simp; omega) | omega) _ | refine Below.drew ?_ | exact Nat.le_refl _))
  have z3 := b3.size
  repeat (rename Bk.Blk w2 _ _ _ => hq; have hq' := Bk.Blk.carry hq hb3 (by (repeat (first | with_reducible refine Bk.Blk.drew ?_ | with_reducible refine Bk.Blk.set_same ?_ | with_reducible refine Bk.Blk.set_ne ?_ (by omega) | with_reducible refine Bk.Blk.alloc ?_)); try (with_reducible exact hq)); clear hq)
  try (have hn := Bk.Blk.later (g := (w2).heap.size) hb3 (by first | with_reducible exact Bk.Blk.nw10 | with_reducible exact Bk.Blk.nw20 | with_reducible exact Bk.Blk.nw21 | with_reducible exact Bk.Blk.nw30 | with_reducible exact Bk.Blk.nw31 | with_reducible exact Bk.Blk.nw32 | with_reducible exact Bk.Blk.nw40 | with_reducible exact Bk.Blk.nw41 | with_reducible exact Bk.Blk.nw42 | with_reducible exact Bk.Blk.nw43))
  try (have hn := Bk.Blk.later (g := (w2).heap.size + 1) hb3 (by first | with_reducible exact Bk.Blk.nw10 | with_reducible exact Bk.Blk.nw20 | with_reducible exact Bk.Blk.nw21 | with_reducible exact Bk.Blk.nw30 | with_reducible exact Bk.Blk.nw31 | with_reducible exact Bk.Blk.nw32 | with_reducible exact Bk.Blk.nw40 | with_reducible exact Bk.Blk.nw41 | with_reducible exact Bk.Blk.nw42 | with_reducible exact Bk.Blk.nw43))
  try (have hn := Bk.Blk.later (g := (w2).heap.size + 2) hb3 (by first | with_reducible exact Bk.Blk.nw10 | with_reducible exact Bk.Blk.nw20 | with_reducible exact Bk.Blk.nw21 | with_reducible exact Bk.Blk.nw30 | with_reducible exact Bk.Blk.nw31 | with_reducible exact Bk.Blk.nw32 | with_reducible exact Bk.Blk.nw40 | with_reducible exact Bk.Blk.nw41 | with_reducible exact Bk.Blk.nw42 | with_reducible exact Bk.Blk.nw43))
  try (have hn := Bk.Blk.later (g := (w2).heap.size + 3) hb3 (by first | with_reducible exact Bk.Blk.nw10 | with_reducible exact Bk.Blk.nw20 | with_reducible exact Bk.Blk.nw21 | with_reducible exact Bk.Blk.nw30 | with_reducible exact Bk.Blk.nw31 | with_reducible exact Bk.Blk.nw32 | with_reducible exact Bk.Blk.nw40 | with_reducible exact Bk.Blk.nw41 | with_reducible exact Bk.Blk.nw42 | with_reducible exact Bk.Blk.nw43))
  clear hb3
  repeat (rename World.cell? w2 _ = _ => hq; clear hq)
  repeat (rename World.frozen? w2 _ = _ => hq; clear hq)
  repeat (rename Bk.Blk w3 _ _ _ => hq; (first | (have _k0 := (hq).c0; have _m0 := (hq).f0) | skip); (first | (have _k1 := (hq).c1; have _m1 := (hq).f1) | skip); (first | (have _k2 := (hq).c2; have _m2 := (hq).f2) | skip); (first | (have _k3 := (hq).c3; have _m3 := (hq).f3) | skip); have _z := (hq).lt; have hk := Bk.Kept.mk hq; clear hq)
  repeat (rename Bk.Kept (Bk.Blk w3 _ _ _) => hq; have hq' := hq.out; clear hq)
  go_wp2_with fail
  refine (H4.out _).mono ?_
  rintro e w4 ⟨rfl, hb4⟩
  have b4 : Below w.heap.size w w4 := bl2 hb4 (by repeat (first | assumption | exact Below.refl _ _ | refine Below.setCell ?_ (by first | exact Nat.le_refl _ | (simp; done) | (simp; omega) | omega) _ | refine Below.alloc ?_ (by first | exact Nat.le_refl _ | (simp; done) | (simp; omega) | omega) _ | refine Below.drew ?_ | exact Nat.le_refl _))
  have z4 := b4.size
  repeat (rename Bk.Blk w3 _ _ _ => hq; have hq' := Bk.Blk.carry hq hb4 (by (repeat (first | with_reducible refine Bk.Blk.drew ?_ | with_reducible refine Bk.Blk.set_same ?_ | with_reducible refine Bk.Blk.set_ne ?_ (by omega) | with_reducible refine Bk.Blk.alloc ?_)); try (with_reducible exact hq)); clear hq)
  try (have hn := Bk.Blk.later (g := (w3).heap.size) hb4 (by first | with_reducible exact Bk.Blk.nw10 | with_reducible exact Bk.Blk.nw20 | with_reducible exact Bk.Blk.nw21 | with_reducible exact Bk.Blk.nw30 | with_reducible exact Bk.Blk.nw31 | with_reducible exact Bk.Blk.nw32 | with_reducible exact Bk.Blk.nw40 | with_reducible exact Bk.Blk.nw41 | with_reducible exact Bk.Blk.nw42 | with_reducible exact Bk.Blk.nw43))
  try (have hn := Bk.Blk.later (g := (w3).heap.size + 1) hb4 (by first | with_reducible exact Bk.Blk.nw10 | with_reducible exact Bk.Blk.nw20 | with_reducible exact Bk.Blk.nw21 | with_reducible exact Bk.Blk.nw30 | with_reducible exact Bk.Blk.nw31 | with_reducible exact Bk.Blk.nw32 | with_reducible exact Bk.Blk.nw40 | with_reducible exact Bk.Blk.nw41 | with_reducible exact Bk.Blk.nw42 | with_reducible exact Bk.Blk.nw43))
  try (have hn := Bk.Blk.later (g := (w3).heap.size + 2) hb4 (by first | with_reducible exact Bk.Blk.nw10 | with_reducible exact Bk.Blk.nw20 | with_reducible exact Bk.Blk.nw21 | with_reducible exact Bk.Blk.nw30 | with_reducible exact Bk.Blk.nw31 | with_reducible exact Bk.Blk.nw32 | with_reducible exact Bk.Blk.nw40 | with_reducible exact Bk.Blk.nw41 | with_reducible exact Bk.Blk.nw42 | with_reducible exact Bk.Blk.nw43))
  try (have hn := Bk.Blk.later (g := (w3).heap.size + 3) hb4 (by first | with_reducible exact Bk.Blk.nw10 | with_reducible exact Bk.Blk.nw20 | with_reducible exact Bk.Blk.nw21 | with_reducible exact Bk.Blk.nw30 | with_reducible exact Bk.Blk.nw31 | with_reducible exact Bk.Blk.nw32 | with_reducible exact Bk.Blk.nw40 | with_reducible exact Bk.Blk.nw41 | with_reducible exact Bk.Blk.nw42 | with_reducible exact Bk.Blk.nw43))
  clear hb4
  repeat (rename World.cell? w3 _ = _ => hq; clear hq)
  repeat (rename World.frozen? w3 _ = _ => hq; clear hq)
  repeat (rename Bk.Blk w4 _ _ _ => hq; (first | (have _k0 := (hq).c0; have _m0 := (hq).f0) | skip); (first | (have _k1 := (hq).c1; have _m1 := (hq).f1) | skip); (first | (have _k2 := (hq).c2; have _m2 := (hq).f2) | skip); (first | (have _k3 := (hq).c3; have _m3 := (hq).f3) | skip); have _z := (hq).lt; have hk := Bk.Kept.mk hq; clear hq)
  repeat (rename Bk.Kept (Bk.Blk w4 _ _ _) => hq; have hq' := hq.out; clear hq)
  go_wp2_with fail
  have hn := Bk.Blk.nw10 (W := w4) (cs := #[.int .i64 (hi t), .int .u64 (lo t)]) (t := 24)
  have hb5 : Below (w4).heap.size w4 ((w4).alloc (.cells #[.int .i64 (hi t), .int .u64 (lo t)] 24)) := (Below.refl _ _).alloc (Nat.le_refl _) _
  generalize (w4).alloc (.cells #[.int .i64 (hi t), .int .u64 (lo t)] 24) = w5 at *
  have b5 : Below w.heap.size w w5 := bl2 hb5 (by repeat (first | assumption | exact Below.refl _ _ | refine Below.setCell ?_ (by first | exact Nat.le_refl _ | (simp; done) | (simp; omega) | omega) _ | refine Below.alloc ?_ (by first | exact Nat.le_refl _ | (simp; done) | (simp; omega) | omega) _ | refine Below.drew ?_ | exact Nat.le_refl _))
  have z5 := b5.size
  repeat (rename Bk.Blk w4 _ _ _ => hq; have hq' := Bk.Blk.carry hq hb5 (by (repeat (first | with_reducible refine Bk.Blk.drew ?_ | with_reducible refine Bk.Blk.set_same ?_ | with_reducible refine Bk.Blk.set_ne ?_ (by omega) | with_reducible refine Bk.Blk.alloc ?_)); try (with_reducible exact hq)); clear hq)
  try (have hn := Bk.Blk.later (g := (w4).heap.size) hb5 (by first | with_reducible exact Bk.Blk.nw10 | with_reducible exact Bk.Blk.nw20 | with_reducible exact Bk.Blk.nw21 | with_reducible exact Bk.Blk.nw30 | with_reducible exact Bk.Blk.nw31 | with_reducible exact Bk.Blk.nw32 | with_reducible exact Bk.Blk.nw40 | with_reducible exact Bk.Blk.nw41 | with_reducible exact Bk.Blk.nw42 | with_reducible exact Bk.Blk.nw43))
  try (have hn := Bk.Blk.later (g := (w4).heap.size + 1) hb5 (by first | with_reducible exact Bk.Blk.nw10 | with_reducible exact Bk.Blk.nw20 | with_reducible exact Bk.Blk.nw21 | with_reducible exact Bk.Blk.nw30 | with_reducible exact Bk.Blk.nw31 | with_reducible exact Bk.Blk.nw32 | with_reducible exact Bk.Blk.nw40 | with_reducible exact Bk.Blk.nw41 | with_reducible exact Bk.Blk.nw42 | with_reducible exact Bk.Blk.nw43))
  try (have hn := Bk.Blk.later (g := (w4).heap.size + 2) hb5 (by first | with_reducible exact Bk.Blk.nw10 | with_reducible exact Bk.Blk.nw20 | with_reducible exact Bk.Blk.nw21 | with_reducible exact Bk.Blk.nw30 | with_reducible exact Bk.Blk.nw31 | with_reducible exact Bk.Blk.nw32 | with_reducible exact Bk.Blk.nw40 | with_reducible exact Bk.Blk.nw41 | with_reducible exact Bk.Blk.nw42 | with_reducible exact Bk.Blk.nw43))
  try (have hn := Bk.Blk.later (g := (w4).heap.size + 3) hb5 (by first | with_reducible exact Bk.Blk.nw10 | with_reducible exact Bk.Blk.nw20 | with_reducible exact Bk.Blk.nw21 | with_reducible exact Bk.Blk.nw30 | with_reducible exact Bk.Blk.nw31 | with_reducible exact Bk.Blk.nw32 | with_reducible exact Bk.Blk.nw40 | with_reducible exact Bk.Blk.nw41 | with_reducible exact Bk.Blk.nw42 | with_reducible exact Bk.Blk.nw43))
  clear hb5
  repeat (rename World.cell? w4 _ = _ => hq; clear hq)
  repeat (rename World.frozen? w4 _ = _ => hq; clear hq)
  repeat (rename Bk.Blk w5 _ _ _ => hq; (first | (have _k0 := (hq).c0; have _m0 := (hq).f0) | skip); (first | (have _k1 := (hq).c1; have _m1 := (hq).f1) | skip); (first | (have _k2 := (hq).c2; have _m2 := (hq).f2) | skip); (first | (have _k3 := (hq).c3; have _m3 := (hq).f3) | skip); have _z := (hq).lt; have hk := Bk.Kept.mk hq; clear hq)
  repeat (rename Bk.Kept (Bk.Blk w5 _ _ _) => hq; have hq' := hq.out; clear hq)
  repeat (rename Bk.Blk w5 _ _ _ => hq; (first | (have _q0 := (hq).q0) | skip); (first | (have _q1 := (hq).q1) | skip); (first | (have _q2 := (hq).q2) | skip); (first | (have _q3 := (hq).q3) | skip); have hk := Bk.Kept.mk hq; clear hq)
  repeat (rename Bk.Kept (Bk.Blk w5 _ _ _) => hq; have hq' := hq.out; clear hq)
  refine Reg.region_quiet (by kernel_rfl) (by kernel_rfl) ?_
  iterate 31 (first | go_big_quiet_skip | (go_big_quiet_want; (first | (go_big_quiet_op; go_big_quiet_on) | (apply Reg.quiet_run; (intro W hW; skip; go_simp; (first | done | rfl | exact ⟨rfl, rfl⟩ )); (simp only [Act.put, List.setIfInBounds_toArray, List.set_cons_zero, List.set_cons_succ]; go_big_quiet_on)) | (apply Reg.quiet_call; (intro W hW; go_simp; (first | done | rfl | exact ⟨rfl, rfl⟩)); (intro W hW; (first  | (go_at_call 29; exact Reg.cls_call hW (H5.out _)) | (go_at_call 30; exact Reg.cls_call hW (H6.out _)) | (go_at_call 12; exact Reg.cls_call hW (live_any _)))); (simp only [Act.put, List.setIfInBounds_toArray, List.set_cons_zero, List.set_cons_succ]; go_big_quiet_on)))))
  refine wpQuiet_nil ?_
  intro w6 hW
  have b6 := bl2 hW b5
  clear hW
  go_wp2_with fail
  go_ret
  exact ⟨rfl, (by repeat (first | assumption | exact Below.refl _ _ | refine Below.setCell ?_ (by first | exact Nat.le_refl _ | (simp; done) | (simp; omega) | omega) _ | refine Below.alloc ?_ (by first | exact Nat.le_refl _ | (simp; done) | (simp; omega) | omega) _ | refine Below.drew ?_ | exact Nat.le_refl _))⟩
end Go.Proofs.Ytmdomlfkehhleaa.Wt
