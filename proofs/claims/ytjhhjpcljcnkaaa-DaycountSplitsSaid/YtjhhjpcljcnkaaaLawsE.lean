/-
  The walk of the statement DaycountSplits: it returns true, for every argument.
-/
import Derived.Test.YtjhhjpcljcnkaaaRInt
import Derived.Test.YtjhhjpcljcnkaaaR8
import Derived.Test.YtjhhjpcljcnkaaaLawsC
namespace Go.Proofs.Ytjhhjpcljcnkaaa.Dt
open Go.RowKit
open Go.Proofs.Ytjhhjpcljcnkaaa
open Go.Proofs.Ytjhhjpcljcnkaaa.Cal Go.Proofs.Ytjhhjpcljcnkaaa.Wm Go.Proofs.Ytjhhjpcljcnkaaa.Wt

theorem splits_no (b p s f m t : Int) (w : World) (h : ¬ intOk b p s f t) :
    Calls Try.prog 8 #[.agg #[.int .i64 b, .int .i64 p, .int .i64 s], .int .i64 f, .int .i64 m, .int .i64 t] w fun e w' => e = .returned (.bool true) ∧ Below w.heap.size w w' := by
  have H := Lib.hid h
  clear h
  go_enter Try.func8, Try.ntmps8
  go_wp2_with fail
  refine (interest_no _ _ _ _ _ _ H.out).mono ?_
  rintro e w1 ⟨rfl, hb1⟩
  have b1 : Below w.heap.size w w1 := bl2 hb1 (by repeat (first | assumption | exact Below.refl _ _ | refine Below.setCell ?_ (by first | exact Nat.le_refl _ | (simp; done) | (simp; omega) | omega) _ | refine Below.alloc ?_ (by first | exact Nat.le_refl _ | (simp; done) | (simp; omega) | omega) _ | refine Below.drew ?_ | exact Nat.le_refl _))
  have z1 := hb1.size
  try simp at z1
  clear hb1
  go_wp2_with fail
  refine (lives_any _).mono ?_
  rintro e w3 ⟨rfl, hb3⟩
  have b3 : Below w.heap.size w w3 := bl2 hb3 (by repeat (first | assumption | exact Below.refl _ _ | refine Below.setCell ?_ (by first | exact Nat.le_refl _ | (simp; done) | (simp; omega) | omega) _ | refine Below.alloc ?_ (by first | exact Nat.le_refl _ | (simp; done) | (simp; omega) | omega) _ | refine Below.drew ?_ | exact Nat.le_refl _))
  clear hb3
  go_wp2_with fail
  go_ret
  exact ⟨rfl, b3⟩
theorem splits_out (b p s f m t : Int) (w : World) (h : intOk b p s f t) (hm : m < f ∨ (f ≤ m ∧ t < m)) :
    Calls Try.prog 8 #[.agg #[.int .i64 b, .int .i64 p, .int .i64 s], .int .i64 f, .int .i64 m, .int .i64 t] w fun e w' => e = .returned (.bool true) ∧ Below w.heap.size w w' := by
  have H := Lib.hid h
  clear h
  rcases hm with hm | ⟨hm0, hm⟩
  all_goals
    go_enter Try.func8, Try.ntmps8
    go_wp2_with fail
    refine (interest_yes _ _ _ _ _ _ H.out).mono ?_
    rintro e w1 ⟨rfl, hb1⟩
    have b1 : Below w.heap.size w w1 := bl2 hb1 (by repeat (first | assumption | exact Below.refl _ _ | refine Below.setCell ?_ (by first | exact Nat.le_refl _ | (simp; done) | (simp; omega) | omega) _ | refine Below.alloc ?_ (by first | exact Nat.le_refl _ | (simp; done) | (simp; omega) | omega) _ | refine Below.drew ?_ | exact Nat.le_refl _))
    have z1 := hb1.size
    try simp at z1
    clear hb1
    go_wp2_with fail
    refine (lives_any _).mono ?_
    rintro e w3 ⟨rfl, hb3⟩
    have b3 : Below w.heap.size w w3 := bl2 hb3 (by repeat (first | assumption | exact Below.refl _ _ | refine Below.setCell ?_ (by first | exact Nat.le_refl _ | (simp; done) | (simp; omega) | omega) _ | refine Below.alloc ?_ (by first | exact Nat.le_refl _ | (simp; done) | (simp; omega) | omega) _ | refine Below.drew ?_ | exact Nat.le_refl _))
    clear hb3
    go_wp2_with fail
    go_ret
    exact ⟨rfl, b3⟩

theorem splits_math {b p s f m t : Int} (h : intOk b p s f t) (h1 : f ≤ m) (h2 : m ≤ t) :
    intOk b p s f m ∧ intOk b p s m t ∧ intOk (-b) p s f t ∧ b * p * sumv s f m + b * p * sumv s m t = b * p * sumv s f t ∧ b * p * sumv s f t + -b * p * sumv s f t = 0 := by
  have hs := adds_sum (b := s) h.2.2.2.1.1 h1 h2 h.2.2.2.2.1.2
  obtain ⟨g1, g2, g3, g4, g5, g6⟩ := h
  refine ⟨⟨g1, g2, g3, g4, by omega, h1⟩, ⟨g1, g2, g3, by omega, g5, h2⟩, ⟨by omega, g2, g3, g4, g5, g6⟩, ?_, ?_⟩
  · rw [← Int.mul_add, hs]
  · rw [Int.neg_mul, Int.neg_mul]; omega

set_option maxHeartbeats 1000000 in
theorem splits_yes (b p s f m t : Int) (w : World) (h : intOk b p s f t) (h1 : f ≤ m) (h2 : m ≤ t) :
    Calls Try.prog 8 #[.agg #[.int .i64 b, .int .i64 p, .int .i64 s], .int .i64 f, .int .i64 m, .int .i64 t] w fun e w' => e = .returned (.bool true) ∧ Below w.heap.size w w' := by
  obtain ⟨o1, o2, o3, e1, e2⟩ := splits_math h h1 h2
  obtain ⟨gb1, gb2⟩ := h.1
  have i0 := Lib.hid (intOk_all h).2.2.2.2
  have i1 := Lib.hid (intOk_all o1).2.2.2.2
  have i2 := Lib.hid (intOk_all o2).2.2.2.2
  have i3 := Lib.hid (intOk_all o3).2.2.2.2
  have O := Lib.hid h
  have O1 := Lib.hid o1
  have O2 := Lib.hid o2
  have O3 := Lib.hid o3
  obtain ⟨n, hn⟩ : ∃ n, n = b * p * sumv s f t := ⟨_, rfl⟩
  obtain ⟨x, hx⟩ : ∃ n, n = b * p * sumv s f m := ⟨_, rfl⟩
  obtain ⟨y, hy⟩ : ∃ n, n = b * p * sumv s m t := ⟨_, rfl⟩
  obtain ⟨z, hz⟩ : ∃ n, n = -b * p * sumv s f t := ⟨_, rfl⟩
  have c0 := fun W => interest_yes b p s f t W h
  have c1 := fun W => interest_yes b p s f m W o1
  have c2 := fun W => interest_yes b p s m t W o2
  have c3 := fun W => interest_yes (-b) p s f t W o3
  rw [← hn] at c0 i0 e1 e2
  rw [← hx] at c1 i1 e1
  rw [← hy] at c2 i2 e1
  rw [← hz] at c3 i3 e2
  have a1 := fun W => radd_in x y n W i1.out i2.out e1 i0.out
  have a2 := fun W => radd_in n z 0 W i0.out i3.out e2 (show I128 0 by unfold I128; omega)
  rw [hi_0, lo_0] at a2
  have C0 := Lib.hid c0
  have C1 := Lib.hid c1
  have C2 := Lib.hid c2
  have C3 := Lib.hid c3
  have A1 := Lib.hid a1
  have A2 := Lib.hid a2
  clear c0 c1 c2 c3 a1 a2 e1 e2 hn hx hy hz h o1 o2 o3 O O1 O2 O3 i0 i1 i2 i3
  go_enter Try.func8, Try.ntmps8
  go_wp2_with fail
  refine (C0.out _).mono ?_
  rintro e w1 ⟨rfl, hb1⟩
  have xc1 : w1.cell? ⟨w.heap.size, 0, none⟩ = some (.int .i64 b) := cell_later hb1 (by simp [go_sem])
  have xd1 : w1.cell? ⟨w.heap.size, 1, none⟩ = some (.int .i64 p) := cell_later hb1 (by simp [go_sem])
  have xe1 : w1.cell? ⟨w.heap.size, 2, none⟩ = some (.int .i64 s) := cell_later hb1 (by simp [go_sem])
  have xz1 : w.heap.size < w1.heap.size := World.block_lt_of_cell? _ _ xc1
  have b1 : Below w.heap.size w w1 := bl2 hb1 (by repeat (first | assumption | exact Below.refl _ _ | refine Below.setCell ?_ (by first | exact Nat.le_refl _ | (simp; done) | (simp; omega) | omega) _ | refine Below.alloc ?_ (by first | exact Nat.le_refl _ | (simp; done) | (simp; omega) | omega) _ | refine Below.drew ?_ | exact Nat.le_refl _))
  have z1 := hb1.size
  try simp at z1
  clear hb1
  go_wp2_with fail
  refine (C1.out _).mono ?_
  rintro e w2 ⟨rfl, hb2⟩
  have xc2 : w2.cell? ⟨w.heap.size, 0, none⟩ = some (.int .i64 b) := cell_later hb2 (by simp [go_sem, *])
  have xd2 : w2.cell? ⟨w.heap.size, 1, none⟩ = some (.int .i64 p) := cell_later hb2 (by simp [go_sem, *])
  have xe2 : w2.cell? ⟨w.heap.size, 2, none⟩ = some (.int .i64 s) := cell_later hb2 (by simp [go_sem, *])
  have xz2 : w.heap.size < w2.heap.size := World.block_lt_of_cell? _ _ xc2
  obtain ⟨n2c, n2d, n2f, n2g⟩ := later2 hb2 (g := w1.heap.size) (u := .int .i64 (hi n)) (v := .int .u64 (lo n)) (by simp [go_sem, *]) (by simp [go_sem, *]) (by simp [go_sem, *]) (by simp [go_sem, *])
  have n2z : w1.heap.size < w2.heap.size := World.block_lt_of_cell? _ _ n2c
  have b2 : Below w.heap.size w w2 := bl2 hb2 (by repeat (first | assumption | exact Below.refl _ _ | refine Below.setCell ?_ (by first | exact Nat.le_refl _ | (simp; done) | (simp; omega) | omega) _ | refine Below.alloc ?_ (by first | exact Nat.le_refl _ | (simp; done) | (simp; omega) | omega) _ | refine Below.drew ?_ | exact Nat.le_refl _))
  clear hb2 xc1 xd1 xe1
  go_wp2_with fail
  refine (C2.out _).mono ?_
  rintro e w3 ⟨rfl, hb3⟩
  have xc3 : w3.cell? ⟨w.heap.size, 0, none⟩ = some (.int .i64 b) := cell_later hb3 (by simp [go_sem, *])
  have xd3 : w3.cell? ⟨w.heap.size, 1, none⟩ = some (.int .i64 p) := cell_later hb3 (by simp [go_sem, *])
  have xe3 : w3.cell? ⟨w.heap.size, 2, none⟩ = some (.int .i64 s) := cell_later hb3 (by simp [go_sem, *])
  have xz3 : w.heap.size < w3.heap.size := World.block_lt_of_cell? _ _ xc3
  obtain ⟨n3c, n3d, n3f, n3g⟩ := later2 hb3 (g := w1.heap.size) (u := .int .i64 (hi n)) (v := .int .u64 (lo n)) (by simp [go_sem, *]) (by simp [go_sem, *]) (by simp [go_sem, *]) (by simp [go_sem, *])
  have n3z : w1.heap.size < w3.heap.size := World.block_lt_of_cell? _ _ n3c
  obtain ⟨x3c, x3d, x3f, x3g⟩ := later2 hb3 (g := w2.heap.size) (u := .int .i64 (hi x)) (v := .int .u64 (lo x)) (by simp [go_sem, *]) (by simp [go_sem, *]) (by simp [go_sem, *]) (by simp [go_sem, *])
  have x3z : w2.heap.size < w3.heap.size := World.block_lt_of_cell? _ _ x3c
  have b3 : Below w.heap.size w w3 := bl2 hb3 (by repeat (first | assumption | exact Below.refl _ _ | refine Below.setCell ?_ (by first | exact Nat.le_refl _ | (simp; done) | (simp; omega) | omega) _ | refine Below.alloc ?_ (by first | exact Nat.le_refl _ | (simp; done) | (simp; omega) | omega) _ | refine Below.drew ?_ | exact Nat.le_refl _))
  clear hb3 xc2 xd2 xe2 n2c n2d n2f n2g
  go_wp2_with fail
  refine (C3.out _).mono ?_
  rintro e w4 ⟨rfl, hb4⟩
  obtain ⟨n4c, n4d, n4f, n4g⟩ := later2 hb4 (g := w1.heap.size) (u := .int .i64 (hi n)) (v := .int .u64 (lo n)) (by simp [go_sem, *]) (by simp [go_sem, *]) (by simp [go_sem, *]) (by simp [go_sem, *])
  have n4z : w1.heap.size < w4.heap.size := World.block_lt_of_cell? _ _ n4c
  obtain ⟨x4c, x4d, x4f, x4g⟩ := later2 hb4 (g := w2.heap.size) (u := .int .i64 (hi x)) (v := .int .u64 (lo x)) (by simp [go_sem, *]) (by simp [go_sem, *]) (by simp [go_sem, *]) (by simp [go_sem, *])
  have x4z : w2.heap.size < w4.heap.size := World.block_lt_of_cell? _ _ x4c
  obtain ⟨y4c, y4d, y4f, y4g⟩ := later2 hb4 (g := w3.heap.size) (u := .int .i64 (hi y)) (v := .int .u64 (lo y)) (by simp [go_sem, *]) (by simp [go_sem, *]) (by simp [go_sem, *]) (by simp [go_sem, *])
  have y4z : w3.heap.size < w4.heap.size := World.block_lt_of_cell? _ _ y4c
  have b4 : Below w.heap.size w w4 := bl2 hb4 (by repeat (first | assumption | exact Below.refl _ _ | refine Below.setCell ?_ (by first | exact Nat.le_refl _ | (simp; done) | (simp; omega) | omega) _ | refine Below.alloc ?_ (by first | exact Nat.le_refl _ | (simp; done) | (simp; omega) | omega) _ | refine Below.drew ?_ | exact Nat.le_refl _))
  clear hb4 xc3 xd3 xe3 n3c n3d n3f n3g x3c x3d x3f x3g
  go_wp2_with fail
  refine (A1.out _).mono ?_
  rintro e w5 ⟨rfl, hb5⟩
  obtain ⟨n5c, n5d, n5f, n5g⟩ := later2 hb5 (g := w1.heap.size) (u := .int .i64 (hi n)) (v := .int .u64 (lo n)) (by simp [go_sem, *]) (by simp [go_sem, *]) (by simp [go_sem, *]) (by simp [go_sem, *])
  have n5z : w1.heap.size < w5.heap.size := World.block_lt_of_cell? _ _ n5c
  obtain ⟨z5c, z5d, z5f, z5g⟩ := later2 hb5 (g := w4.heap.size) (u := .int .i64 (hi z)) (v := .int .u64 (lo z)) (by simp [go_sem, *]) (by simp [go_sem, *]) (by simp [go_sem, *]) (by simp [go_sem, *])
  have z5z : w4.heap.size < w5.heap.size := World.block_lt_of_cell? _ _ z5c
  have b5 : Below w.heap.size w w5 := bl2 hb5 (by repeat (first | assumption | exact Below.refl _ _ | refine Below.setCell ?_ (by first | exact Nat.le_refl _ | (simp; done) | (simp; omega) | omega) _ | refine Below.alloc ?_ (by first | exact Nat.le_refl _ | (simp; done) | (simp; omega) | omega) _ | refine Below.drew ?_ | exact Nat.le_refl _))
  clear hb5 n4c n4d n4f n4g x4c x4d x4f x4g y4c y4d y4f y4g
  go_wp2_with fail
  refine (A2.out _).mono ?_
  rintro e w6 ⟨rfl, hb6⟩
  obtain ⟨n6c, n6d, n6f, n6g⟩ := later2 hb6 (g := w1.heap.size) (u := .int .i64 (hi n)) (v := .int .u64 (lo n)) (by simp [go_sem, *]) (by simp [go_sem, *]) (by simp [go_sem, *]) (by simp [go_sem, *])
  have n6z : w1.heap.size < w6.heap.size := World.block_lt_of_cell? _ _ n6c
  obtain ⟨s6c, s6d, s6f, s6g⟩ := later2 hb6 (g := w5.heap.size) (u := .int .i64 (hi n)) (v := .int .u64 (lo n)) (by simp [go_sem, *]) (by simp [go_sem, *]) (by simp [go_sem, *]) (by simp [go_sem, *])
  have s6z : w5.heap.size < w6.heap.size := World.block_lt_of_cell? _ _ s6c
  have b6 : Below w.heap.size w w6 := bl2 hb6 (by repeat (first | assumption | exact Below.refl _ _ | refine Below.setCell ?_ (by first | exact Nat.le_refl _ | (simp; done) | (simp; omega) | omega) _ | refine Below.alloc ?_ (by first | exact Nat.le_refl _ | (simp; done) | (simp; omega) | omega) _ | refine Below.drew ?_ | exact Nat.le_refl _))
  clear hb6 n5c n5d n5f n5g z5c z5d z5f z5g
  go_wp2_with fail
  refine (lives_any _).mono ?_
  rintro e w7 ⟨rfl, hb7⟩
  have b7 : Below w.heap.size w w7 := bl2 hb7 (by repeat (first | assumption | exact Below.refl _ _ | refine Below.setCell ?_ (by first | exact Nat.le_refl _ | (simp; done) | (simp; omega) | omega) _ | refine Below.alloc ?_ (by first | exact Nat.le_refl _ | (simp; done) | (simp; omega) | omega) _ | refine Below.drew ?_ | exact Nat.le_refl _))
  clear hb7
  go_wp2_with fail
  go_ret
  exact ⟨rfl, b7⟩

theorem splits_walk (b p s f m t : Int) (_ : (Lit.int .i64 b).wf = true) (_ : (Lit.int .i64 p).wf = true) (_ : (Lit.int .i64 s).wf = true) (_ : (Lit.int .i64 f).wf = true) (_ : (Lit.int .i64 m).wf = true) (_ : (Lit.int .i64 t).wf = true) (w : World) :
    Calls Try.prog 8 #[.agg #[.int .i64 b, .int .i64 p, .int .i64 s], .int .i64 f, .int .i64 m, .int .i64 t] w fun e w' => e = .returned (.bool true) ∧ Below w.heap.size w w' := by
  by_cases h : intOk b p s f t
  · by_cases hm : m < f ∨ (f ≤ m ∧ t < m)
    · exact splits_out b p s f m t w h hm
    · exact splits_yes b p s f m t w h (by omega) (by omega)
  · exact splits_no b p s f m t w h
end Go.Proofs.Ytjhhjpcljcnkaaa.Dt
