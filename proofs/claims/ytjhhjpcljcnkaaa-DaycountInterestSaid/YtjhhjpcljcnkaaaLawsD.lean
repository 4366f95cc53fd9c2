/-
  The walk of the statement DaycountInterest: it returns true, for every argument.
-/
import Derived.Test.YtjhhjpcljcnkaaaRInt
namespace Go.Proofs.Ytjhhjpcljcnkaaa.Dt
open Go.RowKit
open Go.Proofs.Ytjhhjpcljcnkaaa
open Go.Proofs.Ytjhhjpcljcnkaaa.Cal Go.Proofs.Ytjhhjpcljcnkaaa.Wm Go.Proofs.Ytjhhjpcljcnkaaa.Wt

/-- Both Interests, at one set of arguments. -/
theorem both_interests (b p s f t : Int) : ∃ (h l e : Int),
    (∀ W : World, Calls Try.prog 21 #[.int .i64 b, .int .i64 p, .int .i64 s, .int .i64 f, .int .i64 t] W fun en w' => en = .returned (.tuple #[.agg #[.int .i64 h, .int .u64 l], .int .i64 e]) ∧ Below W.heap.size W w') ∧
    (∀ W : World, Calls Try.prog 22 #[.int .i64 b, .int .i64 p, .int .i64 s, .int .i64 f, .int .i64 t] W fun en w' => en = .returned (.tuple #[.agg #[.int .i64 h, .int .u64 l], .int .i64 e]) ∧ Below W.heap.size W w') := by
  by_cases h : intOk b p s f t
  · exact ⟨_, _, _, fun W => interest_yes b p s f t W h, fun W => rinterest_yes b p s f t W h⟩
  · exact ⟨_, _, _, fun W => interest_no b p s f t W h, fun W => rinterest_no b p s f t W h⟩

theorem interest_walk (b p s f t : Int) (_ : (Lit.int .i64 b).wf = true) (_ : (Lit.int .i64 p).wf = true) (_ : (Lit.int .i64 s).wf = true) (_ : (Lit.int .i64 f).wf = true) (_ : (Lit.int .i64 t).wf = true) (w : World) :
    Calls Try.prog 7 #[.agg #[.int .i64 b, .int .i64 p, .int .i64 s], .int .i64 f, .int .i64 t] w fun e w' => e = .returned (.bool true) ∧ Below w.heap.size w w' := by
  obtain ⟨h, l, er, i1, i2⟩ := both_interests b p s f t
  have I1 := Lib.hid i1
  have I2 := Lib.hid i2
  clear i1 i2
  go_enter Try.func7, Try.ntmps7
  go_wp2_with fail
  refine (near_any _ _ _).mono ?_
  rintro e w' ⟨n, rfl, rfl⟩
  cases n
  · go_wp2_with fail
    refine (lives_any _).mono ?_
    rintro e w1 ⟨rfl, hb1⟩
    have b1 : Below w.heap.size w w1 := bl2 hb1 (by repeat (first | assumption | exact Below.refl _ _ | refine Below.setCell ?_ (by first | exact Nat.le_refl _ | (simp; done) | (simp; omega) | omega) _ | refine Below.alloc ?_ (by first | exact Nat.le_refl _ | (simp; done) | (simp; omega) | omega) _ | refine Below.drew ?_ | exact Nat.le_refl _))
    have z1 := hb1.size
    try simp at z1
    clear hb1
    go_wp2_with fail
    go_ret
    exact ⟨rfl, b1⟩
  · go_wp2_with fail
    refine (I1.out _).mono ?_
    rintro e w1 ⟨rfl, hb1⟩
    have xc : w1.cell? ⟨w.heap.size, 0, none⟩ = some (.int .i64 b) := cell_later hb1 (by simp [go_sem])
    have xd : w1.cell? ⟨w.heap.size, 1, none⟩ = some (.int .i64 p) := cell_later hb1 (by simp [go_sem])
    have xe : w1.cell? ⟨w.heap.size, 2, none⟩ = some (.int .i64 s) := cell_later hb1 (by simp [go_sem])
    have xz : w.heap.size < w1.heap.size := World.block_lt_of_cell? _ _ xc
    have b1 : Below w.heap.size w w1 := bl2 hb1 (by repeat (first | assumption | exact Below.refl _ _ | refine Below.setCell ?_ (by first | exact Nat.le_refl _ | (simp; done) | (simp; omega) | omega) _ | refine Below.alloc ?_ (by first | exact Nat.le_refl _ | (simp; done) | (simp; omega) | omega) _ | refine Below.drew ?_ | exact Nat.le_refl _))
    have z1 := hb1.size
    try simp at z1
    clear hb1
    go_wp2_with fail
    refine (I2.out _).mono ?_
    rintro e w2 ⟨rfl, hb2⟩
    obtain ⟨n2c, n2d, n2f, n2g⟩ := later2 hb2 (g := w1.heap.size) (u := .int .i64 h) (v := .int .u64 l) (by simp [go_sem, *]) (by simp [go_sem, *]) (by simp [go_sem, *]) (by simp [go_sem, *])
    have n2z : w1.heap.size < w2.heap.size := World.block_lt_of_cell? _ _ n2c
    have b2 : Below w.heap.size w w2 := bl2 hb2 (by repeat (first | assumption | exact Below.refl _ _ | refine Below.setCell ?_ (by first | exact Nat.le_refl _ | (simp; done) | (simp; omega) | omega) _ | refine Below.alloc ?_ (by first | exact Nat.le_refl _ | (simp; done) | (simp; omega) | omega) _ | refine Below.drew ?_ | exact Nat.le_refl _))
    clear hb2 xc xd xe
    go_wp2_with fail
    refine (lives_any _).mono ?_
    rintro e w3 ⟨rfl, hb3⟩
    have b3 : Below w.heap.size w w3 := bl2 hb3 (by repeat (first | assumption | exact Below.refl _ _ | refine Below.setCell ?_ (by first | exact Nat.le_refl _ | (simp; done) | (simp; omega) | omega) _ | refine Below.alloc ?_ (by first | exact Nat.le_refl _ | (simp; done) | (simp; omega) | omega) _ | refine Below.drew ?_ | exact Nat.le_refl _))
    clear hb3
    go_wp2_with fail
    go_ret
    exact ⟨rfl, b3⟩
end Go.Proofs.Ytjhhjpcljcnkaaa.Dt
