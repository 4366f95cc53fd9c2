/-
  The contracts of the reference's Of and of daycount.Interest.
-/
import Derived.Test.YtjhhjpcljcnkaaaWide6
import Derived.Test.YtjhhjpcljcnkaaaDct
namespace Go.Proofs.Ytjhhjpcljcnkaaa.Dt
open Go.RowKit
open Go.Proofs.Ytjhhjpcljcnkaaa
open Go.Proofs.Ytjhhjpcljcnkaaa.Cal Go.Proofs.Ytjhhjpcljcnkaaa.Wm Go.Proofs.Ytjhhjpcljcnkaaa.Wt

theorem of_neg {n : Int} (hn : I64 n) (h : n < 0) : IntKind.u64.wrap n = lo n ∧ hi n = -1 := by
  rw [IntKind.wrap_u64]; unfold I64 at hn; unfold lo hi; omega
theorem of_pos {n : Int} (hn : I64 n) (h : 0 ≤ n) : IntKind.u64.wrap n = lo n ∧ hi n = 0 := by
  rw [IntKind.wrap_u64]; unfold I64 at hn; unfold lo hi; omega
theorem rof_any (n : Int) (w : World) (hn : I64 n) : Calls Try.prog 30 #[.int .i64 n] w fun e w' => e = .returned (.agg #[.int .i64 (hi n), .int .u64 (lo n)]) ∧ Below w.heap.size w w' := by
  by_cases h : n < 0
  · obtain ⟨h1, h2⟩ := of_neg hn h
    rw [← h1, h2]
    clear h1 h2
    go_enter Try.func30, Try.ntmps30
    go_wp2
    simp [bodyPost, results, Try.results30, go_sem]
    exact (by repeat (first | assumption | exact Below.refl _ _ | refine Below.setCell ?_ (by first | exact Nat.le_refl _ | (simp; done) | (simp; omega) | omega) _ | refine Below.alloc ?_ (by first | exact Nat.le_refl _ | (simp; done) | (simp; omega) | omega) _ | refine Below.drew ?_ | exact Nat.le_refl _))
  · obtain ⟨h1, h2⟩ := of_pos hn (by omega)
    rw [← h1, h2]
    clear h1 h2
    go_enter Try.func30, Try.ntmps30
    go_wp2
    simp [bodyPost, results, Try.results30, go_sem]
    exact (by repeat (first | assumption | exact Below.refl _ _ | refine Below.setCell ?_ (by first | exact Nat.le_refl _ | (simp; done) | (simp; omega) | omega) _ | refine Below.alloc ?_ (by first | exact Nat.le_refl _ | (simp; done) | (simp; omega) | omega) _ | refine Below.drew ?_ | exact Nat.le_refl _))

/-- The arguments that Interest takes. -/
def intOk (b p s f t : Int) : Prop := (-1000000000000 ≤ b ∧ b ≤ 1000000000000) ∧ (0 ≤ p ∧ p ≤ 1000000) ∧ (1 ≤ s ∧ s ≤ 4) ∧ (0 ≤ f ∧ f ≤ 73048) ∧ (0 ≤ t ∧ t ≤ 73048) ∧ f ≤ t
theorem intOk_mul {b p s f t : Int} (h : intOk b p s f t) : -1000000000000000000 ≤ b * p ∧ b * p ≤ 1000000000000000000 := by
  obtain ⟨⟨h1, h2⟩, ⟨h3, h4⟩, _⟩ := h
  have a1 : b * p ≤ 1000000000000 * p := Int.mul_le_mul_of_nonneg_right h2 h3
  have a2 : -1000000000000 * p ≤ b * p := Int.mul_le_mul_of_nonneg_right h1 h3
  omega
theorem sumv_bd (b f t : Int) : -4000000000 ≤ sumv b f t ∧ sumv b f t ≤ 4000000000 := by
  unfold sumv; split
  · next h =>
      have := cw_bd b f h.2.1 (by omega)
      have := cw_bd b t (by omega) h.2.2.2
      omega
  · omega
theorem intOk_all {b p s f t : Int} (h : intOk b p s f t) : I64 b ∧ I64 p ∧ I64 (sumv s f t) ∧ I128 (b * p) ∧ I128 (b * p * sumv s f t) := by
  have hm := intOk_mul h
  have hs := sumv_bd s f t
  obtain ⟨⟨h1, h2⟩, ⟨h3, h4⟩, _⟩ := h
  generalize b * p = m at *
  generalize sumv s f t = v at *
  refine ⟨by unfold I64; omega, by unfold I64; omega, by unfold I64; omega, by unfold I128; omega, ?_⟩
  have h1 := (mul_bd (a := m) (b := v) (by unfold I64; omega) (by unfold I64; omega)).1
  exact h1

theorem interest_yes (b p s f t : Int) (w : World) (h : intOk b p s f t) :
    Calls Try.prog 21 #[.int .i64 b, .int .i64 p, .int .i64 s, .int .i64 f, .int .i64 t] w fun e w' => e = .returned (.tuple #[.agg #[.int .i64 (hi (b * p * sumv s f t)), .int .u64 (lo (b * p * sumv s f t))], .int .i64 0]) ∧ Below w.heap.size w w' := by
  obtain ⟨k1, k2, k3, k4, k5⟩ := intOk_all h
  obtain ⟨⟨h1, h2⟩, ⟨h3, h4⟩, ⟨h5, h6⟩, ⟨h7, h8⟩, ⟨h9, h10⟩, h11⟩ := h
  have HF := Lib.hid (fit_in k5)
  have HO := Lib.hid (ovf_in k5)
  go_enter Try.func21, Try.ntmps21
  go_wp2_with fail
  refine (bvalid_yes _ _ h5 h6).mono ?_
  rintro e w' ⟨rfl, rfl⟩
  go_wp2_with fail
  refine (valid_yes _ _ h7 h8).mono ?_
  rintro e w' ⟨rfl, rfl⟩
  go_wp2_with fail
  refine (valid_yes _ _ h9 h10).mono ?_
  rintro e w' ⟨rfl, rfl⟩
  go_wp2_with fail
  refine (mul_any _ _ _ k1 k2).mono ?_
  rintro e w1 ⟨rfl, hb1⟩
  obtain ⟨cc, cd, cf, cg⟩ := later2 hb1 (g := w.heap.size) (u := .int .i64 0) (v := .int .u64 0) (by simp [go_sem]) (by simp [go_sem]) (by simp [go_sem]) (by simp [go_sem])
  have cz : w.heap.size < w1.heap.size := World.block_lt_of_cell? _ _ cc
  have b1 : Below w.heap.size w w1 := bl2 hb1 (by repeat (first | assumption | exact Below.refl _ _ | refine Below.setCell ?_ (by first | exact Nat.le_refl _ | (simp; done) | (simp; omega) | omega) _ | refine Below.alloc ?_ (by first | exact Nat.le_refl _ | (simp; done) | (simp; omega) | omega) _ | refine Below.drew ?_ | exact Nat.le_refl _))
  have z1 := hb1.size
  try simp at z1
  clear hb1
  go_wp2_with fail
  refine (sum_any _ _ _ _).mono ?_
  rintro e w2 ⟨rfl, hb2⟩
  obtain ⟨dc, dd, df, dg⟩ := later2 hb2 (g := w.heap.size) (u := .int .i64 0) (v := .int .u64 0) (by simp [go_sem, *]) (by simp [go_sem, *]) (by simp [go_sem, *]) (by simp [go_sem, *])
  have dz : w.heap.size < w2.heap.size := World.block_lt_of_cell? _ _ dc
  have b2 : Below w.heap.size w w2 := bl2 hb2 (by repeat (first | assumption | exact Below.refl _ _ | refine Below.setCell ?_ (by first | exact Nat.le_refl _ | (simp; done) | (simp; omega) | omega) _ | refine Below.alloc ?_ (by first | exact Nat.le_refl _ | (simp; done) | (simp; omega) | omega) _ | refine Below.drew ?_ | exact Nat.le_refl _))
  have z2 := hb2.size
  try simp at z2
  clear hb2
  clear cc cd cf cg
  go_wp2_with fail
  refine (scale_any _ _ _ k4 k3).mono ?_
  rw [HF.out, HO.out]
  rintro e w3 ⟨rfl, hb3⟩
  obtain ⟨ec, ed, ef, eg⟩ := later2 hb3 (g := w.heap.size) (u := .int .i64 0) (v := .int .u64 0) (by simp [go_sem, *]) (by simp [go_sem, *]) (by simp [go_sem, *]) (by simp [go_sem, *])
  have ez : w.heap.size < w3.heap.size := World.block_lt_of_cell? _ _ ec
  have b3 : Below w.heap.size w w3 := bl2 hb3 (by repeat (first | assumption | exact Below.refl _ _ | refine Below.setCell ?_ (by first | exact Nat.le_refl _ | (simp; done) | (simp; omega) | omega) _ | refine Below.alloc ?_ (by first | exact Nat.le_refl _ | (simp; done) | (simp; omega) | omega) _ | refine Below.drew ?_ | exact Nat.le_refl _))
  have z3 := hb3.size
  try simp at z3
  clear hb3
  clear dc dd df dg
  go_wp2_with fail
  simp [bodyPost, results, Try.results21, go_sem, ec, ed, ez]
  exact (by repeat (first | assumption | exact Below.refl _ _ | refine Below.setCell ?_ (by first | exact Nat.le_refl _ | (simp; done) | (simp; omega) | omega) _ | refine Below.alloc ?_ (by first | exact Nat.le_refl _ | (simp; done) | (simp; omega) | omega) _ | refine Below.drew ?_ | exact Nat.le_refl _))
end Go.Proofs.Ytjhhjpcljcnkaaa.Dt
