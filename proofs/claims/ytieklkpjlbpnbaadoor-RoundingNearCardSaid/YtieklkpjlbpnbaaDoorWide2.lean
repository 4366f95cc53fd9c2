/-
  The contracts of package wide's absolute, times, signed: said of numbers of two words.
-/
import Derived.Test.YtieklkpjlbpnbaaDoorWide
namespace Go.Proofs.YtieklkpjlbpnbaaDoor.Wt
open Go.RowKit
open Go.Proofs.YtieklkpjlbpnbaaDoor.Wm

theorem absneg_hi {x : Int} (hx : I128 x) (h : x < 0) : IntKind.u64.wrap (hi (nw x)) = hi (ab x) := by
  rw [ab_neg h, IntKind.wrap_u64]; unfold I128 at hx; unfold nw hi; split <;> omega
theorem absneg_lo {x : Int} (h : x < 0) : lo (nw x) = lo (ab x) := by
  rw [ab_neg h]; unfold nw lo; split <;> omega
theorem abspos_hi {x : Int} (hx : I128 x) (h : 0 ≤ x) : IntKind.u64.wrap (hi x) = hi (ab x) := by
  rw [ab_pos h, IntKind.wrap_u64]; unfold I128 at hx; unfold hi; omega

theorem later2 {W w1 : World} (hb : Below W.heap.size W w1) {g : Nat} {u v : Value} (h0 : W.cell? ⟨g, 0, none⟩ = some u) (h1 : W.cell? ⟨g, 1, none⟩ = some v) (f0 : W.frozen? ⟨g, 0, none⟩ = false) (f1 : W.frozen? ⟨g, 1, none⟩ = false) :
    w1.cell? ⟨g, 0, none⟩ = some u ∧ w1.cell? ⟨g, 1, none⟩ = some v ∧ w1.frozen? ⟨g, 0, none⟩ = false ∧ w1.frozen? ⟨g, 1, none⟩ = false :=
  ⟨cell_later hb h0, cell_later hb h1, (hb.frozen (World.block_lt_of_cell? _ _ h0)).trans f0, (hb.frozen (World.block_lt_of_cell? _ _ h1)).trans f1⟩

theorem bl2 {w W w1 : World} (hb : Below W.heap.size W w1) (h : Below w.heap.size w W) : Below w.heap.size w w1 := h.trans (hb.mono h.size)

theorem absolute_any (x : Int) (w : World) (hx : I128 x) : Calls Tryd.prog 50 #[.agg #[.int .i64 (hi x), .int .u64 (lo x)]] w fun e w' => e = .returned (.agg #[.int .u64 (hi (ab x)), .int .u64 (lo (ab x))]) ∧ Below w.heap.size w w' := by
  by_cases h : x < 0
  · have H1 := Lib.hid (absneg_hi hx h)
    have H2 := Lib.hid (absneg_lo h)
    have hneg : hi x < 0 := (hi_neg x).2 h
    clear h
    go_enter Tryd.func50, Tryd.ntmps50
    go_wp2_with fail
    refine (negate_any x _ hx).mono ?_
    rintro e w1 ⟨rfl, hb1⟩
    obtain ⟨cc, cd, cf, cg⟩ := later2 hb1 (g := w.heap.size) (u := .int .i64 (hi x)) (v := .int .u64 (lo x)) (by simp [go_sem]) (by simp [go_sem]) (by simp [go_sem]) (by simp [go_sem])
    have cz : w.heap.size < w1.heap.size := World.block_lt_of_cell? _ _ cc
    obtain ⟨dc, dd, df, dg⟩ := later2 hb1 (g := w.heap.size + 1) (u := .int .u64 0) (v := .int .u64 0) (by simp [go_sem]) (by simp [go_sem]) (by simp [go_sem]) (by simp [go_sem])
    have dz : w.heap.size + 1 < w1.heap.size := World.block_lt_of_cell? _ _ dc
    have b1 : Below w.heap.size w w1 := bl2 hb1 (by repeat (first | assumption | exact Below.refl _ _ | refine Below.setCell ?_ (by first | exact Nat.le_refl _ | (simp; done) | (simp; omega) | omega) _ | refine Below.alloc ?_ (by first | exact Nat.le_refl _ | (simp; done) | (simp; omega) | omega) _ | refine Below.drew ?_ | exact Nat.le_refl _))
    have z1 := hb1.size
    try simp at z1
    clear hb1
    go_wp2_with fail
    simp [bodyPost, results, Tryd.results50, go_sem, dc, dd]
    exact ⟨⟨H1.out, H2.out⟩, (by repeat (first | assumption | exact Below.refl _ _ | refine Below.setCell ?_ (by first | exact Nat.le_refl _ | (simp; done) | (simp; omega) | omega) _ | refine Below.alloc ?_ (by first | exact Nat.le_refl _ | (simp; done) | (simp; omega) | omega) _ | refine Below.drew ?_ | exact Nat.le_refl _))⟩
  · have hp : 0 ≤ x := by omega
    have H1 := Lib.hid (abspos_hi hx hp)
    have H2 := Lib.hid (show lo x = lo (ab x) by rw [ab_pos hp])
    have hneg : 0 ≤ hi x := by have := hi_neg x; omega
    clear h
    go_enter Tryd.func50, Tryd.ntmps50
    go_wp2_with fail
    simp [bodyPost, results, Tryd.results50, go_sem]
    exact ⟨⟨H1.out, H2.out⟩, (by repeat (first | assumption | exact Below.refl _ _ | refine Below.setCell ?_ (by first | exact Nat.le_refl _ | (simp; done) | (simp; omega) | omega) _ | refine Below.alloc ?_ (by first | exact Nat.le_refl _ | (simp; done) | (simp; omega) | omega) _ | refine Below.drew ?_ | exact Nat.le_refl _))⟩

theorem times_yes (m n r : Int) (w : World) (hm : U128 m) (hn : U64 n) (hr : U64 r) (h : m * n + r ≤ 340282366920938463463374607431768211455) :
    Calls Tryd.prog 52 #[.agg #[.int .u64 (hi m), .int .u64 (lo m)], .int .u64 n, .int .u64 r] w fun e w' => e = .returned (.tuple #[.agg #[.int .u64 (hi (m * n + r)), .int .u64 (lo (m * n + r))], .bool true]) ∧ Below w.heap.size w w' := by
  obtain ⟨q1, q2, q3, q4⟩ := times_ok hm hn hr h
  obtain ⟨s0, s1⟩ := tsum_bd (m := m) hn hr
  have H1 := Lib.hid q1
  have H2 := Lib.hid q2
  have H3 := Lib.hid q3
  have H4 := Lib.hid q4
  have t1 : (hi (hi m * n) == 0) = true := by rw [q1]; rfl
  have t2 : (hi (lo (hi m * n) + (hi (lo m * n) + hi (lo (lo m * n) + r))) == 0) = true := by unfold tsum at q2; rw [q2]; rfl
  unfold tsum at s0 s1
  have l0 := (lo_bd (lo m * n)).1
  have l1 := (lo_bd (hi m * n)).1
  clear q1 q2 q3 q4 h
  have a1 := fun w => add64_0 (lo (lo m * n)) r l0 hr.1 w
  have a2 := fun w => add64_0 (lo (hi m * n)) (hi (lo m * n) + hi (lo (lo m * n) + r)) l1 s0 w
  go_enter Tryd.func52, Tryd.ntmps52
  go_wp2_with fail
  refine (mul64 _ _ (lo_bd m) hn _).mono ?_
  rintro e w' ⟨rfl, rfl⟩
  go_wp2_with fail
  refine (mul64 _ _ (hi_bdu hm) hn _).mono ?_
  rintro e w' ⟨rfl, rfl⟩
  go_wp2_with fail
  simp [bodyPost, results, Tryd.results52, go_sem]
  exact ⟨⟨H3.out, H4.out⟩, (by repeat (first | assumption | exact Below.refl _ _ | refine Below.setCell ?_ (by first | exact Nat.le_refl _ | (simp; done) | (simp; omega) | omega) _ | refine Below.alloc ?_ (by first | exact Nat.le_refl _ | (simp; done) | (simp; omega) | omega) _ | refine Below.drew ?_ | exact Nat.le_refl _))⟩
/-- Too large: the number that comes with it is left open. -/
def NoFit (w : World) (e : Ending) (w' : World) : Prop := ∃ a b : Int, e = .returned (.tuple #[.agg #[.int .u64 a, .int .u64 b], .bool false]) ∧ U64 a ∧ U64 b ∧ Below w.heap.size w w'
theorem times_not (m n r : Int) (w : World) (hm : U128 m) (hn : U64 n) (hr : U64 r) (h : 340282366920938463463374607431768211455 < m * n + r) :
    Calls Tryd.prog 52 #[.agg #[.int .u64 (hi m), .int .u64 (lo m)], .int .u64 n, .int .u64 r] w (NoFit w) := by
  have q := times_no hm hn hr h
  obtain ⟨s0, s1⟩ := tsum_bd (m := m) hn hr
  unfold tsum at s0 s1 q
  have l0 := (lo_bd (lo m * n)).1
  have l1 := (lo_bd (hi m * n)).1
  have a1 := fun w => add64_0 (lo (lo m * n)) r l0 hr.1 w
  have a2 := fun w => add64_0 (lo (hi m * n)) (hi (lo m * n) + hi (lo (lo m * n) + r)) l1 s0 w
  by_cases q1 : hi (hi m * n) = 0
  · have t1 : (hi (hi m * n) == 0) = true := by rw [q1]; rfl
    have t2 : (hi (lo (hi m * n) + (hi (lo m * n) + hi (lo (lo m * n) + r))) == 0) = false := by
      rcases q with q | q
      · exact absurd q1 q
      · simpa using q
    clear q q1 h
    go_enter Tryd.func52, Tryd.ntmps52
    go_wp2_with fail
    refine (mul64 _ _ (lo_bd m) hn _).mono ?_
    rintro e w' ⟨rfl, rfl⟩
    go_wp2_with fail
    refine (mul64 _ _ (hi_bdu hm) hn _).mono ?_
    rintro e w' ⟨rfl, rfl⟩
    go_wp2_with fail
    simp [bodyPost, results, Tryd.results52, go_sem]
    exact ⟨_, _, rfl, lo_bd _, lo_bd _, (by repeat (first | assumption | exact Below.refl _ _ | refine Below.setCell ?_ (by first | exact Nat.le_refl _ | (simp; done) | (simp; omega) | omega) _ | refine Below.alloc ?_ (by first | exact Nat.le_refl _ | (simp; done) | (simp; omega) | omega) _ | refine Below.drew ?_ | exact Nat.le_refl _))⟩
  · have t1 : (hi (hi m * n) == 0) = false := by simpa using q1
    clear q q1 h
    go_enter Tryd.func52, Tryd.ntmps52
    go_wp2_with fail
    refine (mul64 _ _ (lo_bd m) hn _).mono ?_
    rintro e w' ⟨rfl, rfl⟩
    go_wp2_with fail
    refine (mul64 _ _ (hi_bdu hm) hn _).mono ?_
    rintro e w' ⟨rfl, rfl⟩
    go_wp2_with fail
    simp [bodyPost, results, Tryd.results52, go_sem]
    exact ⟨_, _, rfl, lo_bd _, lo_bd _, (by repeat (first | assumption | exact Below.refl _ _ | refine Below.setCell ?_ (by first | exact Nat.le_refl _ | (simp; done) | (simp; omega) | omega) _ | refine Below.alloc ?_ (by first | exact Nat.le_refl _ | (simp; done) | (simp; omega) | omega) _ | refine Below.drew ?_ | exact Nat.le_refl _))⟩
end Go.Proofs.YtieklkpjlbpnbaaDoor.Wt
