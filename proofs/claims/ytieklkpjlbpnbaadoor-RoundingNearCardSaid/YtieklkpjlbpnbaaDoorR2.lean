/-
  The contract of the reference's Join: the number with a sign and a magnitude, or false.
-/
import Derived.Test.YtieklkpjlbpnbaaDoorR1
namespace Go.Proofs.YtieklkpjlbpnbaaDoor.Wt
open Go.RowKit
open Go.Proofs.YtieklkpjlbpnbaaDoor
open Go.Proofs.YtieklkpjlbpnbaaDoor.Wm

/-- A number that is left open, and false. -/
def NoJoin (w : World) (e : Ending) (w' : World) : Prop := ∃ a b : Int, e = .returned (.tuple #[.agg #[.int .i64 a, .int .u64 b], .bool false]) ∧ Below w.heap.size w w'

section
attribute [local go_sem] u64_signed i64_signed xor_u64 xor_i64
theorem join_pos (m : Int) (w : World) (h0 : 0 ≤ m) (h : m ≤ 170141183460469231731687303715884105727) :
    Calls Tryd.prog 49 #[.bool false, .agg #[.int .u64 (hi m), .int .u64 (lo m)]] w fun e w' => e = .returned (.tuple #[.agg #[.int .i64 (hi m), .int .u64 (lo m)], .bool true]) ∧ Below w.heap.size w w' := by
  obtain ⟨k1, k0⟩ := sg_lt h0 h
  clear h h0
  go_enter Tryd.func49, Tryd.ntmps49
  go_wp2_with fail
  go_region
  go_wp2_with fail
  simp [bodyPost, results, Tryd.results49, go_sem]
  exact (by repeat (first | assumption | exact Below.refl _ _ | refine Below.setCell ?_ (by first | exact Nat.le_refl _ | (simp; done) | (simp; omega) | omega) _ | refine Below.alloc ?_ (by first | exact Nat.le_refl _ | (simp; done) | (simp; omega) | omega) _ | refine Below.drew ?_ | exact Nat.le_refl _))
theorem join_pos_no (m : Int) (w : World) (h0 : U128 m) (h : 170141183460469231731687303715884105727 < m) :
    Calls Tryd.prog 49 #[.bool false, .agg #[.int .u64 (hi m), .int .u64 (lo m)]] w (NoJoin w) := by
  have k1 : 9223372036854775808 ≤ hi m := by unfold hi; omega
  have k2 := (hi_bdu h0).2
  clear h h0
  go_enter Tryd.func49, Tryd.ntmps49
  go_wp2_with fail
  go_region
  go_wp2_with fail
  simp [bodyPost, results, Tryd.results49, go_sem]
  exact ⟨_, _, by first | rfl | rw [decide_eq_false (by omega)], (by repeat (first | assumption | exact Below.refl _ _ | refine Below.setCell ?_ (by first | exact Nat.le_refl _ | (simp; done) | (simp; omega) | omega) _ | refine Below.alloc ?_ (by first | exact Nat.le_refl _ | (simp; done) | (simp; omega) | omega) _ | refine Below.drew ?_ | exact Nat.le_refl _))⟩

theorem jn_lo (m : Int) : IntKind.u64.wrap (nt (lo m) + 1) = lo (-m) := by rw [IntKind.wrap_u64]; unfold nt lo; omega
theorem jn_hi0 {m : Int} (hm : 0 ≤ m ∧ m ≤ 170141183460469231731687303715884105728) (hl : lo (-m) = 0) : wrap64 (IntKind.u64.wrap (nt (hi m) + 1)) = hi (-m) := by
  rw [IntKind.wrap_u64]; unfold nt; unfold lo at hl; unfold hi wrap64; omega
theorem jn_hi1 {m : Int} (hm : 0 ≤ m ∧ m ≤ 170141183460469231731687303715884105728) (hl : lo (-m) ≠ 0) : wrap64 (nt (hi m)) = hi (-m) := by
  unfold nt; unfold lo at hl; unfold hi wrap64; omega

theorem join_neg (m : Int) (w : World) (h0 : 0 ≤ m) (h : m ≤ 170141183460469231731687303715884105727) :
    Calls Tryd.prog 49 #[.bool true, .agg #[.int .u64 (hi m), .int .u64 (lo m)]] w fun e w' => e = .returned (.tuple #[.agg #[.int .i64 (hi (-m)), .int .u64 (lo (-m))], .bool true]) ∧ Below w.heap.size w w' := by
  obtain ⟨k1, k0⟩ := sg_lt h0 h
  have H1 := Lib.hid (jn_lo m)
  by_cases hl : lo (-m) = 0
  · have H2 := Lib.hid (jn_hi0 ⟨h0, by omega⟩ hl)
    have t1 : (IntKind.u64.wrap (nt (lo m) + 1) == 0) = true := by rw [jn_lo, hl]; rfl
    clear h h0 hl
    go_enter Tryd.func49, Tryd.ntmps49
    go_wp2_with fail
    refine Reg.region_quiet (by kernel_rfl) (by kernel_rfl) ?_
    iterate 9 (first | go_big_quiet_skip | (go_big_quiet_want; (first | (go_big_quiet_op; go_big_quiet_on) | (apply Reg.quiet_run; (intro W hW; have q1 := hW.cell (a := ⟨w.heap.size, 0, none⟩) (v := .int .u64 (hi m)) (by simp [go_sem]); have q2 := hW.cell (a := ⟨w.heap.size, 1, none⟩) (v := .int .u64 (lo m)) (by simp [go_sem]); go_simp; (first | done | rfl | exact ⟨rfl, rfl⟩ )); (simp only [Act.put, List.setIfInBounds_toArray, List.set_cons_zero, List.set_cons_succ]; go_big_quiet_on)) | (apply Reg.quiet_call; (intro W hW; go_simp; (first | done | rfl | exact ⟨rfl, rfl⟩)); (intro W hW; (first | skip)); (simp only [Act.put, List.setIfInBounds_toArray, List.set_cons_zero, List.set_cons_succ]; go_big_quiet_on)))))
    refine wpQuiet_nil ?_
    intro w1 hW
    have hb1 : Below _ _ _ := hW
    clear hW
    obtain ⟨cc, cd, cf, cg⟩ := later2 hb1 (g := w.heap.size) (u := .int .u64 (hi m)) (v := .int .u64 (lo m)) (by simp [go_sem]) (by simp [go_sem]) (by simp [go_sem]) (by simp [go_sem])
    have cz : w.heap.size < w1.heap.size := World.block_lt_of_cell? _ _ cc
    obtain ⟨dc, dd, df, dg⟩ := later2 hb1 (g := w.heap.size + 1) (u := .int .i64 0) (v := .int .u64 0) (by simp [go_sem]) (by simp [go_sem]) (by simp [go_sem]) (by simp [go_sem])
    have dz : w.heap.size + 1 < w1.heap.size := World.block_lt_of_cell? _ _ dc
    have b1 : Below w.heap.size w w1 := bl2 hb1 (by repeat (first | assumption | exact Below.refl _ _ | refine Below.setCell ?_ (by first | exact Nat.le_refl _ | (simp; done) | (simp; omega) | omega) _ | refine Below.alloc ?_ (by first | exact Nat.le_refl _ | (simp; done) | (simp; omega) | omega) _ | refine Below.drew ?_ | exact Nat.le_refl _))
    have z1 := hb1.size
    try simp at z1
    clear hb1
    go_wp2_with fail
    go_region
    go_wp2_with fail
    simp [bodyPost, results, Tryd.results49, go_sem, dc, dd]
    exact ⟨⟨H2.out, H1.out⟩, (by repeat (first | assumption | exact Below.refl _ _ | refine Below.setCell ?_ (by first | exact Nat.le_refl _ | (simp; done) | (simp; omega) | omega) _ | refine Below.alloc ?_ (by first | exact Nat.le_refl _ | (simp; done) | (simp; omega) | omega) _ | refine Below.drew ?_ | exact Nat.le_refl _))⟩
  · have H2 := Lib.hid (jn_hi1 ⟨h0, by omega⟩ hl)
    have t1 : (IntKind.u64.wrap (nt (lo m) + 1) == 0) = false := by rw [jn_lo]; simpa using hl
    clear h h0 hl
    go_enter Tryd.func49, Tryd.ntmps49
    go_wp2_with fail
    refine Reg.region_quiet (by kernel_rfl) (by kernel_rfl) ?_
    iterate 9 (first | go_big_quiet_skip | (go_big_quiet_want; (first | (go_big_quiet_op; go_big_quiet_on) | (apply Reg.quiet_run; (intro W hW; have q1 := hW.cell (a := ⟨w.heap.size, 0, none⟩) (v := .int .u64 (hi m)) (by simp [go_sem]); have q2 := hW.cell (a := ⟨w.heap.size, 1, none⟩) (v := .int .u64 (lo m)) (by simp [go_sem]); go_simp; (first | done | rfl | exact ⟨rfl, rfl⟩ )); (simp only [Act.put, List.setIfInBounds_toArray, List.set_cons_zero, List.set_cons_succ]; go_big_quiet_on)) | (apply Reg.quiet_call; (intro W hW; go_simp; (first | done | rfl | exact ⟨rfl, rfl⟩)); (intro W hW; (first | skip)); (simp only [Act.put, List.setIfInBounds_toArray, List.set_cons_zero, List.set_cons_succ]; go_big_quiet_on)))))
    refine wpQuiet_nil ?_
    intro w1 hW
    have hb1 : Below _ _ _ := hW
    clear hW
    obtain ⟨cc, cd, cf, cg⟩ := later2 hb1 (g := w.heap.size) (u := .int .u64 (hi m)) (v := .int .u64 (lo m)) (by simp [go_sem]) (by simp [go_sem]) (by simp [go_sem]) (by simp [go_sem])
    have cz : w.heap.size < w1.heap.size := World.block_lt_of_cell? _ _ cc
    obtain ⟨dc, dd, df, dg⟩ := later2 hb1 (g := w.heap.size + 1) (u := .int .i64 0) (v := .int .u64 0) (by simp [go_sem]) (by simp [go_sem]) (by simp [go_sem]) (by simp [go_sem])
    have dz : w.heap.size + 1 < w1.heap.size := World.block_lt_of_cell? _ _ dc
    have b1 : Below w.heap.size w w1 := bl2 hb1 (by repeat (first | assumption | exact Below.refl _ _ | refine Below.setCell ?_ (by first | exact Nat.le_refl _ | (simp; done) | (simp; omega) | omega) _ | refine Below.alloc ?_ (by first | exact Nat.le_refl _ | (simp; done) | (simp; omega) | omega) _ | refine Below.drew ?_ | exact Nat.le_refl _))
    have z1 := hb1.size
    try simp at z1
    clear hb1
    go_wp2_with fail
    go_region
    go_wp2_with fail
    simp [bodyPost, results, Tryd.results49, go_sem, dc, dd]
    exact ⟨⟨H2.out, H1.out⟩, (by repeat (first | assumption | exact Below.refl _ _ | refine Below.setCell ?_ (by first | exact Nat.le_refl _ | (simp; done) | (simp; omega) | omega) _ | refine Below.alloc ?_ (by first | exact Nat.le_refl _ | (simp; done) | (simp; omega) | omega) _ | refine Below.drew ?_ | exact Nat.le_refl _))⟩
theorem join_low (w : World) :
    Calls Tryd.prog 49 #[.bool true, .agg #[.int .u64 9223372036854775808, .int .u64 0]] w fun e w' => e = .returned (.tuple #[.agg #[.int .i64 (-9223372036854775808), .int .u64 0], .bool true]) ∧ Below w.heap.size w w' := by
  have t1 : (IntKind.u64.wrap (nt 0 + 1) == 0) = true := by rw [IntKind.wrap_u64]; decide
  have H1 := Lib.hid (show IntKind.u64.wrap (nt 0 + 1) = 0 by rw [IntKind.wrap_u64]; decide)
  have H2 := Lib.hid (show wrap64 (IntKind.u64.wrap (nt 9223372036854775808 + 1)) = -9223372036854775808 by rw [IntKind.wrap_u64]; unfold wrap64 nt; decide)
  go_enter Tryd.func49, Tryd.ntmps49
  go_wp2_with fail
  refine Reg.region_quiet (by kernel_rfl) (by kernel_rfl) ?_
  iterate 9 (first | go_big_quiet_skip | (go_big_quiet_want; (first | (go_big_quiet_op; go_big_quiet_on) | (apply Reg.quiet_run; (intro W hW; have q1 := hW.cell (a := ⟨w.heap.size, 0, none⟩) (v := .int .u64 9223372036854775808) (by simp [go_sem]); have q2 := hW.cell (a := ⟨w.heap.size, 1, none⟩) (v := .int .u64 0) (by simp [go_sem]); go_simp; (first | done | rfl | exact ⟨rfl, rfl⟩ )); (simp only [Act.put, List.setIfInBounds_toArray, List.set_cons_zero, List.set_cons_succ]; go_big_quiet_on)) | (apply Reg.quiet_call; (intro W hW; go_simp; (first | done | rfl | exact ⟨rfl, rfl⟩)); (intro W hW; (first | skip)); (simp only [Act.put, List.setIfInBounds_toArray, List.set_cons_zero, List.set_cons_succ]; go_big_quiet_on)))))
  refine wpQuiet_nil ?_
  intro w1 hW
  have hb1 : Below _ _ _ := hW
  clear hW
  obtain ⟨cc, cd, cf, cg⟩ := later2 hb1 (g := w.heap.size) (u := .int .u64 9223372036854775808) (v := .int .u64 0) (by simp [go_sem]) (by simp [go_sem]) (by simp [go_sem]) (by simp [go_sem])
  have cz : w.heap.size < w1.heap.size := World.block_lt_of_cell? _ _ cc
  obtain ⟨dc, dd, df, dg⟩ := later2 hb1 (g := w.heap.size + 1) (u := .int .i64 0) (v := .int .u64 0) (by simp [go_sem]) (by simp [go_sem]) (by simp [go_sem]) (by simp [go_sem])
  have dz : w.heap.size + 1 < w1.heap.size := World.block_lt_of_cell? _ _ dc
  have b1 : Below w.heap.size w w1 := bl2 hb1 (by repeat (first | assumption | exact Below.refl _ _ | refine Below.setCell ?_ (by first | exact Nat.le_refl _ | (simp; done) | (simp; omega) | omega) _ | refine Below.alloc ?_ (by first | exact Nat.le_refl _ | (simp; done) | (simp; omega) | omega) _ | refine Below.drew ?_ | exact Nat.le_refl _))
  have z1 := hb1.size
  try simp at z1
  clear hb1
  go_wp2_with fail
  go_region
  go_wp2_with fail
  simp [bodyPost, results, Tryd.results49, go_sem, dc, dd]
  exact ⟨⟨H2.out, H1.out⟩, (by repeat (first | assumption | exact Below.refl _ _ | refine Below.setCell ?_ (by first | exact Nat.le_refl _ | (simp; done) | (simp; omega) | omega) _ | refine Below.alloc ?_ (by first | exact Nat.le_refl _ | (simp; done) | (simp; omega) | omega) _ | refine Below.drew ?_ | exact Nat.le_refl _))⟩
theorem join_neg_no1 (a b : Int) (w : World) (h : 9223372036854775808 < a) :
    Calls Tryd.prog 49 #[.bool true, .agg #[.int .u64 a, .int .u64 b]] w (NoJoin w) := by
  have t2 : decide (a < 9223372036854775808) = false := decide_eq_false (by omega)
  have t3 : (a == 9223372036854775808) = false := by simp; omega
  by_cases hl : IntKind.u64.wrap (nt b + 1) = 0
  · have t1 : (IntKind.u64.wrap (nt b + 1) == 0) = true := by rw [hl]; rfl
    clear hl
    go_enter Tryd.func49, Tryd.ntmps49
    go_wp2_with fail
    refine Reg.region_quiet (by kernel_rfl) (by kernel_rfl) ?_
    iterate 9 (first | go_big_quiet_skip | (go_big_quiet_want; (first | (go_big_quiet_op; go_big_quiet_on) | (apply Reg.quiet_run; (intro W hW; have q1 := hW.cell (a := ⟨w.heap.size, 0, none⟩) (v := .int .u64 a) (by simp [go_sem]); have q2 := hW.cell (a := ⟨w.heap.size, 1, none⟩) (v := .int .u64 b) (by simp [go_sem]); go_simp; (first | done | rfl | exact ⟨rfl, rfl⟩ )); (simp only [Act.put, List.setIfInBounds_toArray, List.set_cons_zero, List.set_cons_succ]; go_big_quiet_on)) | (apply Reg.quiet_call; (intro W hW; go_simp; (first | done | rfl | exact ⟨rfl, rfl⟩)); (intro W hW; (first | skip)); (simp only [Act.put, List.setIfInBounds_toArray, List.set_cons_zero, List.set_cons_succ]; go_big_quiet_on)))))
    refine wpQuiet_nil ?_
    intro w1 hW
    have hb1 : Below _ _ _ := hW
    clear hW
    obtain ⟨cc, cd, cf, cg⟩ := later2 hb1 (g := w.heap.size) (u := .int .u64 a) (v := .int .u64 b) (by simp [go_sem]) (by simp [go_sem]) (by simp [go_sem]) (by simp [go_sem])
    have cz : w.heap.size < w1.heap.size := World.block_lt_of_cell? _ _ cc
    obtain ⟨dc, dd, df, dg⟩ := later2 hb1 (g := w.heap.size + 1) (u := .int .i64 0) (v := .int .u64 0) (by simp [go_sem]) (by simp [go_sem]) (by simp [go_sem]) (by simp [go_sem])
    have dz : w.heap.size + 1 < w1.heap.size := World.block_lt_of_cell? _ _ dc
    have b1 : Below w.heap.size w w1 := bl2 hb1 (by repeat (first | assumption | exact Below.refl _ _ | refine Below.setCell ?_ (by first | exact Nat.le_refl _ | (simp; done) | (simp; omega) | omega) _ | refine Below.alloc ?_ (by first | exact Nat.le_refl _ | (simp; done) | (simp; omega) | omega) _ | refine Below.drew ?_ | exact Nat.le_refl _))
    have z1 := hb1.size
    try simp at z1
    clear hb1
    go_wp2_with fail
    go_region
    go_wp2_with fail
    simp [bodyPost, results, Tryd.results49, go_sem, dc, dd]
    exact ⟨_, _, rfl, (by repeat (first | assumption | exact Below.refl _ _ | refine Below.setCell ?_ (by first | exact Nat.le_refl _ | (simp; done) | (simp; omega) | omega) _ | refine Below.alloc ?_ (by first | exact Nat.le_refl _ | (simp; done) | (simp; omega) | omega) _ | refine Below.drew ?_ | exact Nat.le_refl _))⟩
  · have t1 : (IntKind.u64.wrap (nt b + 1) == 0) = false := by simpa using hl
    clear hl
    go_enter Tryd.func49, Tryd.ntmps49
    go_wp2_with fail
    refine Reg.region_quiet (by kernel_rfl) (by kernel_rfl) ?_
    iterate 9 (first | go_big_quiet_skip | (go_big_quiet_want; (first | (go_big_quiet_op; go_big_quiet_on) | (apply Reg.quiet_run; (intro W hW; have q1 := hW.cell (a := ⟨w.heap.size, 0, none⟩) (v := .int .u64 a) (by simp [go_sem]); have q2 := hW.cell (a := ⟨w.heap.size, 1, none⟩) (v := .int .u64 b) (by simp [go_sem]); go_simp; (first | done | rfl | exact ⟨rfl, rfl⟩ )); (simp only [Act.put, List.setIfInBounds_toArray, List.set_cons_zero, List.set_cons_succ]; go_big_quiet_on)) | (apply Reg.quiet_call; (intro W hW; go_simp; (first | done | rfl | exact ⟨rfl, rfl⟩)); (intro W hW; (first | skip)); (simp only [Act.put, List.setIfInBounds_toArray, List.set_cons_zero, List.set_cons_succ]; go_big_quiet_on)))))
    refine wpQuiet_nil ?_
    intro w1 hW
    have hb1 : Below _ _ _ := hW
    clear hW
    obtain ⟨cc, cd, cf, cg⟩ := later2 hb1 (g := w.heap.size) (u := .int .u64 a) (v := .int .u64 b) (by simp [go_sem]) (by simp [go_sem]) (by simp [go_sem]) (by simp [go_sem])
    have cz : w.heap.size < w1.heap.size := World.block_lt_of_cell? _ _ cc
    obtain ⟨dc, dd, df, dg⟩ := later2 hb1 (g := w.heap.size + 1) (u := .int .i64 0) (v := .int .u64 0) (by simp [go_sem]) (by simp [go_sem]) (by simp [go_sem]) (by simp [go_sem])
    have dz : w.heap.size + 1 < w1.heap.size := World.block_lt_of_cell? _ _ dc
    have b1 : Below w.heap.size w w1 := bl2 hb1 (by repeat (first | assumption | exact Below.refl _ _ | refine Below.setCell ?_ (by first | exact Nat.le_refl _ | (simp; done) | (simp; omega) | omega) _ | refine Below.alloc ?_ (by first | exact Nat.le_refl _ | (simp; done) | (simp; omega) | omega) _ | refine Below.drew ?_ | exact Nat.le_refl _))
    have z1 := hb1.size
    try simp at z1
    clear hb1
    go_wp2_with fail
    go_region
    go_wp2_with fail
    simp [bodyPost, results, Tryd.results49, go_sem, dc, dd]
    exact ⟨_, _, rfl, (by repeat (first | assumption | exact Below.refl _ _ | refine Below.setCell ?_ (by first | exact Nat.le_refl _ | (simp; done) | (simp; omega) | omega) _ | refine Below.alloc ?_ (by first | exact Nat.le_refl _ | (simp; done) | (simp; omega) | omega) _ | refine Below.drew ?_ | exact Nat.le_refl _))⟩
theorem join_neg_no2 (b : Int) (w : World) (h : 0 < b) :
    Calls Tryd.prog 49 #[.bool true, .agg #[.int .u64 9223372036854775808, .int .u64 b]] w (NoJoin w) := by
  have t3 : (b == 0) = false := by simp; omega
  by_cases hl : IntKind.u64.wrap (nt b + 1) = 0
  · have t1 : (IntKind.u64.wrap (nt b + 1) == 0) = true := by rw [hl]; rfl
    clear hl
    go_enter Tryd.func49, Tryd.ntmps49
    go_wp2_with fail
    refine Reg.region_quiet (by kernel_rfl) (by kernel_rfl) ?_
    iterate 9 (first | go_big_quiet_skip | (go_big_quiet_want; (first | (go_big_quiet_op; go_big_quiet_on) | (apply Reg.quiet_run; (intro W hW; have q1 := hW.cell (a := ⟨w.heap.size, 0, none⟩) (v := .int .u64 9223372036854775808) (by simp [go_sem]); have q2 := hW.cell (a := ⟨w.heap.size, 1, none⟩) (v := .int .u64 b) (by simp [go_sem]); go_simp; (first | done | rfl | exact ⟨rfl, rfl⟩ )); (simp only [Act.put, List.setIfInBounds_toArray, List.set_cons_zero, List.set_cons_succ]; go_big_quiet_on)) | (apply Reg.quiet_call; (intro W hW; go_simp; (first | done | rfl | exact ⟨rfl, rfl⟩)); (intro W hW; (first | skip)); (simp only [Act.put, List.setIfInBounds_toArray, List.set_cons_zero, List.set_cons_succ]; go_big_quiet_on)))))
    refine wpQuiet_nil ?_
    intro w1 hW
    have hb1 : Below _ _ _ := hW
    clear hW
    obtain ⟨cc, cd, cf, cg⟩ := later2 hb1 (g := w.heap.size) (u := .int .u64 9223372036854775808) (v := .int .u64 b) (by simp [go_sem]) (by simp [go_sem]) (by simp [go_sem]) (by simp [go_sem])
    have cz : w.heap.size < w1.heap.size := World.block_lt_of_cell? _ _ cc
    obtain ⟨dc, dd, df, dg⟩ := later2 hb1 (g := w.heap.size + 1) (u := .int .i64 0) (v := .int .u64 0) (by simp [go_sem]) (by simp [go_sem]) (by simp [go_sem]) (by simp [go_sem])
    have dz : w.heap.size + 1 < w1.heap.size := World.block_lt_of_cell? _ _ dc
    have b1 : Below w.heap.size w w1 := bl2 hb1 (by repeat (first | assumption | exact Below.refl _ _ | refine Below.setCell ?_ (by first | exact Nat.le_refl _ | (simp; done) | (simp; omega) | omega) _ | refine Below.alloc ?_ (by first | exact Nat.le_refl _ | (simp; done) | (simp; omega) | omega) _ | refine Below.drew ?_ | exact Nat.le_refl _))
    have z1 := hb1.size
    try simp at z1
    clear hb1
    go_wp2_with fail
    go_region
    go_wp2_with fail
    simp [bodyPost, results, Tryd.results49, go_sem, dc, dd]
    exact ⟨_, _, rfl, (by repeat (first | assumption | exact Below.refl _ _ | refine Below.setCell ?_ (by first | exact Nat.le_refl _ | (simp; done) | (simp; omega) | omega) _ | refine Below.alloc ?_ (by first | exact Nat.le_refl _ | (simp; done) | (simp; omega) | omega) _ | refine Below.drew ?_ | exact Nat.le_refl _))⟩
  · have t1 : (IntKind.u64.wrap (nt b + 1) == 0) = false := by simpa using hl
    clear hl
    go_enter Tryd.func49, Tryd.ntmps49
    go_wp2_with fail
    refine Reg.region_quiet (by kernel_rfl) (by kernel_rfl) ?_
    iterate 9 (first | go_big_quiet_skip | (go_big_quiet_want; (first | (go_big_quiet_op; go_big_quiet_on) | (apply Reg.quiet_run; (intro W hW; have q1 := hW.cell (a := ⟨w.heap.size, 0, none⟩) (v := .int .u64 9223372036854775808) (by simp [go_sem]); have q2 := hW.cell (a := ⟨w.heap.size, 1, none⟩) (v := .int .u64 b) (by simp [go_sem]); go_simp; (first | done | rfl | exact ⟨rfl, rfl⟩ )); (simp only [Act.put, List.setIfInBounds_toArray, List.set_cons_zero, List.set_cons_succ]; go_big_quiet_on)) | (apply Reg.quiet_call; (intro W hW; go_simp; (first | done | rfl | exact ⟨rfl, rfl⟩)); (intro W hW; (first | skip)); (simp only [Act.put, List.setIfInBounds_toArray, List.set_cons_zero, List.set_cons_succ]; go_big_quiet_on)))))
    refine wpQuiet_nil ?_
    intro w1 hW
    have hb1 : Below _ _ _ := hW
    clear hW
    obtain ⟨cc, cd, cf, cg⟩ := later2 hb1 (g := w.heap.size) (u := .int .u64 9223372036854775808) (v := .int .u64 b) (by simp [go_sem]) (by simp [go_sem]) (by simp [go_sem]) (by simp [go_sem])
    have cz : w.heap.size < w1.heap.size := World.block_lt_of_cell? _ _ cc
    obtain ⟨dc, dd, df, dg⟩ := later2 hb1 (g := w.heap.size + 1) (u := .int .i64 0) (v := .int .u64 0) (by simp [go_sem]) (by simp [go_sem]) (by simp [go_sem]) (by simp [go_sem])
    have dz : w.heap.size + 1 < w1.heap.size := World.block_lt_of_cell? _ _ dc
    have b1 : Below w.heap.size w w1 := bl2 hb1 (by repeat (first | assumption | exact Below.refl _ _ | refine Below.setCell ?_ (by first | exact Nat.le_refl _ | (simp; done) | (simp; omega) | omega) _ | refine Below.alloc ?_ (by first | exact Nat.le_refl _ | (simp; done) | (simp; omega) | omega) _ | refine Below.drew ?_ | exact Nat.le_refl _))
    have z1 := hb1.size
    try simp at z1
    clear hb1
    go_wp2_with fail
    go_region
    go_wp2_with fail
    simp [bodyPost, results, Tryd.results49, go_sem, dc, dd]
    exact ⟨_, _, rfl, (by repeat (first | assumption | exact Below.refl _ _ | refine Below.setCell ?_ (by first | exact Nat.le_refl _ | (simp; done) | (simp; omega) | omega) _ | refine Below.alloc ?_ (by first | exact Nat.le_refl _ | (simp; done) | (simp; omega) | omega) _ | refine Below.drew ?_ | exact Nat.le_refl _))⟩
end
end Go.Proofs.YtieklkpjlbpnbaaDoor.Wt
