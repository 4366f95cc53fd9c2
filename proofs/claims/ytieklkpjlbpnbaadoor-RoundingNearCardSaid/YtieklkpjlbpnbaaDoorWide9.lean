/-
  The contract of package wide's Div.
-/
import Derived.Test.YtieklkpjlbpnbaaDoorWide8
import Derived.Test.YtieklkpjlbpnbaaDoorAlc
namespace Go.Proofs.YtieklkpjlbpnbaaDoor.Wt
open Go.RowKit
open Go.Proofs.YtieklkpjlbpnbaaDoor
open Go.Proofs.YtieklkpjlbpnbaaDoor.Wm

theorem quo_neg {x n : Int} (hn : 0 < n) (h : (-x) % n = 0) : x / n = -((-x) / n) ∧ x % n = 0 := by
  have e := Int.mul_ediv_add_emod (-x) n
  have e2 : x = n * (-((-x) / n)) + 0 := by rw [Int.mul_neg]; omega
  exact (Int.ediv_emod_unique hn).2 ⟨by omega, by omega, hn⟩
theorem quo_neg2 {x n : Int} (hn : 0 < n) (h : 0 < (-x) % n) : x / n = -((-x) / n + 1) ∧ x % n = n - (-x) % n := by
  have e := Int.mul_ediv_add_emod (-x) n
  have e1 := Int.emod_lt_of_pos (-x) hn
  have e2 : n * (-((-x) / n + 1)) = -(n * ((-x) / n)) - n := by rw [Int.mul_neg, Int.mul_add, Int.mul_one]; omega
  exact (Int.ediv_emod_unique hn).2 ⟨by omega, by omega, by omega⟩
theorem quo_bd {x n : Int} (hx : I128 x) (hn : 0 < n) : I128 (x / n) := by
  unfold I128 at *
  have e := Int.mul_ediv_add_emod x n
  have e0 := Int.emod_nonneg x (show n ≠ 0 by omega)
  have e1 := Int.emod_lt_of_pos x hn
  constructor
  · by_cases h : x < 0
    · exact Int.le_ediv_of_mul_le hn (by
        have : -170141183460469231731687303715884105728 * n ≤ -170141183460469231731687303715884105728 * 1 := by omega
        omega)
    · have := Int.ediv_nonneg (show 0 ≤ x by omega) (show 0 ≤ n by omega); omega
  · by_cases h : x < 0
    · have := Int.ediv_neg_of_neg_of_pos h hn; omega
    · have := Int.ediv_le_self n (show 0 ≤ x by omega); omega

/-- The next number's two words are not both 0. -/
theorem div_zero (x n : Int) (w : World) (hn : n < 1) : Calls Tryd.prog 34 #[.agg #[.int .i64 (hi x), .int .u64 (lo x)], .int .i64 n] w fun e w' => e = .returned (.tuple #[.agg #[.int .i64 0, .int .u64 0], .int .i64 0, .int .i64 1]) ∧ Below w.heap.size w w' := by
  go_enter Tryd.func34, Tryd.ntmps34
  go_wp2_with fail
  simp [bodyPost, results, Tryd.results34, go_sem]
  exact (by repeat (first | assumption | exact Below.refl _ _ | refine Below.setCell ?_ (by first | exact Nat.le_refl _ | (simp; done) | (simp; omega) | omega) _ | refine Below.alloc ?_ (by first | exact Nat.le_refl _ | (simp; done) | (simp; omega) | omega) _ | refine Below.drew ?_ | exact Nat.le_refl _))

theorem div_pos (x n : Int) (w : World) (hx : I128 x) (hn : I64 n) (h1 : 1 ≤ n) (h0 : 0 ≤ x) : Calls Tryd.prog 34 #[.agg #[.int .i64 (hi x), .int .u64 (lo x)], .int .i64 n] w fun e w' => e = .returned (.tuple #[.agg #[.int .i64 (hi (x / n)), .int .u64 (lo (x / n))], .int .i64 (x % n), .int .i64 0]) ∧ Below w.heap.size w w' := by
  have hd0 : decide (hi x < 0) = false := by rw [hi_decide]; exact decide_eq_false (by omega)
  have hu : U128 x := by have := ab_u128 hx; rwa [ab_pos h0] at this
  have hA := Lib.hid (fun W => absolute_any x W hx)
  rw [ab_pos h0] at hA
  have hn64 : U64 n := by unfold I64 at hn; unfold U64; omega
  have hD := Lib.hid (fun W => divide_any x n W hu hn64 (by omega))
  have q0 := Int.ediv_nonneg h0 (show 0 ≤ n by omega)
  have hS := signed_fit (x / n) (ab_u128 (quo_bd hx (by omega)))
  rw [ab_pos q0, fit_in (quo_bd hx (by omega)), ovf_in (quo_bd hx (by omega)), decide_eq_false (show ¬ x / n < 0 by omega)] at hS
  have r0 := Int.emod_nonneg x (show n ≠ 0 by omega)
  have r1 := Int.emod_lt_of_pos x (show 0 < n by omega)
  unfold I64 at hn
  have hw : IntKind.u64.wrap n = n := by rw [IntKind.wrap_u64]; omega
  generalize x / n = q at *
  generalize x % n = r at *
  clear hx h0 hu hn64 q0 hw
  go_enter Tryd.func34, Tryd.ntmps34
  go_wp2_with fail
  refine (hA.out _).mono ?_
  rintro e w1 ⟨rfl, hb1⟩
  obtain ⟨cc, cd, cf, cg⟩ := later2 hb1 (g := w.heap.size) (u := .int .i64 (hi x)) (v := .int .u64 (lo x)) (by simp [go_sem]) (by simp [go_sem]) (by simp [go_sem]) (by simp [go_sem])
  have cz : w.heap.size < w1.heap.size := World.block_lt_of_cell? _ _ cc
  obtain ⟨dc, dd, df, dg⟩ := later2 hb1 (g := w.heap.size + 1) (u := .int .i64 0) (v := .int .u64 0) (by simp [go_sem]) (by simp [go_sem]) (by simp [go_sem]) (by simp [go_sem])
  have dz : w.heap.size + 1 < w1.heap.size := World.block_lt_of_cell? _ _ dc
  have b1 : Below w.heap.size w w1 := bl2 hb1 (by repeat (first | assumption | exact Below.refl _ _ | refine Below.setCell ?_ (by first | exact Nat.le_refl _ | (simp; done) | (simp; omega) | omega) _ | refine Below.alloc ?_ (by first | exact Nat.le_refl _ | (simp; done) | (simp; omega) | omega) _ | refine Below.drew ?_ | exact Nat.le_refl _))
  have z1 := hb1.size
  try simp at z1
  clear hb1
  go_wp2_with fail
  refine (hD.out _).mono ?_
  rintro e w2 ⟨rfl, hb2⟩
  obtain ⟨ec, ed, ef, eg⟩ := later2 hb2 (g := w.heap.size) (u := .int .i64 (hi x)) (v := .int .u64 (lo x)) (by simp [go_sem, *]) (by simp [go_sem, *]) (by simp [go_sem, *]) (by simp [go_sem, *])
  have ez : w.heap.size < w2.heap.size := World.block_lt_of_cell? _ _ ec
  obtain ⟨fc, fd, ff, fg⟩ := later2 hb2 (g := w.heap.size + 1) (u := .int .i64 0) (v := .int .u64 0) (by simp [go_sem, *]) (by simp [go_sem, *]) (by simp [go_sem, *]) (by simp [go_sem, *])
  have fz : w.heap.size + 1 < w2.heap.size := World.block_lt_of_cell? _ _ fc
  have b2 : Below w.heap.size w w2 := bl2 hb2 (by repeat (first | assumption | exact Below.refl _ _ | refine Below.setCell ?_ (by first | exact Nat.le_refl _ | (simp; done) | (simp; omega) | omega) _ | refine Below.alloc ?_ (by first | exact Nat.le_refl _ | (simp; done) | (simp; omega) | omega) _ | refine Below.drew ?_ | exact Nat.le_refl _))
  have z2 := hb2.size
  try simp at z2
  clear hb2
  clear cc cd cf cg dc dd df dg
  go_wp2_with fail
  have hb3 : Below (w2).heap.size (w2) ((w2).alloc (.cells #[.int .u64 (hi q), .int .u64 (lo q)] 66)) := (Below.refl _ _).alloc (Nat.le_refl _) _
  have pc : ((w2).alloc (.cells #[.int .u64 (hi q), .int .u64 (lo q)] 66)).cell? ⟨(w2).heap.size, 0, none⟩ = some (.int .u64 (hi q)) := by simp [go_sem]
  have pd : ((w2).alloc (.cells #[.int .u64 (hi q), .int .u64 (lo q)] 66)).cell? ⟨(w2).heap.size, 1, none⟩ = some (.int .u64 (lo q)) := by simp [go_sem]
  have pf : ((w2).alloc (.cells #[.int .u64 (hi q), .int .u64 (lo q)] 66)).frozen? ⟨(w2).heap.size, 0, none⟩ = false := by simp [go_sem]
  have pg : ((w2).alloc (.cells #[.int .u64 (hi q), .int .u64 (lo q)] 66)).frozen? ⟨(w2).heap.size, 1, none⟩ = false := by simp [go_sem]
  have pz : (w2).heap.size < ((w2).alloc (.cells #[.int .u64 (hi q), .int .u64 (lo q)] 66)).heap.size := by simp
  generalize (w2).alloc (.cells #[.int .u64 (hi q), .int .u64 (lo q)] 66) = w3 at *
  obtain ⟨gc, gd, gf, gg⟩ := later2 hb3 (g := w.heap.size) (u := .int .i64 (hi x)) (v := .int .u64 (lo x)) (by simp [go_sem, *]) (by simp [go_sem, *]) (by simp [go_sem, *]) (by simp [go_sem, *])
  have gz : w.heap.size < w3.heap.size := World.block_lt_of_cell? _ _ gc
  obtain ⟨hc, hd, hf, hg⟩ := later2 hb3 (g := w.heap.size + 1) (u := .int .i64 0) (v := .int .u64 0) (by simp [go_sem, *]) (by simp [go_sem, *]) (by simp [go_sem, *]) (by simp [go_sem, *])
  have hz : w.heap.size + 1 < w3.heap.size := World.block_lt_of_cell? _ _ hc
  have b3 : Below w.heap.size w w3 := bl2 hb3 (by repeat (first | assumption | exact Below.refl _ _ | refine Below.setCell ?_ (by first | exact Nat.le_refl _ | (simp; done) | (simp; omega) | omega) _ | refine Below.alloc ?_ (by first | exact Nat.le_refl _ | (simp; done) | (simp; omega) | omega) _ | refine Below.drew ?_ | exact Nat.le_refl _))
  have z3 := hb3.size
  try simp at z3
  clear hb3
  clear ec ed ef eg fc fd ff fg
  refine Reg.region_alloc 14 13 9 (.cells #[.int .i64 0, .int .u64 0] 24) [(12, 14)] (by kernel_rfl) (by kernel_rfl) (by kernel_rfl) (fun d _ _ _ _ h => by cases d <;> exact h) _ rfl rfl rfl ?hex ?rest
  case hex => intro ρ W; simp [go_sem, Reg.ptr]
  simp only [Reg.edges, Reg.edge]
  apply Exists.intro
  refine ⟨?walk, ?tail⟩
  case walk =>
    intro C hC
    simp only [Reg.blank, List.take_succ_cons, List.take_zero]
    iterate 14 (first | go_big_quiet_skip | (go_big_quiet_want; (first | (go_big_quiet_op; go_big_quiet_on) | (apply Reg.quiet_run; (intro W hW; have q1 := hC.cell hW gc; have q2 := hC.cell hW pc; have q3 := hC.cell hW pd; go_simp; (first | done | rfl | exact ⟨rfl, rfl⟩ )); (simp only [Act.put, List.setIfInBounds_toArray, List.set_cons_zero, List.set_cons_succ]; go_big_quiet_on)) | (apply Reg.quiet_call; (intro W hW; go_simp; (first | done | rfl | exact ⟨rfl, rfl⟩)); (intro W hW; (first | (go_at_call 53; exact hC.call hW (hS.out _)))); (simp only [Act.put, List.setIfInBounds_toArray, List.set_cons_zero, List.set_cons_succ]; go_big_quiet_on)))))
    exact wpQuiet_nil rfl
  case tail =>
    intro W w4 hW hb
    have hW4 := Reg.alc_back hW hb
    obtain ⟨nc, nd, nf, ng, nz⟩ := Reg.alc_cell2 hb
    have hc4 := hW4.cell hc
    have hd4 := hW4.cell hd
    have hf4 := hW4.frozen hc hf
    have hg4 := hW4.frozen hd hg
    have b4 := bl2 hW4 b3
    have k3 := hW.size
    clear hb hW hW4
    simp only [List.drop_succ_cons, List.drop_zero, Act.put, List.setIfInBounds_toArray, List.set_cons_zero, List.set_cons_succ, Reg.ptr]
    generalize W.heap.size = k at *
    go_wp2_with fail
    simp [bodyPost, results, Tryd.results34, go_sem, hc4, hd4]
    exact (by repeat (first | assumption | exact Below.refl _ _ | refine Below.setCell ?_ (by first | exact Nat.le_refl _ | (simp; done) | (simp; omega) | omega) _ | refine Below.alloc ?_ (by first | exact Nat.le_refl _ | (simp; done) | (simp; omega) | omega) _ | refine Below.drew ?_ | exact Nat.le_refl _))

/-! ### below 0 -/
theorem div_neg0 (x n : Int) (w : World) (hx : I128 x) (hn : I64 n) (h1 : 1 ≤ n) (h0 : x < 0) (hr : (-x) % n = 0) : Calls Tryd.prog 34 #[.agg #[.int .i64 (hi x), .int .u64 (lo x)], .int .i64 n] w fun e w' => e = .returned (.tuple #[.agg #[.int .i64 (hi (x / n)), .int .u64 (lo (x / n))], .int .i64 (x % n), .int .i64 0]) ∧ Below w.heap.size w w' := by
  have hd0 : decide (hi x < 0) = true := by rw [hi_decide]; exact decide_eq_true h0
  have hu : U128 (-x) := by have := ab_u128 hx; rwa [ab_neg h0] at this
  have hA := Lib.hid (fun W => absolute_any x W hx)
  rw [ab_neg h0] at hA
  have hn64 : U64 n := by unfold I64 at hn; unfold U64; omega
  have hD := Lib.hid (fun W => divide_any (-x) n W hu hn64 (by omega))
  have q0 := Int.ediv_nonneg (show 0 ≤ -x by omega) (show 0 ≤ n by omega)
  have r0 := Int.emod_nonneg (-x) (show n ≠ 0 by omega)
  have r1 := Int.emod_lt_of_pos (-x) (show 0 < n by omega)
  have hq := quo_bd hx (show 0 < n by omega)
  obtain ⟨e1, e2⟩ := quo_neg (show 0 < n by omega) hr
  have qneg : x / n < 0 := Int.ediv_neg_of_neg_of_pos h0 (by omega)
  have hS := signed_fit (x / n) (ab_u128 hq)
  rw [ab_neg qneg, fit_in hq, ovf_in hq, decide_eq_true qneg, e1, Int.neg_neg] at hS
  rw [e2, e1]
  rw [hr] at hD
  have hm := Lib.hid (hl_ne (show (-x) / n ≠ 0 by omega))
  unfold I64 at hn
  generalize (-x) / n = m at *
  clear hx h0 hu hn64 q0 r0 r1 hr hq e1 e2 qneg
  go_enter Tryd.func34, Tryd.ntmps34
  go_wp2_with fail
  refine (hA.out _).mono ?_
  rintro e w1 ⟨rfl, hb1⟩
  obtain ⟨cc, cd, cf, cg⟩ := later2 hb1 (g := w.heap.size) (u := .int .i64 (hi x)) (v := .int .u64 (lo x)) (by simp [go_sem]) (by simp [go_sem]) (by simp [go_sem]) (by simp [go_sem])
  have cz : w.heap.size < w1.heap.size := World.block_lt_of_cell? _ _ cc
  obtain ⟨dc, dd, df, dg⟩ := later2 hb1 (g := w.heap.size + 1) (u := .int .i64 0) (v := .int .u64 0) (by simp [go_sem]) (by simp [go_sem]) (by simp [go_sem]) (by simp [go_sem])
  have dz : w.heap.size + 1 < w1.heap.size := World.block_lt_of_cell? _ _ dc
  have b1 : Below w.heap.size w w1 := bl2 hb1 (by repeat (first | assumption | exact Below.refl _ _ | refine Below.setCell ?_ (by first | exact Nat.le_refl _ | (simp; done) | (simp; omega) | omega) _ | refine Below.alloc ?_ (by first | exact Nat.le_refl _ | (simp; done) | (simp; omega) | omega) _ | refine Below.drew ?_ | exact Nat.le_refl _))
  have z1 := hb1.size
  try simp at z1
  clear hb1
  go_wp2_with fail
  refine (hD.out _).mono ?_
  rintro e w2 ⟨rfl, hb2⟩
  obtain ⟨ec, ed, ef, eg⟩ := later2 hb2 (g := w.heap.size) (u := .int .i64 (hi x)) (v := .int .u64 (lo x)) (by simp [go_sem, *]) (by simp [go_sem, *]) (by simp [go_sem, *]) (by simp [go_sem, *])
  have ez : w.heap.size < w2.heap.size := World.block_lt_of_cell? _ _ ec
  obtain ⟨fc, fd, ff, fg⟩ := later2 hb2 (g := w.heap.size + 1) (u := .int .i64 0) (v := .int .u64 0) (by simp [go_sem, *]) (by simp [go_sem, *]) (by simp [go_sem, *]) (by simp [go_sem, *])
  have fz : w.heap.size + 1 < w2.heap.size := World.block_lt_of_cell? _ _ fc
  have b2 : Below w.heap.size w w2 := bl2 hb2 (by repeat (first | assumption | exact Below.refl _ _ | refine Below.setCell ?_ (by first | exact Nat.le_refl _ | (simp; done) | (simp; omega) | omega) _ | refine Below.alloc ?_ (by first | exact Nat.le_refl _ | (simp; done) | (simp; omega) | omega) _ | refine Below.drew ?_ | exact Nat.le_refl _))
  have z2 := hb2.size
  try simp at z2
  clear hb2
  clear cc cd cf cg dc dd df dg
  go_wp2_with fail
  have hb3 : Below (w2).heap.size (w2) ((w2).alloc (.cells #[.int .u64 (hi m), .int .u64 (lo m)] 66)) := (Below.refl _ _).alloc (Nat.le_refl _) _
  have pc : ((w2).alloc (.cells #[.int .u64 (hi m), .int .u64 (lo m)] 66)).cell? ⟨(w2).heap.size, 0, none⟩ = some (.int .u64 (hi m)) := by simp [go_sem]
  have pd : ((w2).alloc (.cells #[.int .u64 (hi m), .int .u64 (lo m)] 66)).cell? ⟨(w2).heap.size, 1, none⟩ = some (.int .u64 (lo m)) := by simp [go_sem]
  have pf : ((w2).alloc (.cells #[.int .u64 (hi m), .int .u64 (lo m)] 66)).frozen? ⟨(w2).heap.size, 0, none⟩ = false := by simp [go_sem]
  have pg : ((w2).alloc (.cells #[.int .u64 (hi m), .int .u64 (lo m)] 66)).frozen? ⟨(w2).heap.size, 1, none⟩ = false := by simp [go_sem]
  have pz : (w2).heap.size < ((w2).alloc (.cells #[.int .u64 (hi m), .int .u64 (lo m)] 66)).heap.size := by simp
  generalize (w2).alloc (.cells #[.int .u64 (hi m), .int .u64 (lo m)] 66) = w3 at *
  obtain ⟨gc, gd, gf, gg⟩ := later2 hb3 (g := w.heap.size) (u := .int .i64 (hi x)) (v := .int .u64 (lo x)) (by simp [go_sem, *]) (by simp [go_sem, *]) (by simp [go_sem, *]) (by simp [go_sem, *])
  have gz : w.heap.size < w3.heap.size := World.block_lt_of_cell? _ _ gc
  obtain ⟨hc, hd, hf, hg⟩ := later2 hb3 (g := w.heap.size + 1) (u := .int .i64 0) (v := .int .u64 0) (by simp [go_sem, *]) (by simp [go_sem, *]) (by simp [go_sem, *]) (by simp [go_sem, *])
  have hz : w.heap.size + 1 < w3.heap.size := World.block_lt_of_cell? _ _ hc
  have b3 : Below w.heap.size w w3 := bl2 hb3 (by repeat (first | assumption | exact Below.refl _ _ | refine Below.setCell ?_ (by first | exact Nat.le_refl _ | (simp; done) | (simp; omega) | omega) _ | refine Below.alloc ?_ (by first | exact Nat.le_refl _ | (simp; done) | (simp; omega) | omega) _ | refine Below.drew ?_ | exact Nat.le_refl _))
  have z3 := hb3.size
  try simp at z3
  clear hb3
  clear ec ed ef eg fc fd ff fg
  refine Reg.region_alloc 14 13 9 (.cells #[.int .i64 0, .int .u64 0] 24) [(12, 14)] (by kernel_rfl) (by kernel_rfl) (by kernel_rfl) (fun d _ _ _ _ h => by cases d <;> exact h) _ rfl rfl rfl ?hex ?rest
  case hex => intro ρ W; simp [go_sem, Reg.ptr]
  simp only [Reg.edges, Reg.edge]
  apply Exists.intro
  refine ⟨?walk, ?tail⟩
  case walk =>
    intro C hC
    simp only [Reg.blank, List.take_succ_cons, List.take_zero]
    iterate 14 (first | go_big_quiet_skip | (go_big_quiet_want; (first | (go_big_quiet_op; go_big_quiet_on) | (apply Reg.quiet_run; (intro W hW; have q1 := hC.cell hW gc; have q2 := hC.cell hW pc; have q3 := hC.cell hW pd; go_simp; (first | done | rfl | exact ⟨rfl, rfl⟩ | exact ne_zero_pick hm.out)); (simp only [Act.put, List.setIfInBounds_toArray, List.set_cons_zero, List.set_cons_succ]; go_big_quiet_on)) | (apply Reg.quiet_call; (intro W hW; go_simp; (first | done | rfl | exact ⟨rfl, rfl⟩)); (intro W hW; (first | (go_at_call 53; exact hC.call hW (hS.out _)))); (simp only [Act.put, List.setIfInBounds_toArray, List.set_cons_zero, List.set_cons_succ]; go_big_quiet_on)))))
    exact wpQuiet_nil rfl
  case tail =>
    intro W w9 hW hb
    have hW9 := Reg.alc_back hW hb
    obtain ⟨nc, nd, nf, ng, nz⟩ := Reg.alc_cell2 hb
    have hc9 := hW9.cell hc
    have hd9 := hW9.cell hd
    have hf9 := hW9.frozen hc hf
    have hg9 := hW9.frozen hd hg
    have b9 := bl2 hW9 b3
    have k9 := hW.size
    clear hb hW hW9
    simp only [List.drop_succ_cons, List.drop_zero, Act.put, List.setIfInBounds_toArray, List.set_cons_zero, List.set_cons_succ, Reg.ptr]
    generalize W.heap.size = k at *
    go_wp2_with fail
    simp [bodyPost, results, Tryd.results34, go_sem, hc9, hd9]
    exact (by repeat (first | assumption | exact Below.refl _ _ | refine Below.setCell ?_ (by first | exact Nat.le_refl _ | (simp; done) | (simp; omega) | omega) _ | refine Below.alloc ?_ (by first | exact Nat.le_refl _ | (simp; done) | (simp; omega) | omega) _ | refine Below.drew ?_ | exact Nat.le_refl _))
theorem div_neg1 (x n : Int) (w : World) (hx : I128 x) (hn : I64 n) (h1 : 1 ≤ n) (h0 : x < 0) (hr : 0 < (-x) % n) : Calls Tryd.prog 34 #[.agg #[.int .i64 (hi x), .int .u64 (lo x)], .int .i64 n] w fun e w' => e = .returned (.tuple #[.agg #[.int .i64 (hi (x / n)), .int .u64 (lo (x / n))], .int .i64 (x % n), .int .i64 0]) ∧ Below w.heap.size w w' := by
  have hd0 : decide (hi x < 0) = true := by rw [hi_decide]; exact decide_eq_true h0
  have hu : U128 (-x) := by have := ab_u128 hx; rwa [ab_neg h0] at this
  have hA := Lib.hid (fun W => absolute_any x W hx)
  rw [ab_neg h0] at hA
  have hn64 : U64 n := by unfold I64 at hn; unfold U64; omega
  have hD := Lib.hid (fun W => divide_any (-x) n W hu hn64 (by omega))
  have q0 := Int.ediv_nonneg (show 0 ≤ -x by omega) (show 0 ≤ n by omega)
  have r0 := Int.emod_nonneg (-x) (show n ≠ 0 by omega)
  have r1 := Int.emod_lt_of_pos (-x) (show 0 < n by omega)
  have hq := quo_bd hx (show 0 < n by omega)
  obtain ⟨e1, e2⟩ := quo_neg2 (show 0 < n by omega) hr
  have qneg : x / n < 0 := Int.ediv_neg_of_neg_of_pos h0 (by omega)
  have hS := signed_fit (x / n) (ab_u128 hq)
  rw [ab_neg qneg, fit_in hq, ovf_in hq, decide_eq_true qneg, e1, Int.neg_neg] at hS
  rw [e2, e1]
  have hmu : (-x) / n ≤ 170141183460469231731687303715884105728 := by
    have := Int.ediv_le_self n (show 0 ≤ -x by omega); unfold I128 at hx; omega
  have hT := Lib.hid (fun W => times_yes ((-x) / n) 1 1 W ⟨q0, by omega⟩ (by unfold U64; omega) (by unfold U64; omega) (by omega))
  rw [Int.mul_one] at hT
  have hm := Lib.hid (hl_ne (show (-x) / n + 1 ≠ 0 by omega))
  have hw : IntKind.u64.wrap (n - (-x) % n) = n - (-x) % n := by rw [IntKind.wrap_u64]; unfold I64 at hn; omega
  unfold I64 at hn
  generalize (-x) / n + 1 = m' at *
  generalize (-x) / n = m at *
  generalize (-x) % n = r at *
  clear hx h0 hu hn64 q0 hq e1 e2 qneg hmu hw
  go_enter Tryd.func34, Tryd.ntmps34
  go_wp2_with fail
  refine (hA.out _).mono ?_
  rintro e w1 ⟨rfl, hb1⟩
  obtain ⟨cc, cd, cf, cg⟩ := later2 hb1 (g := w.heap.size) (u := .int .i64 (hi x)) (v := .int .u64 (lo x)) (by simp [go_sem]) (by simp [go_sem]) (by simp [go_sem]) (by simp [go_sem])
  have cz : w.heap.size < w1.heap.size := World.block_lt_of_cell? _ _ cc
  obtain ⟨dc, dd, df, dg⟩ := later2 hb1 (g := w.heap.size + 1) (u := .int .i64 0) (v := .int .u64 0) (by simp [go_sem]) (by simp [go_sem]) (by simp [go_sem]) (by simp [go_sem])
  have dz : w.heap.size + 1 < w1.heap.size := World.block_lt_of_cell? _ _ dc
  have b1 : Below w.heap.size w w1 := bl2 hb1 (by repeat (first | assumption | exact Below.refl _ _ | refine Below.setCell ?_ (by first | exact Nat.le_refl _ | (simp; done) | (simp; omega) | omega) _ | refine Below.alloc ?_ (by first | exact Nat.le_refl _ | (simp; done) | (simp; omega) | omega) _ | refine Below.drew ?_ | exact Nat.le_refl _))
  have z1 := hb1.size
  try simp at z1
  clear hb1
  go_wp2_with fail
  refine (hD.out _).mono ?_
  rintro e w2 ⟨rfl, hb2⟩
  obtain ⟨ec, ed, ef, eg⟩ := later2 hb2 (g := w.heap.size) (u := .int .i64 (hi x)) (v := .int .u64 (lo x)) (by simp [go_sem, *]) (by simp [go_sem, *]) (by simp [go_sem, *]) (by simp [go_sem, *])
  have ez : w.heap.size < w2.heap.size := World.block_lt_of_cell? _ _ ec
  obtain ⟨fc, fd, ff, fg⟩ := later2 hb2 (g := w.heap.size + 1) (u := .int .i64 0) (v := .int .u64 0) (by simp [go_sem, *]) (by simp [go_sem, *]) (by simp [go_sem, *]) (by simp [go_sem, *])
  have fz : w.heap.size + 1 < w2.heap.size := World.block_lt_of_cell? _ _ fc
  have b2 : Below w.heap.size w w2 := bl2 hb2 (by repeat (first | assumption | exact Below.refl _ _ | refine Below.setCell ?_ (by first | exact Nat.le_refl _ | (simp; done) | (simp; omega) | omega) _ | refine Below.alloc ?_ (by first | exact Nat.le_refl _ | (simp; done) | (simp; omega) | omega) _ | refine Below.drew ?_ | exact Nat.le_refl _))
  have z2 := hb2.size
  try simp at z2
  clear hb2
  clear cc cd cf cg dc dd df dg
  go_wp2_with fail
  have hb3 : Below (w2).heap.size (w2) ((w2).alloc (.cells #[.int .u64 (hi m), .int .u64 (lo m)] 66)) := (Below.refl _ _).alloc (Nat.le_refl _) _
  have oc : ((w2).alloc (.cells #[.int .u64 (hi m), .int .u64 (lo m)] 66)).cell? ⟨(w2).heap.size, 0, none⟩ = some (.int .u64 (hi m)) := by simp [go_sem]
  have od : ((w2).alloc (.cells #[.int .u64 (hi m), .int .u64 (lo m)] 66)).cell? ⟨(w2).heap.size, 1, none⟩ = some (.int .u64 (lo m)) := by simp [go_sem]
  have of : ((w2).alloc (.cells #[.int .u64 (hi m), .int .u64 (lo m)] 66)).frozen? ⟨(w2).heap.size, 0, none⟩ = false := by simp [go_sem]
  have og : ((w2).alloc (.cells #[.int .u64 (hi m), .int .u64 (lo m)] 66)).frozen? ⟨(w2).heap.size, 1, none⟩ = false := by simp [go_sem]
  have oz : (w2).heap.size < ((w2).alloc (.cells #[.int .u64 (hi m), .int .u64 (lo m)] 66)).heap.size := by simp
  generalize (w2).alloc (.cells #[.int .u64 (hi m), .int .u64 (lo m)] 66) = w3 at *
  obtain ⟨sc, sd, sf, sg⟩ := later2 hb3 (g := w.heap.size) (u := .int .i64 (hi x)) (v := .int .u64 (lo x)) (by simp [go_sem, *]) (by simp [go_sem, *]) (by simp [go_sem, *]) (by simp [go_sem, *])
  have sz : w.heap.size < w3.heap.size := World.block_lt_of_cell? _ _ sc
  obtain ⟨tc, td, tf, tg⟩ := later2 hb3 (g := w.heap.size + 1) (u := .int .i64 0) (v := .int .u64 0) (by simp [go_sem, *]) (by simp [go_sem, *]) (by simp [go_sem, *]) (by simp [go_sem, *])
  have tz : w.heap.size + 1 < w3.heap.size := World.block_lt_of_cell? _ _ tc
  have b3 : Below w.heap.size w w3 := bl2 hb3 (by repeat (first | assumption | exact Below.refl _ _ | refine Below.setCell ?_ (by first | exact Nat.le_refl _ | (simp; done) | (simp; omega) | omega) _ | refine Below.alloc ?_ (by first | exact Nat.le_refl _ | (simp; done) | (simp; omega) | omega) _ | refine Below.drew ?_ | exact Nat.le_refl _))
  have z3 := hb3.size
  try simp at z3
  clear hb3
  clear ec ed ef eg fc fd ff fg
  go_wp2_with fail
  refine (hT.out _).mono ?_
  rintro e w4 ⟨rfl, hb4⟩
  obtain ⟨uc, ud, uf, ug⟩ := later2 hb4 (g := w.heap.size) (u := .int .i64 (hi x)) (v := .int .u64 (lo x)) (by simp [go_sem, *]) (by simp [go_sem, *]) (by simp [go_sem, *]) (by simp [go_sem, *])
  have uz : w.heap.size < w4.heap.size := World.block_lt_of_cell? _ _ uc
  obtain ⟨jc, jd, jf, jg⟩ := later2 hb4 (g := w.heap.size + 1) (u := .int .i64 0) (v := .int .u64 0) (by simp [go_sem, *]) (by simp [go_sem, *]) (by simp [go_sem, *]) (by simp [go_sem, *])
  have jz : w.heap.size + 1 < w4.heap.size := World.block_lt_of_cell? _ _ jc
  obtain ⟨lc, ld, lf, lg⟩ := later2 hb4 (g := w2.heap.size) (u := .int .u64 (hi m)) (v := .int .u64 (lo m)) (by simp [go_sem, *]) (by simp [go_sem, *]) (by simp [go_sem, *]) (by simp [go_sem, *])
  have lz : w2.heap.size < w4.heap.size := World.block_lt_of_cell? _ _ lc
  have b4 : Below w.heap.size w w4 := bl2 hb4 (by repeat (first | assumption | exact Below.refl _ _ | refine Below.setCell ?_ (by first | exact Nat.le_refl _ | (simp; done) | (simp; omega) | omega) _ | refine Below.alloc ?_ (by first | exact Nat.le_refl _ | (simp; done) | (simp; omega) | omega) _ | refine Below.drew ?_ | exact Nat.le_refl _))
  have z4 := hb4.size
  try simp at z4
  clear hb4
  clear oc od of og sc sd sf sg tc td tf tg
  go_wp2_with fail
  have gc : ((w4.setCell ⟨w2.heap.size, 0, none⟩ (.int .u64 (hi m'))).setCell ⟨w2.heap.size, 1, none⟩ (.int .u64 (lo m'))).cell? ⟨w.heap.size, 0, none⟩ = some (.int .i64 (hi x)) := by simp [go_sem, *]
  have gd : ((w4.setCell ⟨w2.heap.size, 0, none⟩ (.int .u64 (hi m'))).setCell ⟨w2.heap.size, 1, none⟩ (.int .u64 (lo m'))).cell? ⟨w.heap.size, 1, none⟩ = some (.int .u64 (lo x)) := by simp [go_sem, *]
  have gf : ((w4.setCell ⟨w2.heap.size, 0, none⟩ (.int .u64 (hi m'))).setCell ⟨w2.heap.size, 1, none⟩ (.int .u64 (lo m'))).frozen? ⟨w.heap.size, 0, none⟩ = false := by simp [go_sem, *]
  have gg : ((w4.setCell ⟨w2.heap.size, 0, none⟩ (.int .u64 (hi m'))).setCell ⟨w2.heap.size, 1, none⟩ (.int .u64 (lo m'))).frozen? ⟨w.heap.size, 1, none⟩ = false := by simp [go_sem, *]
  have gz : w.heap.size < ((w4.setCell ⟨w2.heap.size, 0, none⟩ (.int .u64 (hi m'))).setCell ⟨w2.heap.size, 1, none⟩ (.int .u64 (lo m'))).heap.size := World.block_lt_of_cell? _ _ gc
  have hc : ((w4.setCell ⟨w2.heap.size, 0, none⟩ (.int .u64 (hi m'))).setCell ⟨w2.heap.size, 1, none⟩ (.int .u64 (lo m'))).cell? ⟨w.heap.size + 1, 0, none⟩ = some (.int .i64 0) := by simp [go_sem, *]
  have hd : ((w4.setCell ⟨w2.heap.size, 0, none⟩ (.int .u64 (hi m'))).setCell ⟨w2.heap.size, 1, none⟩ (.int .u64 (lo m'))).cell? ⟨w.heap.size + 1, 1, none⟩ = some (.int .u64 0) := by simp [go_sem, *]
  have hf : ((w4.setCell ⟨w2.heap.size, 0, none⟩ (.int .u64 (hi m'))).setCell ⟨w2.heap.size, 1, none⟩ (.int .u64 (lo m'))).frozen? ⟨w.heap.size + 1, 0, none⟩ = false := by simp [go_sem, *]
  have hg : ((w4.setCell ⟨w2.heap.size, 0, none⟩ (.int .u64 (hi m'))).setCell ⟨w2.heap.size, 1, none⟩ (.int .u64 (lo m'))).frozen? ⟨w.heap.size + 1, 1, none⟩ = false := by simp [go_sem, *]
  have hz : w.heap.size + 1 < ((w4.setCell ⟨w2.heap.size, 0, none⟩ (.int .u64 (hi m'))).setCell ⟨w2.heap.size, 1, none⟩ (.int .u64 (lo m'))).heap.size := World.block_lt_of_cell? _ _ hc
  have pc : ((w4.setCell ⟨w2.heap.size, 0, none⟩ (.int .u64 (hi m'))).setCell ⟨w2.heap.size, 1, none⟩ (.int .u64 (lo m'))).cell? ⟨w2.heap.size, 0, none⟩ = some (.int .u64 (hi m')) := by simp [go_sem, *]
  have pd : ((w4.setCell ⟨w2.heap.size, 0, none⟩ (.int .u64 (hi m'))).setCell ⟨w2.heap.size, 1, none⟩ (.int .u64 (lo m'))).cell? ⟨w2.heap.size, 1, none⟩ = some (.int .u64 (lo m')) := by simp [go_sem, *]
  have pf : ((w4.setCell ⟨w2.heap.size, 0, none⟩ (.int .u64 (hi m'))).setCell ⟨w2.heap.size, 1, none⟩ (.int .u64 (lo m'))).frozen? ⟨w2.heap.size, 0, none⟩ = false := by simp [go_sem, *]
  have pg : ((w4.setCell ⟨w2.heap.size, 0, none⟩ (.int .u64 (hi m'))).setCell ⟨w2.heap.size, 1, none⟩ (.int .u64 (lo m'))).frozen? ⟨w2.heap.size, 1, none⟩ = false := by simp [go_sem, *]
  have pz : w2.heap.size < ((w4.setCell ⟨w2.heap.size, 0, none⟩ (.int .u64 (hi m'))).setCell ⟨w2.heap.size, 1, none⟩ (.int .u64 (lo m'))).heap.size := World.block_lt_of_cell? _ _ pc
  have b5 : Below w.heap.size w ((w4.setCell ⟨w2.heap.size, 0, none⟩ (.int .u64 (hi m'))).setCell ⟨w2.heap.size, 1, none⟩ (.int .u64 (lo m'))) := (by repeat (first | assumption | exact Below.refl _ _ | refine Below.setCell ?_ (by first | exact Nat.le_refl _ | (simp; done) | (simp; omega) | omega) _ | refine Below.alloc ?_ (by first | exact Nat.le_refl _ | (simp; done) | (simp; omega) | omega) _ | refine Below.drew ?_ | exact Nat.le_refl _))
  clear uc ud uf ug jc jd jf jg lc ld lf lg b4
  generalize (w4.setCell ⟨w2.heap.size, 0, none⟩ (.int .u64 (hi m'))).setCell ⟨w2.heap.size, 1, none⟩ (.int .u64 (lo m')) = w5 at *
  refine Reg.region_alloc 14 13 9 (.cells #[.int .i64 0, .int .u64 0] 24) [(12, 14)] (by kernel_rfl) (by kernel_rfl) (by kernel_rfl) (fun d _ _ _ _ h => by cases d <;> exact h) _ rfl rfl rfl ?hex ?rest
  case hex => intro ρ W; simp [go_sem, Reg.ptr]
  simp only [Reg.edges, Reg.edge]
  apply Exists.intro
  refine ⟨?walk, ?tail⟩
  case walk =>
    intro C hC
    simp only [Reg.blank, List.take_succ_cons, List.take_zero]
    iterate 14 (first | go_big_quiet_skip | (go_big_quiet_want; (first | (go_big_quiet_op; go_big_quiet_on) | (apply Reg.quiet_run; (intro W hW; have q1 := hC.cell hW gc; have q2 := hC.cell hW pc; have q3 := hC.cell hW pd; go_simp; (first | done | rfl | exact ⟨rfl, rfl⟩ | exact ne_zero_pick hm.out)); (simp only [Act.put, List.setIfInBounds_toArray, List.set_cons_zero, List.set_cons_succ]; go_big_quiet_on)) | (apply Reg.quiet_call; (intro W hW; go_simp; (first | done | rfl | exact ⟨rfl, rfl⟩)); (intro W hW; (first | (go_at_call 53; exact hC.call hW (hS.out _)))); (simp only [Act.put, List.setIfInBounds_toArray, List.set_cons_zero, List.set_cons_succ]; go_big_quiet_on)))))
    exact wpQuiet_nil rfl
  case tail =>
    intro W w9 hW hb
    have hW9 := Reg.alc_back hW hb
    obtain ⟨nc, nd, nf, ng, nz⟩ := Reg.alc_cell2 hb
    have hc9 := hW9.cell hc
    have hd9 := hW9.cell hd
    have hf9 := hW9.frozen hc hf
    have hg9 := hW9.frozen hd hg
    have b9 := bl2 hW9 b5
    have k9 := hW.size
    clear hb hW hW9
    simp only [List.drop_succ_cons, List.drop_zero, Act.put, List.setIfInBounds_toArray, List.set_cons_zero, List.set_cons_succ, Reg.ptr]
    generalize W.heap.size = k at *
    go_wp2_with fail
    simp [bodyPost, results, Tryd.results34, go_sem, hc9, hd9]
    exact (by repeat (first | assumption | exact Below.refl _ _ | refine Below.setCell ?_ (by first | exact Nat.le_refl _ | (simp; done) | (simp; omega) | omega) _ | refine Below.alloc ?_ (by first | exact Nat.le_refl _ | (simp; done) | (simp; omega) | omega) _ | refine Below.drew ?_ | exact Nat.le_refl _))
end Go.Proofs.YtieklkpjlbpnbaaDoor.Wt
