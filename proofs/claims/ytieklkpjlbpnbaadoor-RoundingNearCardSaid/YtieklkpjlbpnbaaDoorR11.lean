/-
  The contracts of the reference's Int, Cmp and Div.
-/
import Derived.Test.YtieklkpjlbpnbaaDoorR8
import Derived.Test.YtieklkpjlbpnbaaDoorR10
import Derived.Test.YtieklkpjlbpnbaaDoorROf
import Derived.Test.YtieklkpjlbpnbaaDoorWide9
namespace Go.Proofs.YtieklkpjlbpnbaaDoor.Wt
open Go.RowKit
open Go.Proofs.YtieklkpjlbpnbaaDoor
open Go.Proofs.YtieklkpjlbpnbaaDoor.Wm

theorem iw (n : Int) : IntKind.i64.wrap n = wrap64 n := by rw [IntKind.wrap_i64]; unfold wrap64; omega
theorem rint_any (x : Int) (w : World) : Calls Tryd.prog 32 #[.agg #[.int .i64 (hi x), .int .u64 (lo x)]] w fun e w' => e = .returned (.tuple #[.int .i64 (ifit x), .bool (iin x)]) ∧ Below w.heap.size w w' := by
  by_cases h : I64 x
  · obtain ⟨h1, h2, h3⟩ := int_yes h
    rw [h2, h3]
    have H1 := Lib.hid h1
    have hO := Lib.hid (fun W => rof_any x W h)
    clear h1 h2 h3
    go_enter Tryd.func32, Tryd.ntmps32
    go_wp2_with fail
    have hb1 : Below (w).heap.size (w) ((w).alloc (.cells #[.int .i64 (hi x), .int .u64 (lo x)] 24)) := (Below.refl _ _).alloc (Nat.le_refl _) _
    have cc : ((w).alloc (.cells #[.int .i64 (hi x), .int .u64 (lo x)] 24)).cell? ⟨(w).heap.size, 0, none⟩ = some (.int .i64 (hi x)) := by simp [go_sem]
    have cd : ((w).alloc (.cells #[.int .i64 (hi x), .int .u64 (lo x)] 24)).cell? ⟨(w).heap.size, 1, none⟩ = some (.int .u64 (lo x)) := by simp [go_sem]
    have cf : ((w).alloc (.cells #[.int .i64 (hi x), .int .u64 (lo x)] 24)).frozen? ⟨(w).heap.size, 0, none⟩ = false := by simp [go_sem]
    have cg : ((w).alloc (.cells #[.int .i64 (hi x), .int .u64 (lo x)] 24)).frozen? ⟨(w).heap.size, 1, none⟩ = false := by simp [go_sem]
    have cz : (w).heap.size < ((w).alloc (.cells #[.int .i64 (hi x), .int .u64 (lo x)] 24)).heap.size := by simp
    generalize (w).alloc (.cells #[.int .i64 (hi x), .int .u64 (lo x)] 24) = w1 at *
    refine Reg.region_quiet (by kernel_rfl) (by kernel_rfl) ?_
    iterate 6 (first | go_big_quiet_skip | (go_big_quiet_want; (first | (go_big_quiet_op; go_big_quiet_on) | (apply Reg.quiet_run; (intro W hW; have q1 := hW.cell cc; have q2 := hW.cell cd; go_simp; (first | done | rfl | exact ⟨rfl, rfl⟩ )); (simp only [Act.put, List.setIfInBounds_toArray, List.set_cons_zero, List.set_cons_succ]; go_big_quiet_on)) | (apply Reg.quiet_call; (intro W hW; go_simp; (first | done | rfl | exact ⟨rfl, rfl⟩)); (intro W hW; (first | (go_at_call 21; rw [iw, H1.out]; exact Reg.cls_call hW (hO.out _)))); (simp only [Act.put, List.setIfInBounds_toArray, List.set_cons_zero, List.set_cons_succ]; go_big_quiet_on)))))
    refine wpQuiet_nil ?_
    intro w2 hW
    have b2 := bl2 hW hb1
    have rc := hW.cell cc
    have rd := hW.cell cd
    clear hW
    go_wp2_with fail
    rw [H1.out]
    go_ret2
    exact ⟨rfl, b2⟩
  · obtain ⟨h1, h2, h3, h4, h5⟩ := int_no h
    rw [h4, h5]
    have hO := Lib.hid (fun W => rof_any _ W h1)
    clear h1 h4 h5
    go_enter Tryd.func32, Tryd.ntmps32
    go_wp2_with fail
    have hg := Lib.hid (iw (lo x))
    generalize wrap64 (lo x) = n at *
    have hb1 : Below (w).heap.size (w) ((w).alloc (.cells #[.int .i64 (hi x), .int .u64 (lo x)] 24)) := (Below.refl _ _).alloc (Nat.le_refl _) _
    have cc : ((w).alloc (.cells #[.int .i64 (hi x), .int .u64 (lo x)] 24)).cell? ⟨(w).heap.size, 0, none⟩ = some (.int .i64 (hi x)) := by simp [go_sem]
    have cd : ((w).alloc (.cells #[.int .i64 (hi x), .int .u64 (lo x)] 24)).cell? ⟨(w).heap.size, 1, none⟩ = some (.int .u64 (lo x)) := by simp [go_sem]
    have cf : ((w).alloc (.cells #[.int .i64 (hi x), .int .u64 (lo x)] 24)).frozen? ⟨(w).heap.size, 0, none⟩ = false := by simp [go_sem]
    have cg : ((w).alloc (.cells #[.int .i64 (hi x), .int .u64 (lo x)] 24)).frozen? ⟨(w).heap.size, 1, none⟩ = false := by simp [go_sem]
    have cz : (w).heap.size < ((w).alloc (.cells #[.int .i64 (hi x), .int .u64 (lo x)] 24)).heap.size := by simp
    generalize (w).alloc (.cells #[.int .i64 (hi x), .int .u64 (lo x)] 24) = w1 at *
    refine Reg.region_quiet (by kernel_rfl) (by kernel_rfl) ?_
    iterate 6 (first | go_big_quiet_skip | (go_big_quiet_want; (first | (go_big_quiet_op; go_big_quiet_on) | (apply Reg.quiet_run; (intro W hW; have q1 := hW.cell cc; have q2 := hW.cell cd; go_simp; (first | done | rfl | exact ⟨rfl, rfl⟩ )); (simp only [Act.put, List.setIfInBounds_toArray, List.set_cons_zero, List.set_cons_succ]; go_big_quiet_on)) | (apply Reg.quiet_call; (intro W hW; go_simp; (first | done | rfl | exact ⟨rfl, rfl⟩)); (intro W hW; (first | (go_at_call 21; rw [hg.out]; exact Reg.cls_call hW (hO.out _)))); (simp only [Act.put, List.setIfInBounds_toArray, List.set_cons_zero, List.set_cons_succ]; go_big_quiet_on)))))
    refine wpQuiet_nil ?_
    intro w2 hW
    have b2 := bl2 hW hb1
    clear hW
    go_wp2_with fail
    go_ret2
    exact ⟨rfl, b2⟩

theorem rcmp_any (x y : Int) (w : World) : Calls Tryd.prog 20 #[.agg #[.int .i64 (hi x), .int .u64 (lo x)], .agg #[.int .i64 (hi y), .int .u64 (lo y)]] w fun e w' => e = .returned (.int .i64 (cmp x y)) ∧ Below w.heap.size w w' := by
  have lx := hi_lo x
  have ly := hi_lo y
  have bx := lo_bd x
  have by' := lo_bd y
  unfold U64 at bx by'
  by_cases h : x = y
  · subst h
    rw [show cmp x x = 0 from if_pos rfl]
    go_enter Tryd.func20, Tryd.ntmps20
    go_wp2_with fail
    go_ret
    exact ⟨rfl, (by repeat (first | assumption | exact Below.refl _ _ | refine Below.setCell ?_ (by first | exact Nat.le_refl _ | (simp; done) | (simp; omega) | omega) _ | refine Below.alloc ?_ (by first | exact Nat.le_refl _ | (simp; done) | (simp; omega) | omega) _ | refine Below.drew ?_ | exact Nat.le_refl _))⟩
  · have hne : ¬ (hi x = hi y ∧ lo x = lo y) := fun ⟨a, b⟩ => h (hl_inj a b)
    have hlt : (x < y ∧ cmp x y = -1 ∧ (hi x < hi y ∨ hi x = hi y ∧ lo x < lo y)) ∨ (y < x ∧ cmp x y = 1 ∧ (hi y < hi x ∨ hi x = hi y ∧ lo y < lo x)) := by
      unfold cmp
      by_cases hl : x < y
      · exact .inl ⟨hl, by rw [if_neg h, if_pos hl], by omega⟩
      · exact .inr ⟨by omega, by rw [if_neg h, if_neg hl], by omega⟩
    clear h lx ly bx by'
    rcases hlt with ⟨-, hc, h | ⟨h1, h2⟩⟩ | ⟨-, hc, h | ⟨h1, h2⟩⟩
    all_goals rw [hc]; clear hc
    all_goals
      go_enter Tryd.func20, Tryd.ntmps20
      go_wp2_with fail
      go_ret
      exact ⟨rfl, (by repeat (first | assumption | exact Below.refl _ _ | refine Below.setCell ?_ (by first | exact Nat.le_refl _ | (simp; done) | (simp; omega) | omega) _ | refine Below.alloc ?_ (by first | exact Nat.le_refl _ | (simp; done) | (simp; omega) | omega) _ | refine Below.drew ?_ | exact Nat.le_refl _))⟩

/-! ### Div -/
theorem rdiv_zero (x n : Int) (w : World) (hn : n < 1) : Calls Tryd.prog 31 #[.agg #[.int .i64 (hi x), .int .u64 (lo x)], .int .i64 n] w fun e w' => e = .returned (.tuple #[.agg #[.int .i64 0, .int .u64 0], .int .i64 0, .int .i64 1]) ∧ Below w.heap.size w w' := by
  go_enter Tryd.func31, Tryd.ntmps31
  go_wp2_with fail
  simp [bodyPost, results, Tryd.results31, go_sem]
  exact (by repeat (first | assumption | exact Below.refl _ _ | refine Below.setCell ?_ (by first | exact Nat.le_refl _ | (simp; done) | (simp; omega) | omega) _ | refine Below.alloc ?_ (by first | exact Nat.le_refl _ | (simp; done) | (simp; omega) | omega) _ | refine Below.drew ?_ | exact Nat.le_refl _))
theorem rdiv_pos (x n : Int) (w : World) (hx : I128 x) (hn : I64 n) (h1 : 1 ≤ n) (h0 : 0 ≤ x) : Calls Tryd.prog 31 #[.agg #[.int .i64 (hi x), .int .u64 (lo x)], .int .i64 n] w fun e w' => e = .returned (.tuple #[.agg #[.int .i64 (hi (x / n)), .int .u64 (lo (x / n))], .int .i64 (x % n), .int .i64 0]) ∧ Below w.heap.size w w' := by
  have hu : U128 x := by have := ab_u128 hx; rwa [ab_pos h0] at this
  have hA := Lib.hid (fun W => rsplit_any x W hx)
  rw [ab_pos h0, decide_eq_false (show ¬ x < 0 by omega)] at hA
  unfold I64 at hn
  have hD := Lib.hid (fun W => rquot_any x n W hu (by omega) (by omega))
  have hq := quo_bd hx (show 0 < n by omega)
  have q0 := Int.ediv_nonneg h0 (show 0 ≤ n by omega)
  have hJ := Lib.hid (fun W => join_of (x / n) false W hq (.inl (decide_eq_false (by omega)).symm))
  rw [ab_pos q0] at hJ
  have r0 := Int.emod_nonneg x (show n ≠ 0 by omega)
  have r1 := Int.emod_lt_of_pos x (show 0 < n by omega)
  generalize x / n = q at *
  generalize x % n = r at *
  clear hx h0 hu q0 hq
  go_enter Tryd.func31, Tryd.ntmps31
  go_wp2_with fail
  refine (hA.out _).mono ?_
  rintro e w1 ⟨rfl, hb1⟩
  obtain ⟨dc, dd, df, dg⟩ := later2 hb1 (g := w.heap.size + 1) (u := .int .i64 0) (v := .int .u64 0) (by simp [go_sem]) (by simp [go_sem]) (by simp [go_sem]) (by simp [go_sem])
  have dz : w.heap.size + 1 < w1.heap.size := World.block_lt_of_cell? _ _ dc
  have b1 : Below w.heap.size w w1 := bl2 hb1 (by repeat (first | assumption | exact Below.refl _ _ | refine Below.setCell ?_ (by first | exact Nat.le_refl _ | (simp; done) | (simp; omega) | omega) _ | refine Below.alloc ?_ (by first | exact Nat.le_refl _ | (simp; done) | (simp; omega) | omega) _ | refine Below.drew ?_ | exact Nat.le_refl _))
  have z1 := hb1.size
  try simp at z1
  clear hb1
  go_wp2_with fail
  refine (hD.out _).mono ?_
  rintro e w2 ⟨rfl, hb2⟩
  obtain ⟨fc, fd, ff, fg⟩ := later2 hb2 (g := w.heap.size + 1) (u := .int .i64 0) (v := .int .u64 0) (by simp [go_sem, *]) (by simp [go_sem, *]) (by simp [go_sem, *]) (by simp [go_sem, *])
  have fz : w.heap.size + 1 < w2.heap.size := World.block_lt_of_cell? _ _ fc
  have b2 : Below w.heap.size w w2 := bl2 hb2 (by repeat (first | assumption | exact Below.refl _ _ | refine Below.setCell ?_ (by first | exact Nat.le_refl _ | (simp; done) | (simp; omega) | omega) _ | refine Below.alloc ?_ (by first | exact Nat.le_refl _ | (simp; done) | (simp; omega) | omega) _ | refine Below.drew ?_ | exact Nat.le_refl _))
  have z2 := hb2.size
  try simp at z2
  clear hb2
  clear dc dd df dg
  go_wp2_with fail
  refine (hJ.out _).mono ?_
  rintro e w9 ⟨rfl, hb9⟩
  obtain ⟨jc, jd, jf, jg⟩ := later2 hb9 (g := w.heap.size + 1) (u := .int .i64 0) (v := .int .u64 0) (by simp [go_sem, *]) (by simp [go_sem, *]) (by simp [go_sem, *]) (by simp [go_sem, *])
  have jz : w.heap.size + 1 < w9.heap.size := World.block_lt_of_cell? _ _ jc
  have b9 : Below w.heap.size w w9 := bl2 hb9 (by repeat (first | assumption | exact Below.refl _ _ | refine Below.setCell ?_ (by first | exact Nat.le_refl _ | (simp; done) | (simp; omega) | omega) _ | refine Below.alloc ?_ (by first | exact Nat.le_refl _ | (simp; done) | (simp; omega) | omega) _ | refine Below.drew ?_ | exact Nat.le_refl _))
  have z9 := hb9.size
  try simp at z9
  clear hb9
  go_wp2_with fail
  simp [bodyPost, results, Tryd.results31, go_sem, jc, jd, jz]
  exact (by repeat (first | assumption | exact Below.refl _ _ | refine Below.setCell ?_ (by first | exact Nat.le_refl _ | (simp; done) | (simp; omega) | omega) _ | refine Below.alloc ?_ (by first | exact Nat.le_refl _ | (simp; done) | (simp; omega) | omega) _ | refine Below.drew ?_ | exact Nat.le_refl _))
theorem rdiv_neg0 (x n : Int) (w : World) (hx : I128 x) (hn : I64 n) (h1 : 1 ≤ n) (h0 : x < 0) (hr : (-x) % n = 0) : Calls Tryd.prog 31 #[.agg #[.int .i64 (hi x), .int .u64 (lo x)], .int .i64 n] w fun e w' => e = .returned (.tuple #[.agg #[.int .i64 (hi (x / n)), .int .u64 (lo (x / n))], .int .i64 (x % n), .int .i64 0]) ∧ Below w.heap.size w w' := by
  have hu : U128 (-x) := by have := ab_u128 hx; rwa [ab_neg h0] at this
  have hA := Lib.hid (fun W => rsplit_any x W hx)
  rw [ab_neg h0, decide_eq_true h0] at hA
  unfold I64 at hn
  have hD := Lib.hid (fun W => rquot_any (-x) n W hu (by omega) (by omega))
  have hq := quo_bd hx (show 0 < n by omega)
  obtain ⟨e1, e2⟩ := quo_neg (show 0 < n by omega) hr
  have qneg : x / n < 0 := Int.ediv_neg_of_neg_of_pos h0 (by omega)
  have hJ := Lib.hid (fun W => join_of (x / n) true W hq (.inl (decide_eq_true qneg).symm))
  rw [ab_neg qneg, e1, Int.neg_neg] at hJ
  rw [e2, e1]
  rw [hr] at hD
  generalize (-x) / n = m at *
  clear hx h0 hu hr hq e1 e2 qneg
  go_enter Tryd.func31, Tryd.ntmps31
  go_wp2_with fail
  refine (hA.out _).mono ?_
  rintro e w1 ⟨rfl, hb1⟩
  obtain ⟨dc, dd, df, dg⟩ := later2 hb1 (g := w.heap.size + 1) (u := .int .i64 0) (v := .int .u64 0) (by simp [go_sem]) (by simp [go_sem]) (by simp [go_sem]) (by simp [go_sem])
  have dz : w.heap.size + 1 < w1.heap.size := World.block_lt_of_cell? _ _ dc
  have b1 : Below w.heap.size w w1 := bl2 hb1 (by repeat (first | assumption | exact Below.refl _ _ | refine Below.setCell ?_ (by first | exact Nat.le_refl _ | (simp; done) | (simp; omega) | omega) _ | refine Below.alloc ?_ (by first | exact Nat.le_refl _ | (simp; done) | (simp; omega) | omega) _ | refine Below.drew ?_ | exact Nat.le_refl _))
  have z1 := hb1.size
  try simp at z1
  clear hb1
  go_wp2_with fail
  refine (hD.out _).mono ?_
  rintro e w2 ⟨rfl, hb2⟩
  obtain ⟨fc, fd, ff, fg⟩ := later2 hb2 (g := w.heap.size + 1) (u := .int .i64 0) (v := .int .u64 0) (by simp [go_sem, *]) (by simp [go_sem, *]) (by simp [go_sem, *]) (by simp [go_sem, *])
  have fz : w.heap.size + 1 < w2.heap.size := World.block_lt_of_cell? _ _ fc
  have b2 : Below w.heap.size w w2 := bl2 hb2 (by repeat (first | assumption | exact Below.refl _ _ | refine Below.setCell ?_ (by first | exact Nat.le_refl _ | (simp; done) | (simp; omega) | omega) _ | refine Below.alloc ?_ (by first | exact Nat.le_refl _ | (simp; done) | (simp; omega) | omega) _ | refine Below.drew ?_ | exact Nat.le_refl _))
  have z2 := hb2.size
  try simp at z2
  clear hb2
  clear dc dd df dg
  go_wp2_with fail
  refine (hJ.out _).mono ?_
  rintro e w9 ⟨rfl, hb9⟩
  obtain ⟨jc, jd, jf, jg⟩ := later2 hb9 (g := w.heap.size + 1) (u := .int .i64 0) (v := .int .u64 0) (by simp [go_sem, *]) (by simp [go_sem, *]) (by simp [go_sem, *]) (by simp [go_sem, *])
  have jz : w.heap.size + 1 < w9.heap.size := World.block_lt_of_cell? _ _ jc
  have b9 : Below w.heap.size w w9 := bl2 hb9 (by repeat (first | assumption | exact Below.refl _ _ | refine Below.setCell ?_ (by first | exact Nat.le_refl _ | (simp; done) | (simp; omega) | omega) _ | refine Below.alloc ?_ (by first | exact Nat.le_refl _ | (simp; done) | (simp; omega) | omega) _ | refine Below.drew ?_ | exact Nat.le_refl _))
  have z9 := hb9.size
  try simp at z9
  clear hb9
  go_wp2_with fail
  simp [bodyPost, results, Tryd.results31, go_sem, jc, jd, jz]
  exact (by repeat (first | assumption | exact Below.refl _ _ | refine Below.setCell ?_ (by first | exact Nat.le_refl _ | (simp; done) | (simp; omega) | omega) _ | refine Below.alloc ?_ (by first | exact Nat.le_refl _ | (simp; done) | (simp; omega) | omega) _ | refine Below.drew ?_ | exact Nat.le_refl _))
theorem rdiv_neg1 (x n : Int) (w : World) (hx : I128 x) (hn : I64 n) (h1 : 1 ≤ n) (h0 : x < 0) (hr : 0 < (-x) % n) : Calls Tryd.prog 31 #[.agg #[.int .i64 (hi x), .int .u64 (lo x)], .int .i64 n] w fun e w' => e = .returned (.tuple #[.agg #[.int .i64 (hi (x / n)), .int .u64 (lo (x / n))], .int .i64 (x % n), .int .i64 0]) ∧ Below w.heap.size w w' := by
  have hu : U128 (-x) := by have := ab_u128 hx; rwa [ab_neg h0] at this
  have hA := Lib.hid (fun W => rsplit_any x W hx)
  rw [ab_neg h0, decide_eq_true h0] at hA
  unfold I64 at hn
  have hD := Lib.hid (fun W => rquot_any (-x) n W hu (by omega) (by omega))
  have hq := quo_bd hx (show 0 < n by omega)
  obtain ⟨e1, e2⟩ := quo_neg2 (show 0 < n by omega) hr
  have qneg : x / n < 0 := Int.ediv_neg_of_neg_of_pos h0 (by omega)
  have hJ := Lib.hid (fun W => join_of (x / n) true W hq (.inl (decide_eq_true qneg).symm))
  rw [ab_neg qneg, e1, Int.neg_neg] at hJ
  rw [e2, e1]
  have q0 := Int.ediv_nonneg (show 0 ≤ -x by omega) (show 0 ≤ n by omega)
  have r1 := Int.emod_lt_of_pos (-x) (show 0 < n by omega)
  have hmu : (-x) / n ≤ 170141183460469231731687303715884105728 := by
    have := Int.ediv_le_self n (show 0 ≤ -x by omega); unfold I128 at hx; omega
  have hT := Lib.hid (fun W => rplus_yes ((-x) / n) 1 W ⟨q0, by omega⟩ (by unfold U128; omega) (by omega))
  rw [show hi 1 = 0 from rfl, show lo 1 = 1 from rfl] at hT
  generalize (-x) / n + 1 = m' at *
  generalize (-x) / n = m at *
  generalize (-x) % n = r at *
  clear hx h0 hu hq e1 e2 qneg hmu q0
  go_enter Tryd.func31, Tryd.ntmps31
  go_wp2_with fail
  refine (hA.out _).mono ?_
  rintro e w1 ⟨rfl, hb1⟩
  obtain ⟨dc, dd, df, dg⟩ := later2 hb1 (g := w.heap.size + 1) (u := .int .i64 0) (v := .int .u64 0) (by simp [go_sem]) (by simp [go_sem]) (by simp [go_sem]) (by simp [go_sem])
  have dz : w.heap.size + 1 < w1.heap.size := World.block_lt_of_cell? _ _ dc
  have b1 : Below w.heap.size w w1 := bl2 hb1 (by repeat (first | assumption | exact Below.refl _ _ | refine Below.setCell ?_ (by first | exact Nat.le_refl _ | (simp; done) | (simp; omega) | omega) _ | refine Below.alloc ?_ (by first | exact Nat.le_refl _ | (simp; done) | (simp; omega) | omega) _ | refine Below.drew ?_ | exact Nat.le_refl _))
  have z1 := hb1.size
  try simp at z1
  clear hb1
  go_wp2_with fail
  refine (hD.out _).mono ?_
  rintro e w2 ⟨rfl, hb2⟩
  obtain ⟨fc, fd, ff, fg⟩ := later2 hb2 (g := w.heap.size + 1) (u := .int .i64 0) (v := .int .u64 0) (by simp [go_sem, *]) (by simp [go_sem, *]) (by simp [go_sem, *]) (by simp [go_sem, *])
  have fz : w.heap.size + 1 < w2.heap.size := World.block_lt_of_cell? _ _ fc
  have b2 : Below w.heap.size w w2 := bl2 hb2 (by repeat (first | assumption | exact Below.refl _ _ | refine Below.setCell ?_ (by first | exact Nat.le_refl _ | (simp; done) | (simp; omega) | omega) _ | refine Below.alloc ?_ (by first | exact Nat.le_refl _ | (simp; done) | (simp; omega) | omega) _ | refine Below.drew ?_ | exact Nat.le_refl _))
  have z2 := hb2.size
  try simp at z2
  clear hb2
  clear dc dd df dg
  go_wp2_with fail
  refine (hT.out _).mono ?_
  rintro e w4 ⟨rfl, hb4⟩
  obtain ⟨gc, gd, gf, gg⟩ := later2 hb4 (g := w.heap.size + 1) (u := .int .i64 0) (v := .int .u64 0) (by simp [go_sem, *]) (by simp [go_sem, *]) (by simp [go_sem, *]) (by simp [go_sem, *])
  have gz : w.heap.size + 1 < w4.heap.size := World.block_lt_of_cell? _ _ gc
  obtain ⟨lc, ld, lf, lg⟩ := later2 hb4 (g := w2.heap.size) (u := .int .u64 (hi m)) (v := .int .u64 (lo m)) (by simp [go_sem, *]) (by simp [go_sem, *]) (by simp [go_sem, *]) (by simp [go_sem, *])
  have lz : w2.heap.size < w4.heap.size := World.block_lt_of_cell? _ _ lc
  have b4 : Below w.heap.size w w4 := bl2 hb4 (by repeat (first | assumption | exact Below.refl _ _ | refine Below.setCell ?_ (by first | exact Nat.le_refl _ | (simp; done) | (simp; omega) | omega) _ | refine Below.alloc ?_ (by first | exact Nat.le_refl _ | (simp; done) | (simp; omega) | omega) _ | refine Below.drew ?_ | exact Nat.le_refl _))
  have z4 := hb4.size
  try simp at z4
  clear hb4
  clear fc fd ff fg
  go_wp2_with fail
  refine (hJ.out _).mono ?_
  rintro e w9 ⟨rfl, hb9⟩
  obtain ⟨jc, jd, jf, jg⟩ := later2 hb9 (g := w.heap.size + 1) (u := .int .i64 0) (v := .int .u64 0) (by simp [go_sem, *]) (by simp [go_sem, *]) (by simp [go_sem, *]) (by simp [go_sem, *])
  have jz : w.heap.size + 1 < w9.heap.size := World.block_lt_of_cell? _ _ jc
  have b9 : Below w.heap.size w w9 := bl2 hb9 (by repeat (first | assumption | exact Below.refl _ _ | refine Below.setCell ?_ (by first | exact Nat.le_refl _ | (simp; done) | (simp; omega) | omega) _ | refine Below.alloc ?_ (by first | exact Nat.le_refl _ | (simp; done) | (simp; omega) | omega) _ | refine Below.drew ?_ | exact Nat.le_refl _))
  have z9 := hb9.size
  try simp at z9
  clear hb9
  go_wp2_with fail
  simp [bodyPost, results, Tryd.results31, go_sem, jc, jd, jz]
  exact (by repeat (first | assumption | exact Below.refl _ _ | refine Below.setCell ?_ (by first | exact Nat.le_refl _ | (simp; done) | (simp; omega) | omega) _ | refine Below.alloc ?_ (by first | exact Nat.le_refl _ | (simp; done) | (simp; omega) | omega) _ | refine Below.drew ?_ | exact Nat.le_refl _))
end Go.Proofs.YtieklkpjlbpnbaaDoor.Wt
