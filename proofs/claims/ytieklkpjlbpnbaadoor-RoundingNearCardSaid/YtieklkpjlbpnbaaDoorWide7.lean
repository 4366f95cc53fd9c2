/-
  The contracts of package wide's Of, Add, Sub, Cmp, Int and of a size's divide.
-/
import Derived.Test.YtieklkpjlbpnbaaDoorWide6
import Derived.Test.YtieklkpjlbpnbaaDoorDiv64b
namespace Go.Proofs.YtieklkpjlbpnbaaDoor.Wt
open Go.RowKit
open Go.Proofs.YtieklkpjlbpnbaaDoor
open Go.Proofs.YtieklkpjlbpnbaaDoor.Wm

/-! ### Of -/
theorem of_lo {n : Int} : IntKind.u64.wrap n = lo n := by rw [IntKind.wrap_u64]; rfl
theorem of_hi {n : Int} (hn : I64 n) : n / 9223372036854775808 = hi n := by unfold I64 at hn; unfold hi; omega
theorem of_any (n : Int) (w : World) (hn : I64 n) : Calls Tryd.prog 36 #[.int .i64 n] w fun e w' => e = .returned (.agg #[.int .i64 (hi n), .int .u64 (lo n)]) ∧ Below w.heap.size w w' := by
  rw [← of_hi hn, ← of_lo]
  clear hn
  go_enter Tryd.func36, Tryd.ntmps36
  go_wp2_with fail
  simp [bodyPost, results, Tryd.results36, go_sem]
  exact (by repeat (first | assumption | exact Below.refl _ _ | refine Below.setCell ?_ (by first | exact Nat.le_refl _ | (simp; done) | (simp; omega) | omega) _ | refine Below.alloc ?_ (by first | exact Nat.le_refl _ | (simp; done) | (simp; omega) | omega) _ | refine Below.drew ?_ | exact Nat.le_refl _))

/-! ### divide -/
theorem div_hi {m n : Int} (hn : 0 < n) : hi m / n = hi (m / n) ∧ (hi m % n * 18446744073709551616 + lo m) / n = lo (m / n) ∧ (hi m % n * 18446744073709551616 + lo m) % n = m % n := by
  have e : m = (hi m % n * 18446744073709551616 + lo m) + n * (hi m / n * 18446744073709551616) := by
    have a := Int.mul_ediv_add_emod (hi m) n
    have b := hi_lo m
    rw [← Int.mul_assoc]
    omega
  have l := lo_bd m
  have r0 := Int.emod_nonneg (hi m) (show n ≠ 0 by omega)
  have r1 := Int.emod_lt_of_pos (hi m) hn
  have q1 : (hi m % n * 18446744073709551616 + lo m) / n < 18446744073709551616 := Int.ediv_lt_of_lt_mul hn (by unfold U64 at l; omega)
  have q0 : 0 ≤ (hi m % n * 18446744073709551616 + lo m) / n := Int.ediv_nonneg (by unfold U64 at l; omega) (by omega)
  have e2 : m / n = hi m / n * 18446744073709551616 + (hi m % n * 18446744073709551616 + lo m) / n := by
    conv => lhs; rw [e]
    rw [Int.add_mul_ediv_left _ _ (by omega), Int.add_comm]
  have e3 : m % n = (hi m % n * 18446744073709551616 + lo m) % n := by
    conv => lhs; rw [e]
    rw [Int.add_mul_emod_self_left]
  refine ⟨?_, ?_, e3.symm⟩
  · rw [e2]; exact (hi_val (h := hi m / n) ⟨q0, q1⟩).symm
  · rw [e2]; exact (lo_val (h := hi m / n) ⟨q0, q1⟩).symm

theorem divide_any (m n : Int) (w : World) (hm : U128 m) (hn : U64 n) (h0 : 0 < n) :
    Calls Tryd.prog 51 #[.agg #[.int .u64 (hi m), .int .u64 (lo m)], .int .u64 n] w fun e w' => e = .returned (.tuple #[.agg #[.int .u64 (hi (m / n)), .int .u64 (lo (m / n))], .int .u64 (m % n)]) ∧ Below w.heap.size w w' := by
  obtain ⟨e1, e2, e3⟩ := div_hi h0
  have hh := hi_bdu hm
  have hD := Lib.hid (fun W => div64 (hi m % n) (lo m) n W (Int.emod_nonneg _ (by omega)) (Int.emod_lt_of_pos _ h0) hn.2 (lo_bd m))
  rw [e2, e3] at hD
  have H1 := Lib.hid e1
  have hn0 : (n == 0) = false := by simp; omega
  have hnz : ¬ n = 0 := by omega
  have hmod := Lib.hid (Int.tmod_eq_emod_of_nonneg (b := n) (hi_bdu hm).1)
  obtain ⟨hh0, hh1⟩ := hh
  obtain ⟨hn1, hn2⟩ := hn
  clear e1 e2 e3
  go_enter Tryd.func51, Tryd.ntmps51
  go_wp2_with fail
  have cc : ((w.alloc (.cells #[.int .u64 (hi m), .int .u64 (lo m)] 66)).alloc (.cells #[.int .u64 0, .int .u64 0] 66)).cell? ⟨w.heap.size, 0, none⟩ = some (.int .u64 (hi m)) := by simp [go_sem]
  have cd : ((w.alloc (.cells #[.int .u64 (hi m), .int .u64 (lo m)] 66)).alloc (.cells #[.int .u64 0, .int .u64 0] 66)).cell? ⟨w.heap.size, 1, none⟩ = some (.int .u64 (lo m)) := by simp [go_sem]
  have cf : ((w.alloc (.cells #[.int .u64 (hi m), .int .u64 (lo m)] 66)).alloc (.cells #[.int .u64 0, .int .u64 0] 66)).frozen? ⟨w.heap.size, 0, none⟩ = false := by simp [go_sem]
  have cg : ((w.alloc (.cells #[.int .u64 (hi m), .int .u64 (lo m)] 66)).alloc (.cells #[.int .u64 0, .int .u64 0] 66)).frozen? ⟨w.heap.size, 1, none⟩ = false := by simp [go_sem]
  have cz : w.heap.size < ((w.alloc (.cells #[.int .u64 (hi m), .int .u64 (lo m)] 66)).alloc (.cells #[.int .u64 0, .int .u64 0] 66)).heap.size := World.block_lt_of_cell? _ _ cc
  have dc : ((w.alloc (.cells #[.int .u64 (hi m), .int .u64 (lo m)] 66)).alloc (.cells #[.int .u64 0, .int .u64 0] 66)).cell? ⟨w.heap.size + 1, 0, none⟩ = some (.int .u64 0) := by simp [go_sem]
  have dd : ((w.alloc (.cells #[.int .u64 (hi m), .int .u64 (lo m)] 66)).alloc (.cells #[.int .u64 0, .int .u64 0] 66)).cell? ⟨w.heap.size + 1, 1, none⟩ = some (.int .u64 0) := by simp [go_sem]
  have df : ((w.alloc (.cells #[.int .u64 (hi m), .int .u64 (lo m)] 66)).alloc (.cells #[.int .u64 0, .int .u64 0] 66)).frozen? ⟨w.heap.size + 1, 0, none⟩ = false := by simp [go_sem]
  have dg : ((w.alloc (.cells #[.int .u64 (hi m), .int .u64 (lo m)] 66)).alloc (.cells #[.int .u64 0, .int .u64 0] 66)).frozen? ⟨w.heap.size + 1, 1, none⟩ = false := by simp [go_sem]
  have dz : w.heap.size + 1 < ((w.alloc (.cells #[.int .u64 (hi m), .int .u64 (lo m)] 66)).alloc (.cells #[.int .u64 0, .int .u64 0] 66)).heap.size := World.block_lt_of_cell? _ _ dc
  have b1 : Below w.heap.size w ((w.alloc (.cells #[.int .u64 (hi m), .int .u64 (lo m)] 66)).alloc (.cells #[.int .u64 0, .int .u64 0] 66)) := (by repeat (first | assumption | exact Below.refl _ _ | refine Below.setCell ?_ (by first | exact Nat.le_refl _ | (simp; done) | (simp; omega) | omega) _ | refine Below.alloc ?_ (by first | exact Nat.le_refl _ | (simp; done) | (simp; omega) | omega) _ | refine Below.drew ?_ | exact Nat.le_refl _))
  generalize (w.alloc (.cells #[.int .u64 (hi m), .int .u64 (lo m)] 66)).alloc (.cells #[.int .u64 0, .int .u64 0] 66) = w1 at *
  refine Reg.region_quiet (by kernel_rfl) (by kernel_rfl) ?_
  iterate 13 (first | go_big_quiet_skip | (go_big_quiet_want; (first | (go_big_quiet_op; go_big_quiet_on) | (apply Reg.quiet_run; (intro W hW; have q1 := hW.cell cc; have q2 := hW.cell cd; go_simp; (first | done | rfl | exact ⟨rfl, rfl⟩ | (rw [if_neg hnz]))); (simp only [Act.put, List.setIfInBounds_toArray, List.set_cons_zero, List.set_cons_succ]; go_big_quiet_on)) | (apply Reg.quiet_call; (intro W hW; go_simp; (first | done | rfl | exact ⟨rfl, rfl⟩)); (intro W hW; (first | (go_at_call 64; rw [hmod.out]; exact Reg.cls_call hW (hD.out _)))); (simp only [Act.put, List.setIfInBounds_toArray, List.set_cons_zero, List.set_cons_succ]; go_big_quiet_on)))))
  refine wpQuiet_nil ?_
  intro w2 hW
  have ec := hW.cell cc
  have ed := hW.cell cd
  have fc := hW.cell dc
  have fd := hW.cell dd
  have ff := hW.frozen dc df
  have fg := hW.frozen dd dg
  have b2 := bl2 hW b1
  have z := hW.size
  clear hW cc cd cf cg dc dd df dg
  go_wp2_with fail
  simp [bodyPost, results, Tryd.results51, go_sem, fc, fd]
  exact ⟨H1.out, (by repeat (first | assumption | exact Below.refl _ _ | refine Below.setCell ?_ (by first | exact Nat.le_refl _ | (simp; done) | (simp; omega) | omega) _ | refine Below.alloc ?_ (by first | exact Nat.le_refl _ | (simp; done) | (simp; omega) | omega) _ | refine Below.drew ?_ | exact Nat.le_refl _))⟩

/-! ### Int -/
instance (x : Int) : Decidable (I64 x) := inferInstanceAs (Decidable (_ ∧ _))
/-- What Int returns: the number, where it is one of a word; 0 otherwise. -/
def ifit (x : Int) : Int := if I64 x then x else 0
/-- Whether a number is one of a word. -/
def iin (x : Int) : Bool := decide (I64 x)
theorem int_yes {x : Int} (h : I64 x) : wrap64 (lo x) = x ∧ ifit x = x ∧ iin x = true := by
  refine ⟨?_, if_pos h, decide_eq_true h⟩
  unfold I64 at h; unfold wrap64 lo; omega
theorem int_no {x : Int} (h : ¬ I64 x) : I64 (wrap64 (lo x)) ∧ lo (wrap64 (lo x)) = lo x ∧ hi (wrap64 (lo x)) ≠ hi x ∧ ifit x = 0 ∧ iin x = false := by
  refine ⟨?_, ?_, ?_, if_neg h, decide_eq_false h⟩
  all_goals unfold I64 at *; unfold wrap64
  · omega
  · unfold lo; omega
  · unfold hi lo; omega
theorem int_any (x : Int) (w : World) : Calls Tryd.prog 38 #[.agg #[.int .i64 (hi x), .int .u64 (lo x)]] w fun e w' => e = .returned (.tuple #[.int .i64 (ifit x), .bool (iin x)]) ∧ Below w.heap.size w w' := by
  by_cases h : I64 x
  · obtain ⟨h1, h2, h3⟩ := int_yes h
    rw [h2, h3]
    have H1 := Lib.hid h1
    have hO := Lib.hid (fun W => of_any x W h)
    clear h1 h2 h3
    go_enter Tryd.func38, Tryd.ntmps38
    go_wp2_with fail
    rw [H1.out]
    have hb1 : Below (w).heap.size (w) ((w).alloc (.cells #[.int .i64 (hi x), .int .u64 (lo x)] 24)) := (Below.refl _ _).alloc (Nat.le_refl _) _
    have cc : ((w).alloc (.cells #[.int .i64 (hi x), .int .u64 (lo x)] 24)).cell? ⟨(w).heap.size, 0, none⟩ = some (.int .i64 (hi x)) := by simp [go_sem]
    have cd : ((w).alloc (.cells #[.int .i64 (hi x), .int .u64 (lo x)] 24)).cell? ⟨(w).heap.size, 1, none⟩ = some (.int .u64 (lo x)) := by simp [go_sem]
    have cf : ((w).alloc (.cells #[.int .i64 (hi x), .int .u64 (lo x)] 24)).frozen? ⟨(w).heap.size, 0, none⟩ = false := by simp [go_sem]
    have cg : ((w).alloc (.cells #[.int .i64 (hi x), .int .u64 (lo x)] 24)).frozen? ⟨(w).heap.size, 1, none⟩ = false := by simp [go_sem]
    have cz : (w).heap.size < ((w).alloc (.cells #[.int .i64 (hi x), .int .u64 (lo x)] 24)).heap.size := by simp
    generalize (w).alloc (.cells #[.int .i64 (hi x), .int .u64 (lo x)] 24) = w1 at *
    refine Reg.region_quiet (by kernel_rfl) (by kernel_rfl) ?_
    iterate 4 (first | go_big_quiet_skip | (go_big_quiet_want; (first | (go_big_quiet_op; go_big_quiet_on) | (apply Reg.quiet_run; (intro W hW; have q1 := hW.cell cc; have q2 := hW.cell cd; go_simp; (first | done | rfl | exact ⟨rfl, rfl⟩ )); (simp only [Act.put, List.setIfInBounds_toArray, List.set_cons_zero, List.set_cons_succ]; go_big_quiet_on)) | (apply Reg.quiet_call; (intro W hW; go_simp; (first | done | rfl | exact ⟨rfl, rfl⟩)); (intro W hW; (first | (go_at_call 36; exact Reg.cls_call hW (hO.out _)))); (simp only [Act.put, List.setIfInBounds_toArray, List.set_cons_zero, List.set_cons_succ]; go_big_quiet_on)))))
    refine wpQuiet_nil ?_
    intro w2 hW
    have b2 := bl2 hW hb1
    clear hW
    go_wp2_with fail
    go_ret2
    exact ⟨rfl, b2⟩
  · obtain ⟨h1, h2, h3, h4, h5⟩ := int_no h
    rw [h4, h5]
    have hO := Lib.hid (fun W => of_any _ W h1)
    clear h1 h4 h5
    go_enter Tryd.func38, Tryd.ntmps38
    go_wp2_with fail
    generalize wrap64 (lo x) = n at *
    have hb1 : Below (w).heap.size (w) ((w).alloc (.cells #[.int .i64 (hi x), .int .u64 (lo x)] 24)) := (Below.refl _ _).alloc (Nat.le_refl _) _
    have cc : ((w).alloc (.cells #[.int .i64 (hi x), .int .u64 (lo x)] 24)).cell? ⟨(w).heap.size, 0, none⟩ = some (.int .i64 (hi x)) := by simp [go_sem]
    have cd : ((w).alloc (.cells #[.int .i64 (hi x), .int .u64 (lo x)] 24)).cell? ⟨(w).heap.size, 1, none⟩ = some (.int .u64 (lo x)) := by simp [go_sem]
    have cf : ((w).alloc (.cells #[.int .i64 (hi x), .int .u64 (lo x)] 24)).frozen? ⟨(w).heap.size, 0, none⟩ = false := by simp [go_sem]
    have cg : ((w).alloc (.cells #[.int .i64 (hi x), .int .u64 (lo x)] 24)).frozen? ⟨(w).heap.size, 1, none⟩ = false := by simp [go_sem]
    have cz : (w).heap.size < ((w).alloc (.cells #[.int .i64 (hi x), .int .u64 (lo x)] 24)).heap.size := by simp
    generalize (w).alloc (.cells #[.int .i64 (hi x), .int .u64 (lo x)] 24) = w1 at *
    refine Reg.region_quiet (by kernel_rfl) (by kernel_rfl) ?_
    iterate 4 (first | go_big_quiet_skip | (go_big_quiet_want; (first | (go_big_quiet_op; go_big_quiet_on) | (apply Reg.quiet_run; (intro W hW; have q1 := hW.cell cc; have q2 := hW.cell cd; go_simp; (first | done | rfl | exact ⟨rfl, rfl⟩ )); (simp only [Act.put, List.setIfInBounds_toArray, List.set_cons_zero, List.set_cons_succ]; go_big_quiet_on)) | (apply Reg.quiet_call; (intro W hW; go_simp; (first | done | rfl | exact ⟨rfl, rfl⟩)); (intro W hW; (first | (go_at_call 36; exact Reg.cls_call hW (hO.out _)))); (simp only [Act.put, List.setIfInBounds_toArray, List.set_cons_zero, List.set_cons_succ]; go_big_quiet_on)))))
    refine wpQuiet_nil ?_
    intro w2 hW
    have b2 := bl2 hW hb1
    clear hW
    go_wp2_with fail
    go_ret2
    exact ⟨rfl, b2⟩

/-! ### Cmp -/
def cmp (x y : Int) : Int := if x = y then 0 else if x < y then -1 else 1
end Go.Proofs.YtieklkpjlbpnbaaDoor.Wt
