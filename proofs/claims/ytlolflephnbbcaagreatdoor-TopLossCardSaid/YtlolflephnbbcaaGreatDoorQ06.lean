/-
  Parts of the proof: We, Rf.
-/
import Derived.Test.YtlolflephnbbcaaGreatDoorQ04
import Derived.Test.YtlolflephnbbcaaGreatDoorQ05
import Derived.Test.YtlolflephnbbcaaGreatDoorQ02
namespace Go.Proofs.YtlolflephnbbcaaGreatDoor.Wt
open Go.RowKit
open Go.Proofs.YtlolflephnbbcaaGreatDoor
open Go.Proofs.YtlolflephnbbcaaGreatDoor.Wm

/-! ### Of -/
theorem of_lo {n : Int} : IntKind.u64.wrap n = lo n := by rw [IntKind.wrap_u64]; rfl
theorem of_hi {n : Int} (hn : I64 n) : n / 9223372036854775808 = hi n := by unfold I64 at hn; unfold hi; omega
theorem of_any (n : Int) (w : World) (hn : I64 n) : Calls Tryz.prog 122 #[.int .i64 n] w fun e w' => e = .returned (.agg #[.int .i64 (hi n), .int .u64 (lo n)]) ∧ Below w.heap.size w w' := by
 rw [← of_hi hn, ← of_lo]
 clear hn
 go_enter Tryz.func122, Tryz.ntmps122
 go_wp2_with fail
 simp [bodyPost, results, Tryz.results122, go_sem]
 exact Bk.be

/-! ### divide -/
theorem div_hi {m n : Int} (hn : 0 < n) : hi m / n = hi (m / n) ∧ (hi m % n * 18446744073709551616 + lo m) / n = lo (m / n) ∧ (hi m % n * 18446744073709551616 + lo m) % n = m % n := by
 have e : m = (hi m % n * 18446744073709551616 + lo m) + n * (hi m / n * 18446744073709551616) := by
  have a := Int.mul_ediv_add_emod (hi m) n
  have b := hi_lo m
  rw [← Int.mul_assoc]
  omega
 have l := lo_bd m
 have r0 := Int.emod_nonneg (hi m) (show n ≠ 0 by omega)
 have r1 := Int.emod_lt_of_pos (hi m) hn
 have q1 : (hi m % n * 18446744073709551616 + lo m) / n < 18446744073709551616 := Int.ediv_lt_of_lt_mul hn (by unfold U64 at l; omega)
 have q0 : 0 ≤ (hi m % n * 18446744073709551616 + lo m) / n := Int.ediv_nonneg (by unfold U64 at l; omega) (by omega)
 have e2 : m / n = hi m / n * 18446744073709551616 + (hi m % n * 18446744073709551616 + lo m) / n := by
  conv => lhs; rw [e]
  rw [Int.add_mul_ediv_left _ _ (by omega), Int.add_comm]
 have e3 : m % n = (hi m % n * 18446744073709551616 + lo m) % n := by
  conv => lhs; rw [e]
  rw [Int.add_mul_emod_self_left]
 refine ⟨?_, ?_, e3.symm⟩
 ·rw [e2]; exact (hi_val (h := hi m / n) ⟨q0, q1⟩).symm
 ·rw [e2]; exact (lo_val (h := hi m / n) ⟨q0, q1⟩).symm

theorem divide_any (m n : Int) (w : World) (hm : U128 m) (hn : U64 n) (h0 : 0 < n) :
  Calls Tryz.prog 163 #[.agg #[.int .u64 (hi m), .int .u64 (lo m)], .int .u64 n] w fun e w' => e = .returned (.tuple #[.agg #[.int .u64 (hi (m / n)), .int .u64 (lo (m / n))], .int .u64 (m % n)]) ∧ Below w.heap.size w w' := by
 obtain ⟨e1, e2, e3⟩ := div_hi h0
 have hh := hi_bdu hm
 have hD := Lib.hid (fun W => div64 (hi m % n) (lo m) n W (Int.emod_nonneg _ (by omega)) (Int.emod_lt_of_pos _ h0) hn.2 (lo_bd m))
 rw [e2, e3] at hD
 have H1 := Lib.hid e1
 have hn0 : (n == 0) = false := by simp; omega
 have hnz : ¬ n = 0 := by omega
 have hmod := Lib.hid (Int.tmod_eq_emod_of_nonneg (b := n) (hi_bdu hm).1)
 obtain ⟨hh0, hh1⟩ := hh
 obtain ⟨hn1, hn2⟩ := hn
 clear e1 e2 e3
 go_enter Tryz.func163, Tryz.ntmps163
 go_wp2_with fail
 have cc : ((w.alloc (.cells #[.int .u64 (hi m), .int .u64 (lo m)] 227)).alloc (.cells #[.int .u64 0, .int .u64 0] 227)).cell? ⟨w.heap.size, 0, none⟩ = some (.int .u64 (hi m)) := by simp [go_sem]
 have cd : ((w.alloc (.cells #[.int .u64 (hi m), .int .u64 (lo m)] 227)).alloc (.cells #[.int .u64 0, .int .u64 0] 227)).cell? ⟨w.heap.size, 1, none⟩ = some (.int .u64 (lo m)) := by simp [go_sem]
 have cf : ((w.alloc (.cells #[.int .u64 (hi m), .int .u64 (lo m)] 227)).alloc (.cells #[.int .u64 0, .int .u64 0] 227)).frozen? ⟨w.heap.size, 0, none⟩ = false := by simp [go_sem]
 have cg : ((w.alloc (.cells #[.int .u64 (hi m), .int .u64 (lo m)] 227)).alloc (.cells #[.int .u64 0, .int .u64 0] 227)).frozen? ⟨w.heap.size, 1, none⟩ = false := by simp [go_sem]
 have cz : w.heap.size < ((w.alloc (.cells #[.int .u64 (hi m), .int .u64 (lo m)] 227)).alloc (.cells #[.int .u64 0, .int .u64 0] 227)).heap.size := World.block_lt_of_cell? _ _ cc
 have dc : ((w.alloc (.cells #[.int .u64 (hi m), .int .u64 (lo m)] 227)).alloc (.cells #[.int .u64 0, .int .u64 0] 227)).cell? ⟨w.heap.size + 1, 0, none⟩ = some (.int .u64 0) := by simp [go_sem]
 have dd : ((w.alloc (.cells #[.int .u64 (hi m), .int .u64 (lo m)] 227)).alloc (.cells #[.int .u64 0, .int .u64 0] 227)).cell? ⟨w.heap.size + 1, 1, none⟩ = some (.int .u64 0) := by simp [go_sem]
 have df : ((w.alloc (.cells #[.int .u64 (hi m), .int .u64 (lo m)] 227)).alloc (.cells #[.int .u64 0, .int .u64 0] 227)).frozen? ⟨w.heap.size + 1, 0, none⟩ = false := by simp [go_sem]
 have dg : ((w.alloc (.cells #[.int .u64 (hi m), .int .u64 (lo m)] 227)).alloc (.cells #[.int .u64 0, .int .u64 0] 227)).frozen? ⟨w.heap.size + 1, 1, none⟩ = false := by simp [go_sem]
 have dz : w.heap.size + 1 < ((w.alloc (.cells #[.int .u64 (hi m), .int .u64 (lo m)] 227)).alloc (.cells #[.int .u64 0, .int .u64 0] 227)).heap.size := World.block_lt_of_cell? _ _ dc
 have b1 : Below w.heap.size w ((w.alloc (.cells #[.int .u64 (hi m), .int .u64 (lo m)] 227)).alloc (.cells #[.int .u64 0, .int .u64 0] 227)) := Bk.be
 generalize (w.alloc (.cells #[.int .u64 (hi m), .int .u64 (lo m)] 227)).alloc (.cells #[.int .u64 0, .int .u64 0] 227) = w1 at *
 refine Reg.region_quiet (by kernel_rfl) (by kernel_rfl) ?_
 iterate 13 (first | go_big_quiet_skip | (go_big_quiet_want; (first | (go_big_quiet_op; go_big_quiet_on) | (apply Reg.quiet_run; (intro W hW; have q1 := hW.cell cc; have q2 := hW.cell cd; go_simp; (first | done | rfl | exact ⟨rfl, rfl⟩ | (rw [if_neg hnz]))); (simp only [Act.put, List.setIfInBounds_toArray, List.set_cons_zero, List.set_cons_succ]; go_big_quiet_on)) | (apply Reg.quiet_call; (intro W hW; go_simp; (first | done | rfl | exact ⟨rfl, rfl⟩)); (intro W hW; (first | (go_at_call 194; rw [hmod.out]; exact Reg.cls_call hW (hD.out _)))); (simp only [Act.put, List.setIfInBounds_toArray, List.set_cons_zero, List.set_cons_succ]; go_big_quiet_on)))))
 refine wpQuiet_nil ?_
 intro w2 hW
 have ec := hW.cell cc
 have ed := hW.cell cd
 have fc := hW.cell dc
 have fd := hW.cell dd
 have ff := hW.frozen dc df
 have fg := hW.frozen dd dg
 have b2 := bl2 hW b1
 have z := hW.size
 clear hW cc cd cf cg dc dd df dg
 go_wp2_with fail
 simp [bodyPost, results, Tryz.results163, go_sem, fc, fd]
 exact ⟨H1.out, Bk.be⟩

/-! ### Int -/
instance (x : Int) : Decidable (I64 x) := inferInstanceAs (Decidable (_ ∧ _))
def ifit (x : Int) : Int := if I64 x then x else 0
def iin (x : Int) : Bool := decide (I64 x)
theorem int_yes {x : Int} (h : I64 x) : wrap64 (lo x) = x ∧ ifit x = x ∧ iin x = true := by
 refine ⟨?_, if_pos h, decide_eq_true h⟩
 unfold I64 at h; unfold wrap64 lo; omega
theorem int_no {x : Int} (h : ¬ I64 x) : I64 (wrap64 (lo x)) ∧ lo (wrap64 (lo x)) = lo x ∧ hi (wrap64 (lo x)) ≠ hi x ∧ ifit x = 0 ∧ iin x = false := by
 refine ⟨?_, ?_, ?_, if_neg h, decide_eq_false h⟩
 all_goals unfold I64 at *; unfold wrap64
 ·omega
 ·unfold lo; omega
 ·unfold hi lo; omega
theorem int_any (x : Int) (w : World) : Calls Tryz.prog 124 #[.agg #[.int .i64 (hi x), .int .u64 (lo x)]] w fun e w' => e = .returned (.tuple #[.int .i64 (ifit x), .bool (iin x)]) ∧ Below w.heap.size w w' := by
 by_cases h : I64 x
 ·obtain ⟨h1, h2, h3⟩ := int_yes h
  rw [h2, h3]
  have H1 := Lib.hid h1
  have hO := Lib.hid (fun W => of_any x W h)
  clear h1 h2 h3
  go_enter Tryz.func124, Tryz.ntmps124
  go_wp2_with fail
  rw [H1.out]
  have hb1 : Below (w).heap.size (w) ((w).alloc (.cells #[.int .i64 (hi x), .int .u64 (lo x)] 152)) := (Below.refl _ _).alloc (Nat.le_refl _) _
  have cc : ((w).alloc (.cells #[.int .i64 (hi x), .int .u64 (lo x)] 152)).cell? ⟨(w).heap.size, 0, none⟩ = some (.int .i64 (hi x)) := by simp [go_sem]
  have cd : ((w).alloc (.cells #[.int .i64 (hi x), .int .u64 (lo x)] 152)).cell? ⟨(w).heap.size, 1, none⟩ = some (.int .u64 (lo x)) := by simp [go_sem]
  have cf : ((w).alloc (.cells #[.int .i64 (hi x), .int .u64 (lo x)] 152)).frozen? ⟨(w).heap.size, 0, none⟩ = false := by simp [go_sem]
  have cg : ((w).alloc (.cells #[.int .i64 (hi x), .int .u64 (lo x)] 152)).frozen? ⟨(w).heap.size, 1, none⟩ = false := by simp [go_sem]
  have cz : (w).heap.size < ((w).alloc (.cells #[.int .i64 (hi x), .int .u64 (lo x)] 152)).heap.size := by simp
  generalize (w).alloc (.cells #[.int .i64 (hi x), .int .u64 (lo x)] 152) = w1 at *
  refine Reg.region_quiet (by kernel_rfl) (by kernel_rfl) ?_
  iterate 4 (first | go_big_quiet_skip | (go_big_quiet_want; (first | (go_big_quiet_op; go_big_quiet_on) | (apply Reg.quiet_run; (intro W hW; have q1 := hW.cell cc; have q2 := hW.cell cd; go_simp; (first | done | rfl | exact ⟨rfl, rfl⟩ )); (simp only [Act.put, List.setIfInBounds_toArray, List.set_cons_zero, List.set_cons_succ]; go_big_quiet_on)) | (apply Reg.quiet_call; (intro W hW; go_simp; (first | done | rfl | exact ⟨rfl, rfl⟩)); (intro W hW; (first | (go_at_call 122; exact Reg.cls_call hW (hO.out _)))); (simp only [Act.put, List.setIfInBounds_toArray, List.set_cons_zero, List.set_cons_succ]; go_big_quiet_on)))))
  refine wpQuiet_nil ?_
  intro w2 hW
  have b2 := bl2 hW hb1
  clear hW
  go_wp2_with fail
  go_ret2
  exact ⟨rfl, b2⟩
 ·obtain ⟨h1, h2, h3, h4, h5⟩ := int_no h
  rw [h4, h5]
  have hO := Lib.hid (fun W => of_any _ W h1)
  clear h1 h4 h5
  go_enter Tryz.func124, Tryz.ntmps124
  go_wp2_with fail
  generalize wrap64 (lo x) = n at *
  have hb1 : Below (w).heap.size (w) ((w).alloc (.cells #[.int .i64 (hi x), .int .u64 (lo x)] 152)) := (Below.refl _ _).alloc (Nat.le_refl _) _
  have cc : ((w).alloc (.cells #[.int .i64 (hi x), .int .u64 (lo x)] 152)).cell? ⟨(w).heap.size, 0, none⟩ = some (.int .i64 (hi x)) := by simp [go_sem]
  have cd : ((w).alloc (.cells #[.int .i64 (hi x), .int .u64 (lo x)] 152)).cell? ⟨(w).heap.size, 1, none⟩ = some (.int .u64 (lo x)) := by simp [go_sem]
  have cf : ((w).alloc (.cells #[.int .i64 (hi x), .int .u64 (lo x)] 152)).frozen? ⟨(w).heap.size, 0, none⟩ = false := by simp [go_sem]
  have cg : ((w).alloc (.cells #[.int .i64 (hi x), .int .u64 (lo x)] 152)).frozen? ⟨(w).heap.size, 1, none⟩ = false := by simp [go_sem]
  have cz : (w).heap.size < ((w).alloc (.cells #[.int .i64 (hi x), .int .u64 (lo x)] 152)).heap.size := by simp
  generalize (w).alloc (.cells #[.int .i64 (hi x), .int .u64 (lo x)] 152) = w1 at *
  refine Reg.region_quiet (by kernel_rfl) (by kernel_rfl) ?_
  iterate 4 (first | go_big_quiet_skip | (go_big_quiet_want; (first | (go_big_quiet_op; go_big_quiet_on) | (apply Reg.quiet_run; (intro W hW; have q1 := hW.cell cc; have q2 := hW.cell cd; go_simp; (first | done | rfl | exact ⟨rfl, rfl⟩ )); (simp only [Act.put, List.setIfInBounds_toArray, List.set_cons_zero, List.set_cons_succ]; go_big_quiet_on)) | (apply Reg.quiet_call; (intro W hW; go_simp; (first | done | rfl | exact ⟨rfl, rfl⟩)); (intro W hW; (first | (go_at_call 122; exact Reg.cls_call hW (hO.out _)))); (simp only [Act.put, List.setIfInBounds_toArray, List.set_cons_zero, List.set_cons_succ]; go_big_quiet_on)))))
  refine wpQuiet_nil ?_
  intro w2 hW
  have b2 := bl2 hW hb1
  clear hW
  go_wp2_with fail
  go_ret2
  exact ⟨rfl, b2⟩

/-! ### Cmp -/
def cmp (x y : Int) : Int := if x = y then 0 else if x < y then -1 else 1
end Go.Proofs.YtlolflephnbbcaaGreatDoor.Wt

namespace Go.Proofs.YtlolflephnbbcaaGreatDoor.Wt
open Go.RowKit
open Go.Proofs.YtlolflephnbbcaaGreatDoor
open Go.Proofs.YtlolflephnbbcaaGreatDoor.Wm

def WSum (w : World) (s : Int) (e : Ending) (w' : World) : Prop := e = .returned (.tuple #[.agg #[.int .i64 (hi (fit s)), .int .u64 (lo (fit s))], .int .i64 (ovf s)]) ∧ Below w.heap.size w w'
theorem wsum_in {w w' : World} {s : Int} (h : I128 s) (hb : Below w.heap.size w w') : WSum w s (.returned (.tuple #[.agg #[.int .i64 (hi s), .int .u64 (lo s)], .int .i64 0])) w' := by
 unfold WSum; rw [fit_in h, ovf_in h]; exact ⟨rfl, hb⟩
theorem wsum_out {w w' : World} {s : Int} (h : ¬ I128 s) (hb : Below w.heap.size w w') : WSum w s (.returned (.tuple #[.agg #[.int .i64 0, .int .u64 0], .int .i64 6])) w' := by
 unfold WSum; rw [fit_out h, ovf_out h, hi_0, lo_0]; exact ⟨rfl, hb⟩

/-! ### the bits -/
def bor (x y : Int) : Int := if x < y then 1 else 0
theorem car_bd {x y : Int} : 0 ≤ hi (lo x + lo y) ∧ hi (lo x + lo y) ≤ 1 := by have := lo_bd x; have := lo_bd y; unfold U64 at *; unfold hi; omega

theorem add_hi (x y : Int) : hi (x + y) = hi x + hi y + hi (lo x + lo y) ∧ lo (x + y) = lo (lo x + lo y) := by unfold hi lo; omega
theorem add_T {a b c s : Int} (h1 : -9223372036854775808 ≤ a ∧ a ≤ 9223372036854775807) (h2 : -9223372036854775808 ≤ b ∧ b ≤ 9223372036854775807) (h3 : 0 ≤ c ∧ c ≤ 1) (e : s = a + b + c) :
  ((-9223372036854775808 ≤ s ∧ s ≤ 9223372036854775807) → wrap64 (wrap64 (a + b) + wrap64 c) = s) ∧ (s < -9223372036854775808 → 0 ≤ wrap64 (wrap64 (a + b) + wrap64 c)) ∧ (9223372036854775807 < s → wrap64 (wrap64 (a + b) + wrap64 c) < 0) := by
 unfold wrap64; omega
set_option maxHeartbeats 1000000 in
theorem add_any (x y : Int) (w : World) (hx : I128 x) (hy : I128 y) :
  Calls Tryz.prog 121 #[.agg #[.int .i64 (hi x), .int .u64 (lo x)], .agg #[.int .i64 (hi y), .int .u64 (lo y)]] w (WSum w (x + y)) := by
 have bx := hi_bd hx
 have by' := hi_bd hy
 have bc := car_bd (x := x) (y := y)
 obtain ⟨e1, e2⟩ := add_hi x y
 have ha := Lib.hid (fun w => add64_0 (lo x) (lo y) (lo_bd _).1 (lo_bd _).1 w)
 rw [← e2] at ha
 generalize hi (lo x + lo y) = c at *
 have hin : I128 (x + y) → -9223372036854775808 ≤ hi (x + y) ∧ hi (x + y) ≤ 9223372036854775807 := fun h => hi_bd h
 have hout : ¬ I128 (x + y) → hi (x + y) < -9223372036854775808 ∨ 9223372036854775807 < hi (x + y) := fun h => by
  have h1 := hi_lo (x + y)
  have h2 := lo_bd (x + y)
  unfold U64 at h2
  unfold I128 at h
  omega
 unfold I64 at bx by'
 obtain ⟨t1, t2, t3⟩ := add_T bx by' bc e1
 clear hx hy e2
 generalize hi x = a at *
 generalize hi y = b at *
 have W1 := fun h (w' : World) => wsum_in (w := w) (w' := w') (s := x + y) h
 have W2 := fun h (w' : World) => wsum_out (w := w) (w' := w') (s := x + y) h
 generalize hi (x + y) = s at *
 generalize lo (x + y) = l at *
 have HW1 := Lib.hid W1
 have HW2 := Lib.hid W2
 clear W1 W2
 by_cases hI : I128 (x + y)
 ·have H4 := Lib.hid (t1 (hin hI))
  have hr := hin hI
  have HI := Lib.hid hI
  have sg : (a < 0 ∧ b < 0 ∧ wrap64 (wrap64 (a + b) + wrap64 c) < 0) ∨ (0 ≤ a ∧ 0 ≤ b ∧ 0 ≤ wrap64 (wrap64 (a + b) + wrap64 c)) ∨ (a < 0 ∧ 0 ≤ b) ∨ (0 ≤ a ∧ b < 0) := by
   rw [t1 hr]; omega
  clear t1 t2 t3 hin hout hI hr bx by' bc e1
  rcases sg with ⟨h1, h2, h3⟩ | ⟨h1, h2, h3⟩ | ⟨h1, h2⟩ | ⟨h1, h2⟩
  ·skip
   have d1 : decide (a < 0) = true := decide_eq_true (by omega)
   have d2 : decide (b < 0) = true := decide_eq_true (by omega)
   have d3 : decide (wrap64 (wrap64 (a + b) + wrap64 c) < 0) = true := decide_eq_true (by omega)
   clear h1 h2 h3
   go_enter Tryz.func121, Tryz.ntmps121
   go_wp2_with (simp only [ha.out])
   rw [H4.out]
   simp [bodyPost, results, Tryz.results121, go_sem]
   exact HW1.out HI.out _ Bk.be
  ·skip
   have d1 : decide (a < 0) = false := decide_eq_false (by omega)
   have d2 : decide (b < 0) = false := decide_eq_false (by omega)
   have d3 : decide (wrap64 (wrap64 (a + b) + wrap64 c) < 0) = false := decide_eq_false (by omega)
   clear h1 h2 h3
   go_enter Tryz.func121, Tryz.ntmps121
   go_wp2_with (simp only [ha.out])
   rw [H4.out]
   simp [bodyPost, results, Tryz.results121, go_sem]
   exact HW1.out HI.out _ Bk.be
  ·skip
   have d1 : decide (a < 0) = true := decide_eq_true (by omega)
   have d2 : decide (b < 0) = false := decide_eq_false (by omega)
   clear h1 h2
   go_enter Tryz.func121, Tryz.ntmps121
   go_wp2_with (simp only [ha.out])
   rw [H4.out]
   simp [bodyPost, results, Tryz.results121, go_sem]
   exact HW1.out HI.out _ Bk.be
  ·skip
   have d1 : decide (a < 0) = false := decide_eq_false (by omega)
   have d2 : decide (b < 0) = true := decide_eq_true (by omega)
   clear h1 h2
   go_enter Tryz.func121, Tryz.ntmps121
   go_wp2_with (simp only [ha.out])
   rw [H4.out]
   simp [bodyPost, results, Tryz.results121, go_sem]
   exact HW1.out HI.out _ Bk.be
 ·have hr := hout hI
  have HI := Lib.hid hI
  have sg : (a < 0 ∧ b < 0 ∧ 0 ≤ wrap64 (wrap64 (a + b) + wrap64 c)) ∨ (0 ≤ a ∧ 0 ≤ b ∧ wrap64 (wrap64 (a + b) + wrap64 c) < 0) := by
   rcases hr with hr | hr
   ·have := t2 hr; omega
   ·have := t3 hr; omega
  clear t1 t2 t3 hin hout hI hr bx by' bc e1
  rcases sg with ⟨h1, h2, h3⟩ | ⟨h1, h2, h3⟩
  ·skip
   have d1 : decide (a < 0) = true := decide_eq_true (by omega)
   have d2 : decide (b < 0) = true := decide_eq_true (by omega)
   have d3 : decide (wrap64 (wrap64 (a + b) + wrap64 c) < 0) = false := decide_eq_false (by omega)
   clear h1 h2 h3
   go_enter Tryz.func121, Tryz.ntmps121
   go_wp2_with (simp only [ha.out])
   simp [bodyPost, results, Tryz.results121, go_sem]
   exact HW2.out HI.out _ Bk.be
  ·skip
   have d1 : decide (a < 0) = false := decide_eq_false (by omega)
   have d2 : decide (b < 0) = false := decide_eq_false (by omega)
   have d3 : decide (wrap64 (wrap64 (a + b) + wrap64 c) < 0) = true := decide_eq_true (by omega)
   clear h1 h2 h3
   go_enter Tryz.func121, Tryz.ntmps121
   go_wp2_with (simp only [ha.out])
   simp [bodyPost, results, Tryz.results121, go_sem]
   exact HW2.out HI.out _ Bk.be

end Go.Proofs.YtlolflephnbbcaaGreatDoor.Wt

namespace Go.Proofs.YtlolflephnbbcaaGreatDoor.Wt
open Go.RowKit
open Go.Proofs.YtlolflephnbbcaaGreatDoor
open Go.Proofs.YtlolflephnbbcaaGreatDoor.Wm

theorem quo_neg {x n : Int} (hn : 0 < n) (h : (-x) % n = 0) : x / n = -((-x) / n) ∧ x % n = 0 := by
 have e := Int.mul_ediv_add_emod (-x) n
 have e2 : x = n * (-((-x) / n)) + 0 := by rw [Int.mul_neg]; omega
 exact (Int.ediv_emod_unique hn).2 ⟨by omega, by omega, hn⟩
theorem quo_neg2 {x n : Int} (hn : 0 < n) (h : 0 < (-x) % n) : x / n = -((-x) / n + 1) ∧ x % n = n - (-x) % n := by
 have e := Int.mul_ediv_add_emod (-x) n
 have e1 := Int.emod_lt_of_pos (-x) hn
 have e2 : n * (-((-x) / n + 1)) = -(n * ((-x) / n)) - n := by rw [Int.mul_neg, Int.mul_add, Int.mul_one]; omega
 exact (Int.ediv_emod_unique hn).2 ⟨by omega, by omega, by omega⟩
theorem quo_bd {x n : Int} (hx : I128 x) (hn : 0 < n) : I128 (x / n) := by
 unfold I128 at *
 have e := Int.mul_ediv_add_emod x n
 have e0 := Int.emod_nonneg x (show n ≠ 0 by omega)
 have e1 := Int.emod_lt_of_pos x hn
 constructor
 ·by_cases h : x < 0
  ·exact Int.le_ediv_of_mul_le hn (by
    have : -170141183460469231731687303715884105728 * n ≤ -170141183460469231731687303715884105728 * 1 := by omega
    omega)
  ·have := Int.ediv_nonneg (show 0 ≤ x by omega) (show 0 ≤ n by omega); omega
 ·by_cases h : x < 0
  ·have := Int.ediv_neg_of_neg_of_pos h hn; omega
  ·have := Int.ediv_le_self n (show 0 ≤ x by omega); omega

theorem div_zero (x n : Int) (w : World) (hn : n < 1) : Calls Tryz.prog 120 #[.agg #[.int .i64 (hi x), .int .u64 (lo x)], .int .i64 n] w fun e w' => e = .returned (.tuple #[.agg #[.int .i64 0, .int .u64 0], .int .i64 0, .int .i64 1]) ∧ Below w.heap.size w w' := by
 go_enter Tryz.func120, Tryz.ntmps120
 go_wp2_with fail
 simp [bodyPost, results, Tryz.results120, go_sem]
 exact Bk.be

theorem div_pos (x n : Int) (w : World) (hx : I128 x) (hn : I64 n) (h1 : 1 ≤ n) (h0 : 0 ≤ x) : Calls Tryz.prog 120 #[.agg #[.int .i64 (hi x), .int .u64 (lo x)], .int .i64 n] w fun e w' => e = .returned (.tuple #[.agg #[.int .i64 (hi (x / n)), .int .u64 (lo (x / n))], .int .i64 (x % n), .int .i64 0]) ∧ Below w.heap.size w w' := by
 have hd0 : decide (hi x < 0) = false := by rw [hi_decide]; exact decide_eq_false (by omega)
 have hu : U128 x := by have := ab_u128 hx; rwa [ab_pos h0] at this
 have hA := Lib.hid (fun W => absolute_any x W hx)
 rw [ab_pos h0] at hA
 have hn64 : U64 n := by unfold I64 at hn; unfold U64; omega
 have hD := Lib.hid (fun W => divide_any x n W hu hn64 (by omega))
 have q0 := Int.ediv_nonneg h0 (show 0 ≤ n by omega)
 have hS := signed_fit (x / n) (ab_u128 (quo_bd hx (by omega)))
 rw [ab_pos q0, fit_in (quo_bd hx (by omega)), ovf_in (quo_bd hx (by omega)), decide_eq_false (show ¬ x / n < 0 by omega)] at hS
 have r0 := Int.emod_nonneg x (show n ≠ 0 by omega)
 have r1 := Int.emod_lt_of_pos x (show 0 < n by omega)
 unfold I64 at hn
 have hw : IntKind.u64.wrap n = n := by rw [IntKind.wrap_u64]; omega
 generalize x / n = q at *
 generalize x % n = r at *
 clear hx h0 hu hn64 q0 hw
 go_enter Tryz.func120, Tryz.ntmps120
 go_wp2_with fail
 refine (hA.out _).mono ?_
 rintro e w1 ⟨rfl, hb1⟩
 obtain ⟨cc, cd, cf, cg⟩ := later2 hb1 (g := w.heap.size) (u := .int .i64 (hi x)) (v := .int .u64 (lo x)) (by simp [go_sem]) (by simp [go_sem]) (by simp [go_sem]) (by simp [go_sem])
 have cz : w.heap.size < w1.heap.size := World.block_lt_of_cell? _ _ cc
 obtain ⟨dc, dd, df, dg⟩ := later2 hb1 (g := w.heap.size + 1) (u := .int .i64 0) (v := .int .u64 0) (by simp [go_sem]) (by simp [go_sem]) (by simp [go_sem]) (by simp [go_sem])
 have dz : w.heap.size + 1 < w1.heap.size := World.block_lt_of_cell? _ _ dc
 have b1 : Below w.heap.size w w1 := bl2 hb1 Bk.be
 have z1 := hb1.size
 try simp at z1
 clear hb1
 go_wp2_with fail
 refine (hD.out _).mono ?_
 rintro e w2 ⟨rfl, hb2⟩
 obtain ⟨ec, ed, ef, eg⟩ := later2 hb2 (g := w.heap.size) (u := .int .i64 (hi x)) (v := .int .u64 (lo x)) (by simp [go_sem, *]) (by simp [go_sem, *]) (by simp [go_sem, *]) (by simp [go_sem, *])
 have ez : w.heap.size < w2.heap.size := World.block_lt_of_cell? _ _ ec
 obtain ⟨fc, fd, ff, fg⟩ := later2 hb2 (g := w.heap.size + 1) (u := .int .i64 0) (v := .int .u64 0) (by simp [go_sem, *]) (by simp [go_sem, *]) (by simp [go_sem, *]) (by simp [go_sem, *])
 have fz : w.heap.size + 1 < w2.heap.size := World.block_lt_of_cell? _ _ fc
 have b2 : Below w.heap.size w w2 := bl2 hb2 Bk.be
 have z2 := hb2.size
 try simp at z2
 clear hb2
 clear cc cd cf cg dc dd df dg
 go_wp2_with fail
 have hb3 : Below (w2).heap.size (w2) ((w2).alloc (.cells #[.int .u64 (hi q), .int .u64 (lo q)] 227)) := (Below.refl _ _).alloc (Nat.le_refl _) _
 have pc : ((w2).alloc (.cells #[.int .u64 (hi q), .int .u64 (lo q)] 227)).cell? ⟨(w2).heap.size, 0, none⟩ = some (.int .u64 (hi q)) := by simp [go_sem]
 have pd : ((w2).alloc (.cells #[.int .u64 (hi q), .int .u64 (lo q)] 227)).cell? ⟨(w2).heap.size, 1, none⟩ = some (.int .u64 (lo q)) := by simp [go_sem]
 have pf : ((w2).alloc (.cells #[.int .u64 (hi q), .int .u64 (lo q)] 227)).frozen? ⟨(w2).heap.size, 0, none⟩ = false := by simp [go_sem]
 have pg : ((w2).alloc (.cells #[.int .u64 (hi q), .int .u64 (lo q)] 227)).frozen? ⟨(w2).heap.size, 1, none⟩ = false := by simp [go_sem]
 have pz : (w2).heap.size < ((w2).alloc (.cells #[.int .u64 (hi q), .int .u64 (lo q)] 227)).heap.size := by simp
 generalize (w2).alloc (.cells #[.int .u64 (hi q), .int .u64 (lo q)] 227) = w3 at *
 obtain ⟨gc, gd, gf, gg⟩ := later2 hb3 (g := w.heap.size) (u := .int .i64 (hi x)) (v := .int .u64 (lo x)) (by simp [go_sem, *]) (by simp [go_sem, *]) (by simp [go_sem, *]) (by simp [go_sem, *])
 have gz : w.heap.size < w3.heap.size := World.block_lt_of_cell? _ _ gc
 obtain ⟨hc, hd, hf, hg⟩ := later2 hb3 (g := w.heap.size + 1) (u := .int .i64 0) (v := .int .u64 0) (by simp [go_sem, *]) (by simp [go_sem, *]) (by simp [go_sem, *]) (by simp [go_sem, *])
 have hz : w.heap.size + 1 < w3.heap.size := World.block_lt_of_cell? _ _ hc
 have b3 : Below w.heap.size w w3 := bl2 hb3 Bk.be
 have z3 := hb3.size
 try simp at z3
 clear hb3
 clear ec ed ef eg fc fd ff fg
 refine Reg.region_alloc 14 13 9 (.cells #[.int .i64 0, .int .u64 0] 152) [(12, 14)] (by kernel_rfl) (by kernel_rfl) (by kernel_rfl) (fun d _ _ _ _ h => by cases d <;> exact h) _ rfl rfl rfl ?hex ?rest
 case hex => intro ρ W; simp [go_sem, Reg.ptr]
 simp only [Reg.edges, Reg.edge]
 apply Exists.intro
 refine ⟨?walk, ?tail⟩
 case walk =>
  intro C hC
  simp only [Reg.blank, List.take_succ_cons, List.take_zero]
  iterate 14 (first | go_big_quiet_skip | (go_big_quiet_want; (first | (go_big_quiet_op; go_big_quiet_on) | (apply Reg.quiet_run; (intro W hW; have q1 := hC.cell hW gc; have q2 := hC.cell hW pc; have q3 := hC.cell hW pd; go_simp; (first | done | rfl | exact ⟨rfl, rfl⟩ )); (simp only [Act.put, List.setIfInBounds_toArray, List.set_cons_zero, List.set_cons_succ]; go_big_quiet_on)) | (apply Reg.quiet_call; (intro W hW; go_simp; (first | done | rfl | exact ⟨rfl, rfl⟩)); (intro W hW; (first | (go_at_call 165; exact hC.call hW (hS.out _)))); (simp only [Act.put, List.setIfInBounds_toArray, List.set_cons_zero, List.set_cons_succ]; go_big_quiet_on)))))
  exact wpQuiet_nil rfl
 case tail =>
  intro W w4 hW hb
  have hW4 := Reg.alc_back hW hb
  obtain ⟨nc, nd, nf, ng, nz⟩ := Reg.alc_cell2 hb
  have hc4 := hW4.cell hc
  have hd4 := hW4.cell hd
  have hf4 := hW4.frozen hc hf
  have hg4 := hW4.frozen hd hg
  have b4 := bl2 hW4 b3
  have k3 := hW.size
  clear hb hW hW4
  simp only [List.drop_succ_cons, List.drop_zero, Act.put, List.setIfInBounds_toArray, List.set_cons_zero, List.set_cons_succ, Reg.ptr]
  generalize W.heap.size = k at *
  go_wp2_with fail
  simp [bodyPost, results, Tryz.results120, go_sem, hc4, hd4]
  exact Bk.be

/-! ### below 0 -/
theorem div_neg0 (x n : Int) (w : World) (hx : I128 x) (hn : I64 n) (h1 : 1 ≤ n) (h0 : x < 0) (hr : (-x) % n = 0) : Calls Tryz.prog 120 #[.agg #[.int .i64 (hi x), .int .u64 (lo x)], .int .i64 n] w fun e w' => e = .returned (.tuple #[.agg #[.int .i64 (hi (x / n)), .int .u64 (lo (x / n))], .int .i64 (x % n), .int .i64 0]) ∧ Below w.heap.size w w' := by
 have hd0 : decide (hi x < 0) = true := by rw [hi_decide]; exact decide_eq_true h0
 have hu : U128 (-x) := by have := ab_u128 hx; rwa [ab_neg h0] at this
 have hA := Lib.hid (fun W => absolute_any x W hx)
 rw [ab_neg h0] at hA
 have hn64 : U64 n := by unfold I64 at hn; unfold U64; omega
 have hD := Lib.hid (fun W => divide_any (-x) n W hu hn64 (by omega))
 have q0 := Int.ediv_nonneg (show 0 ≤ -x by omega) (show 0 ≤ n by omega)
 have r0 := Int.emod_nonneg (-x) (show n ≠ 0 by omega)
 have r1 := Int.emod_lt_of_pos (-x) (show 0 < n by omega)
 have hq := quo_bd hx (show 0 < n by omega)
 obtain ⟨e1, e2⟩ := quo_neg (show 0 < n by omega) hr
 have qneg : x / n < 0 := Int.ediv_neg_of_neg_of_pos h0 (by omega)
 have hS := signed_fit (x / n) (ab_u128 hq)
 rw [ab_neg qneg, fit_in hq, ovf_in hq, decide_eq_true qneg, e1, Int.neg_neg] at hS
 rw [e2, e1]
 rw [hr] at hD
 have hm := Lib.hid (hl_ne (show (-x) / n ≠ 0 by omega))
 unfold I64 at hn
 generalize (-x) / n = m at *
 clear hx h0 hu hn64 q0 r0 r1 hr hq e1 e2 qneg
 go_enter Tryz.func120, Tryz.ntmps120
 go_wp2_with fail
 refine (hA.out _).mono ?_
 rintro e w1 ⟨rfl, hb1⟩
 obtain ⟨cc, cd, cf, cg⟩ := later2 hb1 (g := w.heap.size) (u := .int .i64 (hi x)) (v := .int .u64 (lo x)) (by simp [go_sem]) (by simp [go_sem]) (by simp [go_sem]) (by simp [go_sem])
 have cz : w.heap.size < w1.heap.size := World.block_lt_of_cell? _ _ cc
 obtain ⟨dc, dd, df, dg⟩ := later2 hb1 (g := w.heap.size + 1) (u := .int .i64 0) (v := .int .u64 0) (by simp [go_sem]) (by simp [go_sem]) (by simp [go_sem]) (by simp [go_sem])
 have dz : w.heap.size + 1 < w1.heap.size := World.block_lt_of_cell? _ _ dc
 have b1 : Below w.heap.size w w1 := bl2 hb1 Bk.be
 have z1 := hb1.size
 try simp at z1
 clear hb1
 go_wp2_with fail
 refine (hD.out _).mono ?_
 rintro e w2 ⟨rfl, hb2⟩
 obtain ⟨ec, ed, ef, eg⟩ := later2 hb2 (g := w.heap.size) (u := .int .i64 (hi x)) (v := .int .u64 (lo x)) (by simp [go_sem, *]) (by simp [go_sem, *]) (by simp [go_sem, *]) (by simp [go_sem, *])
 have ez : w.heap.size < w2.heap.size := World.block_lt_of_cell? _ _ ec
 obtain ⟨fc, fd, ff, fg⟩ := later2 hb2 (g := w.heap.size + 1) (u := .int .i64 0) (v := .int .u64 0) (by simp [go_sem, *]) (by simp [go_sem, *]) (by simp [go_sem, *]) (by simp [go_sem, *])
 have fz : w.heap.size + 1 < w2.heap.size := World.block_lt_of_cell? _ _ fc
 have b2 : Below w.heap.size w w2 := bl2 hb2 Bk.be
 have z2 := hb2.size
 try simp at z2
 clear hb2
 clear cc cd cf cg dc dd df dg
 go_wp2_with fail
 have hb3 : Below (w2).heap.size (w2) ((w2).alloc (.cells #[.int .u64 (hi m), .int .u64 (lo m)] 227)) := (Below.refl _ _).alloc (Nat.le_refl _) _
 have pc : ((w2).alloc (.cells #[.int .u64 (hi m), .int .u64 (lo m)] 227)).cell? ⟨(w2).heap.size, 0, none⟩ = some (.int .u64 (hi m)) := by simp [go_sem]
 have pd : ((w2).alloc (.cells #[.int .u64 (hi m), .int .u64 (lo m)] 227)).cell? ⟨(w2).heap.size, 1, none⟩ = some (.int .u64 (lo m)) := by simp [go_sem]
 have pf : ((w2).alloc (.cells #[.int .u64 (hi m), .int .u64 (lo m)] 227)).frozen? ⟨(w2).heap.size, 0, none⟩ = false := by simp [go_sem]
 have pg : ((w2).alloc (.cells #[.int .u64 (hi m), .int .u64 (lo m)] 227)).frozen? ⟨(w2).heap.size, 1, none⟩ = false := by simp [go_sem]
 have pz : (w2).heap.size < ((w2).alloc (.cells #[.int .u64 (hi m), .int .u64 (lo m)] 227)).heap.size := by simp
 generalize (w2).alloc (.cells #[.int .u64 (hi m), .int .u64 (lo m)] 227) = w3 at *
 obtain ⟨gc, gd, gf, gg⟩ := later2 hb3 (g := w.heap.size) (u := .int .i64 (hi x)) (v := .int .u64 (lo x)) (by simp [go_sem, *]) (by simp [go_sem, *]) (by simp [go_sem, *]) (by simp [go_sem, *])
 have gz : w.heap.size < w3.heap.size := World.block_lt_of_cell? _ _ gc
 obtain ⟨hc, hd, hf, hg⟩ := later2 hb3 (g := w.heap.size + 1) (u := .int .i64 0) (v := .int .u64 0) (by simp [go_sem, *]) (by simp [go_sem, *]) (by simp [go_sem, *]) (by simp [go_sem, *])
 have hz : w.heap.size + 1 < w3.heap.size := World.block_lt_of_cell? _ _ hc
 have b3 : Below w.heap.size w w3 := bl2 hb3 Bk.be
 have z3 := hb3.size
 try simp at z3
 clear hb3
 clear ec ed ef eg fc fd ff fg
 refine Reg.region_alloc 14 13 9 (.cells #[.int .i64 0, .int .u64 0] 152) [(12, 14)] (by kernel_rfl) (by kernel_rfl) (by kernel_rfl) (fun d _ _ _ _ h => by cases d <;> exact h) _ rfl rfl rfl ?hex ?rest
 case hex => intro ρ W; simp [go_sem, Reg.ptr]
 simp only [Reg.edges, Reg.edge]
 apply Exists.intro
 refine ⟨?walk, ?tail⟩
 case walk =>
  intro C hC
  simp only [Reg.blank, List.take_succ_cons, List.take_zero]
  iterate 14 (first | go_big_quiet_skip | (go_big_quiet_want; (first | (go_big_quiet_op; go_big_quiet_on) | (apply Reg.quiet_run; (intro W hW; have q1 := hC.cell hW gc; have q2 := hC.cell hW pc; have q3 := hC.cell hW pd; go_simp; (first | done | rfl | exact ⟨rfl, rfl⟩ | exact ne_zero_pick hm.out)); (simp only [Act.put, List.setIfInBounds_toArray, List.set_cons_zero, List.set_cons_succ]; go_big_quiet_on)) | (apply Reg.quiet_call; (intro W hW; go_simp; (first | done | rfl | exact ⟨rfl, rfl⟩)); (intro W hW; (first | (go_at_call 165; exact hC.call hW (hS.out _)))); (simp only [Act.put, List.setIfInBounds_toArray, List.set_cons_zero, List.set_cons_succ]; go_big_quiet_on)))))
  exact wpQuiet_nil rfl
 case tail =>
  intro W w9 hW hb
  have hW9 := Reg.alc_back hW hb
  obtain ⟨nc, nd, nf, ng, nz⟩ := Reg.alc_cell2 hb
  have hc9 := hW9.cell hc
  have hd9 := hW9.cell hd
  have hf9 := hW9.frozen hc hf
  have hg9 := hW9.frozen hd hg
  have b9 := bl2 hW9 b3
  have k9 := hW.size
  clear hb hW hW9
  simp only [List.drop_succ_cons, List.drop_zero, Act.put, List.setIfInBounds_toArray, List.set_cons_zero, List.set_cons_succ, Reg.ptr]
  generalize W.heap.size = k at *
  go_wp2_with fail
  simp [bodyPost, results, Tryz.results120, go_sem, hc9, hd9]
  exact Bk.be
theorem div_neg1 (x n : Int) (w : World) (hx : I128 x) (hn : I64 n) (h1 : 1 ≤ n) (h0 : x < 0) (hr : 0 < (-x) % n) : Calls Tryz.prog 120 #[.agg #[.int .i64 (hi x), .int .u64 (lo x)], .int .i64 n] w fun e w' => e = .returned (.tuple #[.agg #[.int .i64 (hi (x / n)), .int .u64 (lo (x / n))], .int .i64 (x % n), .int .i64 0]) ∧ Below w.heap.size w w' := by
 have hd0 : decide (hi x < 0) = true := by rw [hi_decide]; exact decide_eq_true h0
 have hu : U128 (-x) := by have := ab_u128 hx; rwa [ab_neg h0] at this
 have hA := Lib.hid (fun W => absolute_any x W hx)
 rw [ab_neg h0] at hA
 have hn64 : U64 n := by unfold I64 at hn; unfold U64; omega
 have hD := Lib.hid (fun W => divide_any (-x) n W hu hn64 (by omega))
 have q0 := Int.ediv_nonneg (show 0 ≤ -x by omega) (show 0 ≤ n by omega)
 have r0 := Int.emod_nonneg (-x) (show n ≠ 0 by omega)
 have r1 := Int.emod_lt_of_pos (-x) (show 0 < n by omega)
 have hq := quo_bd hx (show 0 < n by omega)
 obtain ⟨e1, e2⟩ := quo_neg2 (show 0 < n by omega) hr
 have qneg : x / n < 0 := Int.ediv_neg_of_neg_of_pos h0 (by omega)
 have hS := signed_fit (x / n) (ab_u128 hq)
 rw [ab_neg qneg, fit_in hq, ovf_in hq, decide_eq_true qneg, e1, Int.neg_neg] at hS
 rw [e2, e1]
 have hmu : (-x) / n ≤ 170141183460469231731687303715884105728 := by
  have := Int.ediv_le_self n (show 0 ≤ -x by omega); unfold I128 at hx; omega
 have hT := Lib.hid (fun W => times_yes ((-x) / n) 1 1 W ⟨q0, by omega⟩ (by unfold U64; omega) (by unfold U64; omega) (by omega))
 rw [Int.mul_one] at hT
 have hm := Lib.hid (hl_ne (show (-x) / n + 1 ≠ 0 by omega))
 have hw : IntKind.u64.wrap (n - (-x) % n) = n - (-x) % n := by rw [IntKind.wrap_u64]; unfold I64 at hn; omega
 unfold I64 at hn
 generalize (-x) / n + 1 = m' at *
 generalize (-x) / n = m at *
 generalize (-x) % n = r at *
 clear hx h0 hu hn64 q0 hq e1 e2 qneg hmu hw
 go_enter Tryz.func120, Tryz.ntmps120
 go_wp2_with fail
 refine (hA.out _).mono ?_
 rintro e w1 ⟨rfl, hb1⟩
 obtain ⟨cc, cd, cf, cg⟩ := later2 hb1 (g := w.heap.size) (u := .int .i64 (hi x)) (v := .int .u64 (lo x)) (by simp [go_sem]) (by simp [go_sem]) (by simp [go_sem]) (by simp [go_sem])
 have cz : w.heap.size < w1.heap.size := World.block_lt_of_cell? _ _ cc
 obtain ⟨dc, dd, df, dg⟩ := later2 hb1 (g := w.heap.size + 1) (u := .int .i64 0) (v := .int .u64 0) (by simp [go_sem]) (by simp [go_sem]) (by simp [go_sem]) (by simp [go_sem])
 have dz : w.heap.size + 1 < w1.heap.size := World.block_lt_of_cell? _ _ dc
 have b1 : Below w.heap.size w w1 := bl2 hb1 Bk.be
 have z1 := hb1.size
 try simp at z1
 clear hb1
 go_wp2_with fail
 refine (hD.out _).mono ?_
 rintro e w2 ⟨rfl, hb2⟩
 obtain ⟨ec, ed, ef, eg⟩ := later2 hb2 (g := w.heap.size) (u := .int .i64 (hi x)) (v := .int .u64 (lo x)) (by simp [go_sem, *]) (by simp [go_sem, *]) (by simp [go_sem, *]) (by simp [go_sem, *])
 have ez : w.heap.size < w2.heap.size := World.block_lt_of_cell? _ _ ec
 obtain ⟨fc, fd, ff, fg⟩ := later2 hb2 (g := w.heap.size + 1) (u := .int .i64 0) (v := .int .u64 0) (by simp [go_sem, *]) (by simp [go_sem, *]) (by simp [go_sem, *]) (by simp [go_sem, *])
 have fz : w.heap.size + 1 < w2.heap.size := World.block_lt_of_cell? _ _ fc
 have b2 : Below w.heap.size w w2 := bl2 hb2 Bk.be
 have z2 := hb2.size
 try simp at z2
 clear hb2
 clear cc cd cf cg dc dd df dg
 go_wp2_with fail
 have hb3 : Below (w2).heap.size (w2) ((w2).alloc (.cells #[.int .u64 (hi m), .int .u64 (lo m)] 227)) := (Below.refl _ _).alloc (Nat.le_refl _) _
 have oc : ((w2).alloc (.cells #[.int .u64 (hi m), .int .u64 (lo m)] 227)).cell? ⟨(w2).heap.size, 0, none⟩ = some (.int .u64 (hi m)) := by simp [go_sem]
 have od : ((w2).alloc (.cells #[.int .u64 (hi m), .int .u64 (lo m)] 227)).cell? ⟨(w2).heap.size, 1, none⟩ = some (.int .u64 (lo m)) := by simp [go_sem]
 have of : ((w2).alloc (.cells #[.int .u64 (hi m), .int .u64 (lo m)] 227)).frozen? ⟨(w2).heap.size, 0, none⟩ = false := by simp [go_sem]
 have og : ((w2).alloc (.cells #[.int .u64 (hi m), .int .u64 (lo m)] 227)).frozen? ⟨(w2).heap.size, 1, none⟩ = false := by simp [go_sem]
 have oz : (w2).heap.size < ((w2).alloc (.cells #[.int .u64 (hi m), .int .u64 (lo m)] 227)).heap.size := by simp
 generalize (w2).alloc (.cells #[.int .u64 (hi m), .int .u64 (lo m)] 227) = w3 at *
 obtain ⟨sc, sd, sf, sg⟩ := later2 hb3 (g := w.heap.size) (u := .int .i64 (hi x)) (v := .int .u64 (lo x)) (by simp [go_sem, *]) (by simp [go_sem, *]) (by simp [go_sem, *]) (by simp [go_sem, *])
 have sz : w.heap.size < w3.heap.size := World.block_lt_of_cell? _ _ sc
 obtain ⟨tc, td, tf, tg⟩ := later2 hb3 (g := w.heap.size + 1) (u := .int .i64 0) (v := .int .u64 0) (by simp [go_sem, *]) (by simp [go_sem, *]) (by simp [go_sem, *]) (by simp [go_sem, *])
 have tz : w.heap.size + 1 < w3.heap.size := World.block_lt_of_cell? _ _ tc
 have b3 : Below w.heap.size w w3 := bl2 hb3 Bk.be
 have z3 := hb3.size
 try simp at z3
 clear hb3
 clear ec ed ef eg fc fd ff fg
 go_wp2_with fail
 refine (hT.out _).mono ?_
 rintro e w4 ⟨rfl, hb4⟩
 obtain ⟨uc, ud, uf, ug⟩ := later2 hb4 (g := w.heap.size) (u := .int .i64 (hi x)) (v := .int .u64 (lo x)) (by simp [go_sem, *]) (by simp [go_sem, *]) (by simp [go_sem, *]) (by simp [go_sem, *])
 have uz : w.heap.size < w4.heap.size := World.block_lt_of_cell? _ _ uc
 obtain ⟨jc, jd, jf, jg⟩ := later2 hb4 (g := w.heap.size + 1) (u := .int .i64 0) (v := .int .u64 0) (by simp [go_sem, *]) (by simp [go_sem, *]) (by simp [go_sem, *]) (by simp [go_sem, *])
 have jz : w.heap.size + 1 < w4.heap.size := World.block_lt_of_cell? _ _ jc
 obtain ⟨lc, ld, lf, lg⟩ := later2 hb4 (g := w2.heap.size) (u := .int .u64 (hi m)) (v := .int .u64 (lo m)) (by simp [go_sem, *]) (by simp [go_sem, *]) (by simp [go_sem, *]) (by simp [go_sem, *])
 have lz : w2.heap.size < w4.heap.size := World.block_lt_of_cell? _ _ lc
 have b4 : Below w.heap.size w w4 := bl2 hb4 Bk.be
 have z4 := hb4.size
 try simp at z4
 clear hb4
 clear oc od of og sc sd sf sg tc td tf tg
 go_wp2_with fail
 have gc : ((w4.setCell ⟨w2.heap.size, 0, none⟩ (.int .u64 (hi m'))).setCell ⟨w2.heap.size, 1, none⟩ (.int .u64 (lo m'))).cell? ⟨w.heap.size, 0, none⟩ = some (.int .i64 (hi x)) := by simp [go_sem, *]
 have gd : ((w4.setCell ⟨w2.heap.size, 0, none⟩ (.int .u64 (hi m'))).setCell ⟨w2.heap.size, 1, none⟩ (.int .u64 (lo m'))).cell? ⟨w.heap.size, 1, none⟩ = some (.int .u64 (lo x)) := by simp [go_sem, *]
 have gf : ((w4.setCell ⟨w2.heap.size, 0, none⟩ (.int .u64 (hi m'))).setCell ⟨w2.heap.size, 1, none⟩ (.int .u64 (lo m'))).frozen? ⟨w.heap.size, 0, none⟩ = false := by simp [go_sem, *]
 have gg : ((w4.setCell ⟨w2.heap.size, 0, none⟩ (.int .u64 (hi m'))).setCell ⟨w2.heap.size, 1, none⟩ (.int .u64 (lo m'))).frozen? ⟨w.heap.size, 1, none⟩ = false := by simp [go_sem, *]
 have gz : w.heap.size < ((w4.setCell ⟨w2.heap.size, 0, none⟩ (.int .u64 (hi m'))).setCell ⟨w2.heap.size, 1, none⟩ (.int .u64 (lo m'))).heap.size := World.block_lt_of_cell? _ _ gc
 have hc : ((w4.setCell ⟨w2.heap.size, 0, none⟩ (.int .u64 (hi m'))).setCell ⟨w2.heap.size, 1, none⟩ (.int .u64 (lo m'))).cell? ⟨w.heap.size + 1, 0, none⟩ = some (.int .i64 0) := by simp [go_sem, *]
 have hd : ((w4.setCell ⟨w2.heap.size, 0, none⟩ (.int .u64 (hi m'))).setCell ⟨w2.heap.size, 1, none⟩ (.int .u64 (lo m'))).cell? ⟨w.heap.size + 1, 1, none⟩ = some (.int .u64 0) := by simp [go_sem, *]
 have hf : ((w4.setCell ⟨w2.heap.size, 0, none⟩ (.int .u64 (hi m'))).setCell ⟨w2.heap.size, 1, none⟩ (.int .u64 (lo m'))).frozen? ⟨w.heap.size + 1, 0, none⟩ = false := by simp [go_sem, *]
 have hg : ((w4.setCell ⟨w2.heap.size, 0, none⟩ (.int .u64 (hi m'))).setCell ⟨w2.heap.size, 1, none⟩ (.int .u64 (lo m'))).frozen? ⟨w.heap.size + 1, 1, none⟩ = false := by simp [go_sem, *]
 have hz : w.heap.size + 1 < ((w4.setCell ⟨w2.heap.size, 0, none⟩ (.int .u64 (hi m'))).setCell ⟨w2.heap.size, 1, none⟩ (.int .u64 (lo m'))).heap.size := World.block_lt_of_cell? _ _ hc
 have pc : ((w4.setCell ⟨w2.heap.size, 0, none⟩ (.int .u64 (hi m'))).setCell ⟨w2.heap.size, 1, none⟩ (.int .u64 (lo m'))).cell? ⟨w2.heap.size, 0, none⟩ = some (.int .u64 (hi m')) := by simp [go_sem, *]
 have pd : ((w4.setCell ⟨w2.heap.size, 0, none⟩ (.int .u64 (hi m'))).setCell ⟨w2.heap.size, 1, none⟩ (.int .u64 (lo m'))).cell? ⟨w2.heap.size, 1, none⟩ = some (.int .u64 (lo m')) := by simp [go_sem, *]
 have pf : ((w4.setCell ⟨w2.heap.size, 0, none⟩ (.int .u64 (hi m'))).setCell ⟨w2.heap.size, 1, none⟩ (.int .u64 (lo m'))).frozen? ⟨w2.heap.size, 0, none⟩ = false := by simp [go_sem, *]
 have pg : ((w4.setCell ⟨w2.heap.size, 0, none⟩ (.int .u64 (hi m'))).setCell ⟨w2.heap.size, 1, none⟩ (.int .u64 (lo m'))).frozen? ⟨w2.heap.size, 1, none⟩ = false := by simp [go_sem, *]
 have pz : w2.heap.size < ((w4.setCell ⟨w2.heap.size, 0, none⟩ (.int .u64 (hi m'))).setCell ⟨w2.heap.size, 1, none⟩ (.int .u64 (lo m'))).heap.size := World.block_lt_of_cell? _ _ pc
 have b5 : Below w.heap.size w ((w4.setCell ⟨w2.heap.size, 0, none⟩ (.int .u64 (hi m'))).setCell ⟨w2.heap.size, 1, none⟩ (.int .u64 (lo m'))) := Bk.be
 clear uc ud uf ug jc jd jf jg lc ld lf lg b4
 generalize (w4.setCell ⟨w2.heap.size, 0, none⟩ (.int .u64 (hi m'))).setCell ⟨w2.heap.size, 1, none⟩ (.int .u64 (lo m')) = w5 at *
 refine Reg.region_alloc 14 13 9 (.cells #[.int .i64 0, .int .u64 0] 152) [(12, 14)] (by kernel_rfl) (by kernel_rfl) (by kernel_rfl) (fun d _ _ _ _ h => by cases d <;> exact h) _ rfl rfl rfl ?hex ?rest
 case hex => intro ρ W; simp [go_sem, Reg.ptr]
 simp only [Reg.edges, Reg.edge]
 apply Exists.intro
 refine ⟨?walk, ?tail⟩
 case walk =>
  intro C hC
  simp only [Reg.blank, List.take_succ_cons, List.take_zero]
  iterate 14 (first | go_big_quiet_skip | (go_big_quiet_want; (first | (go_big_quiet_op; go_big_quiet_on) | (apply Reg.quiet_run; (intro W hW; have q1 := hC.cell hW gc; have q2 := hC.cell hW pc; have q3 := hC.cell hW pd; go_simp; (first | done | rfl | exact ⟨rfl, rfl⟩ | exact ne_zero_pick hm.out)); (simp only [Act.put, List.setIfInBounds_toArray, List.set_cons_zero, List.set_cons_succ]; go_big_quiet_on)) | (apply Reg.quiet_call; (intro W hW; go_simp; (first | done | rfl | exact ⟨rfl, rfl⟩)); (intro W hW; (first | (go_at_call 165; exact hC.call hW (hS.out _)))); (simp only [Act.put, List.setIfInBounds_toArray, List.set_cons_zero, List.set_cons_succ]; go_big_quiet_on)))))
  exact wpQuiet_nil rfl
 case tail =>
  intro W w9 hW hb
  have hW9 := Reg.alc_back hW hb
  obtain ⟨nc, nd, nf, ng, nz⟩ := Reg.alc_cell2 hb
  have hc9 := hW9.cell hc
  have hd9 := hW9.cell hd
  have hf9 := hW9.frozen hc hf
  have hg9 := hW9.frozen hd hg
  have b9 := bl2 hW9 b5
  have k9 := hW.size
  clear hb hW hW9
  simp only [List.drop_succ_cons, List.drop_zero, Act.put, List.setIfInBounds_toArray, List.set_cons_zero, List.set_cons_succ, Reg.ptr]
  generalize W.heap.size = k at *
  go_wp2_with fail
  simp [bodyPost, results, Tryz.results120, go_sem, hc9, hd9]
  exact Bk.be
end Go.Proofs.YtlolflephnbbcaaGreatDoor.Wt
namespace Go.Proofs.YtlolflephnbbcaaGreatDoor.Wt
open Go.RowKit
open Go.Proofs.YtlolflephnbbcaaGreatDoor
open Go.Proofs.YtlolflephnbbcaaGreatDoor.Wm

end Go.Proofs.YtlolflephnbbcaaGreatDoor.Wt

namespace Go.Proofs.YtlolflephnbbcaaGreatDoor.Wt
open Go.RowKit
open Go.Proofs.YtlolflephnbbcaaGreatDoor
open Go.Proofs.YtlolflephnbbcaaGreatDoor.Wm

end Go.Proofs.YtlolflephnbbcaaGreatDoor.Wt

namespace Go.Proofs.YtlolflephnbbcaaGreatDoor.Wt
open Go.RowKit
open Go.Proofs.YtlolflephnbbcaaGreatDoor
open Go.Proofs.YtlolflephnbbcaaGreatDoor.Wm

end Go.Proofs.YtlolflephnbbcaaGreatDoor.Wt

namespace Go.Proofs.YtlolflephnbbcaaGreatDoor.Wt
open Go.RowKit
open Go.Proofs.YtlolflephnbbcaaGreatDoor
open Go.Proofs.YtlolflephnbbcaaGreatDoor.Wm

def dq (x n : Int) : Int := if n < 1 then 0 else x / n
def dr (x n : Int) : Int := if n < 1 then 0 else x % n
def de (n : Int) : Int := if n < 1 then 1 else 0
theorem div_any (x n : Int) (w : World) (hx : I128 x) (hn : I64 n) : Calls Tryz.prog 120 #[.agg #[.int .i64 (hi x), .int .u64 (lo x)], .int .i64 n] w fun e w' => e = .returned (.tuple #[.agg #[.int .i64 (hi (dq x n)), .int .u64 (lo (dq x n))], .int .i64 (dr x n), .int .i64 (de n)]) ∧ Below w.heap.size w w' := by
 by_cases h : n < 1
 ·rw [show dq x n = 0 from if_pos h, show dr x n = 0 from if_pos h, show de n = 1 from if_pos h, hi_0, lo_0]
  exact div_zero x n w h
 ·rw [show dq x n = x / n from if_neg h, show dr x n = x % n from if_neg h, show de n = 0 from if_neg h]
  by_cases h0 : 0 ≤ x
  ·exact div_pos x n w hx hn (by omega) h0
  ·have r := Int.emod_nonneg (-x) (show n ≠ 0 by omega)
   by_cases hr : (-x) % n = 0
   ·exact div_neg0 x n w hx hn (by omega) (by omega) hr
   ·exact div_neg1 x n w hx hn (by omega) (by omega) (by omega)
end Go.Proofs.YtlolflephnbbcaaGreatDoor.Wt

namespace Go.Proofs.YtlolflephnbbcaaGreatDoor.Rd
open Go.Proofs.YtlolflephnbbcaaGreatDoor.Wm
open Go.Proofs.YtlolflephnbbcaaGreatDoor.Wt

def upB (neg odd : Bool) (r n mode : Int) : Bool := if mode = 1 then neg else if mode = 2 then !neg else if mode = 3 then false else if mode = 4 then true else if r = n - r then (if mode = 5 then !neg else odd) else decide (n - r < r)
def moreI (neg odd : Bool) (r n mode : Int) : Int := if upB neg odd r n mode then 1 else 0
def rd (x n mode : Int) : Int := x / n + if 0 < x % n then moreI (decide (x < 0)) (decide (x / n % 2 = 1)) (x % n) n mode else 0
def rok (n mode : Int) : Prop := 1 ≤ n ∧ 1 ≤ mode ∧ mode ≤ 6
instance (n mode : Int) : Decidable (rok n mode) := by unfold rok; exact inferInstance
def rdV (x n mode : Int) : Int := if rok n mode then ifit (rd x n mode) else 0
def rdE (x n mode : Int) : Int := if rok n mode then (if iin (rd x n mode) then 0 else 6) else 1
theorem upB_1 {neg odd : Bool} {r n mode : Int} (hm : 5 ≤ mode) (h : n - r < r) : upB neg odd r n mode = true := by
 unfold upB
 rw [if_neg (by omega), if_neg (by omega), if_neg (by omega), if_neg (by omega), if_neg (by omega), decide_eq_true h]
theorem upB_0 {neg odd : Bool} {r n mode : Int} (hm : 5 ≤ mode) (h : r < n - r) : upB neg odd r n mode = false := by
 unfold upB
 rw [if_neg (by omega), if_neg (by omega), if_neg (by omega), if_neg (by omega), if_neg (by omega), decide_eq_false (by omega)]
theorem upB_5 {neg odd : Bool} {r n : Int} (h : r = n - r) : upB neg odd r n 5 = !neg := by
 unfold upB
 rw [if_neg (by omega), if_neg (by omega), if_neg (by omega), if_neg (by omega), if_pos h, if_pos rfl]
theorem upB_6 {neg odd : Bool} {r n : Int} (h : r = n - r) : upB neg odd r n 6 = odd := by
 unfold upB
 rw [if_neg (by omega), if_neg (by omega), if_neg (by omega), if_neg (by omega), if_pos h, if_neg (by omega)]
theorem moreI_bd (neg odd : Bool) (r n mode : Int) : 0 ≤ moreI neg odd r n mode ∧ moreI neg odd r n mode ≤ 1 := by unfold moreI; split <;> omega
theorem rd_bd {x n mode : Int} (hx : I128 x) (hn : 1 ≤ n) : I128 (rd x n mode) := by
 unfold rd
 split
 ·rename_i h
  have h1 := quo_bd hx (show 0 < n by omega)
  have h2 := moreI_bd (decide (x < 0)) (decide (x / n % 2 = 1)) (x % n) n mode
  have h3 := Int.mul_ediv_add_emod x n
  have h4 := Int.emod_lt_of_pos x (show 0 < n by omega)
  unfold I128 at *
  have h5 : x / n ≤ 85070591730234615865843651857942052864 := by
   rcases Classical.em (x / n ≤ 85070591730234615865843651857942052864) with h5 | h5
   ·exact h5
   ·have : 2 * (x / n) ≤ n * (x / n) := Int.mul_le_mul_of_nonneg_right (by omega) (by omega)
    omega
  omega
 ·rw [Int.add_zero]; exact quo_bd hx (by omega)
theorem rd_exact {x n mode : Int} (h : ¬ 0 < x % n) : rd x n mode = x / n := by unfold rd; rw [if_neg h, Int.add_zero]
theorem rd_step {x n mode : Int} (h : 0 < x % n) : rd x n mode = x / n + moreI (decide (x < 0)) (decide (x / n % 2 = 1)) (x % n) n mode := by unfold rd; rw [if_pos h]
theorem quo_sign {x n : Int} (hn : 1 ≤ n) : (x / n < 0) = (x < 0) := by
 apply propext
 constructor
 ·intro h
  rcases Classical.em (x < 0) with h' | h'
  ·exact h'
  ·have := Int.ediv_nonneg (show 0 ≤ x by omega) (show 0 ≤ n by omega); omega
 ·exact fun h => Int.ediv_neg_of_neg_of_pos h (by omega)
theorem lo_mod (x : Int) : lo x % 2 = x % 2 := by unfold lo; omega
end Go.Proofs.YtlolflephnbbcaaGreatDoor.Rd
