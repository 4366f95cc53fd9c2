/-
  The examples that every statement about daycount requires: they hold.
-/
import Derived.Test.YtjhhjpcljcnkaaaInt
import Derived.Deep.RegionWith
namespace Go.Proofs.Ytjhhjpcljcnkaaa.Dt
open Go.RowKit
open Go.Proofs.Ytjhhjpcljcnkaaa
open Go.Proofs.Ytjhhjpcljcnkaaa.Cal Go.Proofs.Ytjhhjpcljcnkaaa.Wm Go.Proofs.Ytjhhjpcljcnkaaa.Wt

theorem c30 : IsCivil 30 2000 1 31 := ⟨by decide, by decide, by decide, by decide, by decide, by decide, by decide⟩
theorem c59 : IsCivil 59 2000 2 29 := ⟨by decide, by decide, by decide, by decide, by decide, by decide, by decide⟩
theorem c60 : IsCivil 60 2000 3 1 := ⟨by decide, by decide, by decide, by decide, by decide, by decide, by decide⟩
theorem c0 : IsCivil 0 2000 1 1 := civil_0
theorem c366 : IsCivil 366 2001 1 1 := ⟨by decide, by decide, by decide, by decide, by decide, by decide, by decide⟩
theorem u_of {d y m k : Int} (h : IsCivil d y m k) : u30 d = 360 * y + 30 * m + min k 30 := by
  obtain ⟨a, b, c⟩ := civ_eq h; unfold u30; rw [a, b, c]
theorem x1 : thi 30 59 = 29 := by rw [thi_in (by omega), u_of c30, u_of c59]; decide
theorem x2 : thi 59 60 = 2 := by rw [thi_in (by omega), u_of c59, u_of c60]; decide
theorem x3 : wei 3 0 = 4380 := by rw [wei_in (by omega) (by omega)]; simp only [wgt]; rw [(civ_eq c0).1]; decide
theorem x4 : wei 3 366 = 4392 := by rw [wei_in (by omega) (by omega)]; simp only [wgt]; rw [(civ_eq c366).1]; decide
theorem x5 : sumv 1 3 5 = 8906 := by rw [sumv_in (by omega)]; simp [cw]
theorem x6 : 100000 * 15000 * sumv 2 0 1 = 6588000000000 := by rw [sumv_in (by omega)]; simp [cw]

/-- The interest of the chapter's example. -/
theorem example_interest (w : World) : Calls Try.prog 21 #[.int .i64 100000, .int .i64 15000, .int .i64 2, .int .i64 0, .int .i64 1] w fun e w' => e = .returned (.tuple #[.agg #[.int .i64 0, .int .u64 6588000000000], .int .i64 0]) ∧ Below w.heap.size w w' := by
  have h := interest_yes 100000 15000 2 0 1 w (by unfold intOk; omega)
  rw [x6, show hi 6588000000000 = 0 by decide, show lo 6588000000000 = 6588000000000 by decide] at h
  exact h

set_option maxHeartbeats 1000000 in
theorem lives_any (w : World) : Calls Try.prog 14 #[] w fun e w' => e = .returned (.bool true) ∧ Below w.heap.size w w' := by
  have l1 := Lib.hid (fun W => x1 ▸ thirty_any 30 59 W)
  have l2 := Lib.hid (fun W => x2 ▸ thirty_any 59 60 W)
  have l3 := Lib.hid (fun W => x3 ▸ weight_any 3 0 W)
  have l4 := Lib.hid (fun W => x4 ▸ weight_any 3 366 W)
  have l5 := Lib.hid (fun W => x5 ▸ sum_any 1 3 5 W)
  have l6 := Lib.hid (fun W => (show hi 6588000000000 = 0 by decide) ▸ (show lo 6588000000000 = 6588000000000 by decide) ▸ rof_any 6588000000000 W (by unfold I64; omega))
  have l7 := Lib.hid (fun W => bvalid_yes 4 W (by omega) (by omega))
  go_enter Try.func14, Try.ntmps14
  go_wp2_with fail
  refine (example_interest _).mono ?_
  rintro e w1 ⟨rfl, hb1⟩
  have b1 : Below w.heap.size w w1 := bl2 hb1 (by repeat (first | assumption | exact Below.refl _ _ | refine Below.setCell ?_ (by first | exact Nat.le_refl _ | (simp; done) | (simp; omega) | omega) _ | refine Below.alloc ?_ (by first | exact Nat.le_refl _ | (simp; done) | (simp; omega) | omega) _ | refine Below.drew ?_ | exact Nat.le_refl _))
  have z1 := hb1.size
  try simp at z1
  clear hb1
  go_wp2_with fail
  have hb3 : Below (w1).heap.size (w1) ((w1).alloc (.cells #[.int .i64 0, .int .u64 6588000000000] 33)) := (Below.refl _ _).alloc (Nat.le_refl _) _
  have pc : ((w1).alloc (.cells #[.int .i64 0, .int .u64 6588000000000] 33)).cell? ⟨(w1).heap.size, 0, none⟩ = some (.int .i64 0) := by simp [go_sem]
  have pd : ((w1).alloc (.cells #[.int .i64 0, .int .u64 6588000000000] 33)).cell? ⟨(w1).heap.size, 1, none⟩ = some (.int .u64 6588000000000) := by simp [go_sem]
  have pf : ((w1).alloc (.cells #[.int .i64 0, .int .u64 6588000000000] 33)).frozen? ⟨(w1).heap.size, 0, none⟩ = false := by simp [go_sem]
  have pg : ((w1).alloc (.cells #[.int .i64 0, .int .u64 6588000000000] 33)).frozen? ⟨(w1).heap.size, 1, none⟩ = false := by simp [go_sem]
  have pz : (w1).heap.size < ((w1).alloc (.cells #[.int .i64 0, .int .u64 6588000000000] 33)).heap.size := by simp
  generalize (w1).alloc (.cells #[.int .i64 0, .int .u64 6588000000000] 33) = w3 at *
  have b3 : Below w.heap.size w w3 := bl2 hb3 (by repeat (first | assumption | exact Below.refl _ _ | refine Below.setCell ?_ (by first | exact Nat.le_refl _ | (simp; done) | (simp; omega) | omega) _ | refine Below.alloc ?_ (by first | exact Nat.le_refl _ | (simp; done) | (simp; omega) | omega) _ | refine Below.drew ?_ | exact Nat.le_refl _))
  have z3 := hb3.size
  try simp at z3
  clear hb3
  refine Reg.region_quiet (by kernel_rfl) (by kernel_rfl) ?_
  iterate 31 (first | go_big_quiet_skip | (go_big_quiet_want; (first | (go_big_quiet_op; go_big_quiet_on) | (apply Reg.quiet_run; (intro W hW; have q2 := hW.cell pc; have q3 := hW.cell pd; go_simp; (first | done | rfl | exact ⟨rfl, rfl⟩ )); (simp only [Act.put, List.setIfInBounds_toArray, List.set_cons_zero, List.set_cons_succ]; go_big_quiet_on)) | (apply Reg.quiet_call; (intro W hW; go_simp; (first | done | rfl | exact ⟨rfl, rfl⟩)); (intro W hW; (first  | (go_at_call_of 15 (Value.int .i64 30); exact Reg.cls_call hW (l1.out _)) | (go_at_call_of 15 (Value.int .i64 60); exact Reg.cls_call hW (l2.out _)) | (go_at_call_of 12 (Value.int .i64 0); exact Reg.cls_call hW (l3.out _)) | (go_at_call_of 12 (Value.int .i64 366); exact Reg.cls_call hW (l4.out _)) | (go_at_call 18; exact Reg.cls_call hW (l5.out _)) | (go_at_call 30; exact Reg.cls_call hW (l6.out _)) | (go_at_call 10; exact Reg.cls_same hW (l7.out _)))); (simp only [Act.put, List.setIfInBounds_toArray, List.set_cons_zero, List.set_cons_succ]; go_big_quiet_on)))))
  refine wpQuiet_nil ?_
  intro w4 hW
  have b4 := bl2 hW b3
  clear hW
  go_wp2_with fail
  go_ret
  exact ⟨rfl, (by repeat (first | assumption | exact Below.refl _ _ | refine Below.setCell ?_ (by first | exact Nat.le_refl _ | (simp; done) | (simp; omega) | omega) _ | refine Below.alloc ?_ (by first | exact Nat.le_refl _ | (simp; done) | (simp; omega) | omega) _ | refine Below.drew ?_ | exact Nat.le_refl _))⟩
end Go.Proofs.Ytjhhjpcljcnkaaa.Dt
