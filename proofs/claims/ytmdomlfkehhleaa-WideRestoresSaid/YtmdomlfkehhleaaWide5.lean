/-
  The contract of package wide's Scale: the product, or the refusal.
-/
import Derived.Test.YtmdomlfkehhleaaWide4
import Derived.Test.YtmdomlfkehhleaaReg
import Derived.StillTailTactics
import Derived.Deep.RegionHeld3
import Derived.BigQuiet
namespace Go.Proofs.Ytmdomlfkehhleaa.Wt
open Go.RowKit
open Go.Proofs.Ytmdomlfkehhleaa
open Go.Proofs.Ytmdomlfkehhleaa.Wm

theorem times0_yes (m n : Int) (w : World) (hm : U128 m) (hn : U64 n) (h : m * n ≤ 340282366920938463463374607431768211455) :
    Calls Try.prog 33 #[.agg #[.int .u64 (hi m), .int .u64 (lo m)], .int .u64 n, .int .u64 0] w fun e w' => e = .returned (.tuple #[.agg #[.int .u64 (hi (m * n)), .int .u64 (lo (m * n))], .bool true]) ∧ Below w.heap.size w w' := by
  have := times_yes m n 0 w hm hn (by unfold U64; omega) (by omega)
  rw [Int.add_zero] at this
  exact this
theorem times0_not (m n : Int) (w : World) (hm : U128 m) (hn : U64 n) (h : 340282366920938463463374607431768211455 < m * n) :
    Calls Try.prog 33 #[.agg #[.int .u64 (hi m), .int .u64 (lo m)], .int .u64 n, .int .u64 0] w (NoFit w) :=
  times_not m n 0 w hm hn (by unfold U64; omega) (by omega)
theorem ab_u128 {x : Int} (h : I128 x) : U128 (ab x) := by unfold I128 at h; unfold U128 ab; split <;> omega

theorem ne_zero_pick {α : Type} {a b : Int} {x y : α} (h : ¬ (a = 0 ∧ b = 0)) : (if a = 0 then if b = 0 then x else y else y) = y := by
  split
  · split
    · next h1 h2 => exact absurd ⟨h1, h2⟩ h
    · rfl
  · rfl

/-! The ways through Scale where the product of the absolute values fits; what 'signed' returns is handed in. -/
theorem scale_w1 (x n m : Int) (rh rl er : Int) (w : World) (hx : I128 x) (hn : I64 n) (HF : Hid (ab x * ab n ≤ 340282366920938463463374607431768211455)) (HE : Hid (ab x * ab n = m)) (ht : decide (hi x < 0) = decide (n < 0)) (HS : Hid (∀ W : World, Calls Try.prog 34 #[.agg #[.int .u64 (hi m), .int .u64 (lo m)], .bool false] W fun e w' => e = .returned (.tuple #[.agg #[.int .i64 rh, .int .u64 rl], .int .i64 er]) ∧ Below W.heap.size W w')) :
    Calls Try.prog 17 #[.agg #[.int .i64 (hi x), .int .u64 (lo x)], .int .i64 n] w fun e w' => e = .returned (.tuple #[.agg #[.int .i64 rh, .int .u64 rl], .int .i64 er]) ∧ Below w.heap.size w w' := by
  cases t1 : decide (hi x < 0)
  all_goals
    have t2 : decide (n < 0) = _ := ht.symm.trans t1
    clear ht
    go_enter Try.func17, Try.ntmps17
    go_wp2_with fail
    refine (absolute_any x _ hx).mono ?_
    rintro e w1 ⟨rfl, hb1⟩
    obtain ⟨cc, cd, cf, cg⟩ := later2 hb1 (g := w.heap.size) (u := .int .i64 (hi x)) (v := .int .u64 (lo x)) (by simp [go_sem]) (by simp [go_sem]) (by simp [go_sem]) (by simp [go_sem])
    have cz : w.heap.size < w1.heap.size := World.block_lt_of_cell? _ _ cc
    obtain ⟨dc, dd, df, dg⟩ := later2 hb1 (g := w.heap.size + 1) (u := .int .i64 0) (v := .int .u64 0) (by simp [go_sem]) (by simp [go_sem]) (by simp [go_sem]) (by simp [go_sem])
    have dz : w.heap.size + 1 < w1.heap.size := World.block_lt_of_cell? _ _ dc
    have b1 : Below w.heap.size w w1 := bl2 hb1 (by repeat (first | assumption | exact Below.refl _ _ | refine Below.setCell ?_ (by first | exact Nat.le_refl _ | (simp; done) | (simp; omega) | omega) _ | refine Below.alloc ?_ (by first | exact Nat.le_refl _ | (simp; done) | (simp; omega) | omega) _ | refine Below.drew ?_ | exact Nat.le_refl _))
    have z1 := hb1.size
    try simp at z1
    clear hb1
    go_wp2_with fail
    refine (abs_any n _ hn).mono ?_
    rintro e w' ⟨rfl, rfl⟩
    go_wp2_with fail
    refine (times0_yes _ _ _ (ab_u128 hx) (ab_word hn) HF.out).mono ?_
    rintro e w2 ⟨rfl, hb2⟩
    obtain ⟨ec, ed, ef, eg⟩ := later2 hb2 (g := w.heap.size) (u := .int .i64 (hi x)) (v := .int .u64 (lo x)) (by simp [go_sem, *]) (by simp [go_sem, *]) (by simp [go_sem, *]) (by simp [go_sem, *])
    have ez : w.heap.size < w2.heap.size := World.block_lt_of_cell? _ _ ec
    obtain ⟨fc, fd, ff, fg⟩ := later2 hb2 (g := w.heap.size + 1) (u := .int .i64 0) (v := .int .u64 0) (by simp [go_sem, *]) (by simp [go_sem, *]) (by simp [go_sem, *]) (by simp [go_sem, *])
    have fz : w.heap.size + 1 < w2.heap.size := World.block_lt_of_cell? _ _ fc
    have b2 : Below w.heap.size w w2 := bl2 hb2 (by repeat (first | assumption | exact Below.refl _ _ | refine Below.setCell ?_ (by first | exact Nat.le_refl _ | (simp; done) | (simp; omega) | omega) _ | refine Below.alloc ?_ (by first | exact Nat.le_refl _ | (simp; done) | (simp; omega) | omega) _ | refine Below.drew ?_ | exact Nat.le_refl _))
    have z2 := hb2.size
    try simp at z2
    clear hb2
    clear cc cd cf cg dc dd df dg
    rw [HE.out]
    go_wp2_with fail
    have hb3 : Below (w2).heap.size (w2) ((w2).alloc (.cells #[.int .u64 (hi m), .int .u64 (lo m)] 45)) := (Below.refl _ _).alloc (Nat.le_refl _) _
    have pc : ((w2).alloc (.cells #[.int .u64 (hi m), .int .u64 (lo m)] 45)).cell? ⟨(w2).heap.size, 0, none⟩ = some (.int .u64 (hi m)) := by simp [go_sem]
    have pd : ((w2).alloc (.cells #[.int .u64 (hi m), .int .u64 (lo m)] 45)).cell? ⟨(w2).heap.size, 1, none⟩ = some (.int .u64 (lo m)) := by simp [go_sem]
    have pf : ((w2).alloc (.cells #[.int .u64 (hi m), .int .u64 (lo m)] 45)).frozen? ⟨(w2).heap.size, 0, none⟩ = false := by simp [go_sem]
    have pg : ((w2).alloc (.cells #[.int .u64 (hi m), .int .u64 (lo m)] 45)).frozen? ⟨(w2).heap.size, 1, none⟩ = false := by simp [go_sem]
    have pz : (w2).heap.size < ((w2).alloc (.cells #[.int .u64 (hi m), .int .u64 (lo m)] 45)).heap.size := by simp
    generalize (w2).alloc (.cells #[.int .u64 (hi m), .int .u64 (lo m)] 45) = w3 at *
    obtain ⟨gc, gd, gf, gg⟩ := later2 hb3 (g := w.heap.size) (u := .int .i64 (hi x)) (v := .int .u64 (lo x)) (by simp [go_sem, *]) (by simp [go_sem, *]) (by simp [go_sem, *]) (by simp [go_sem, *])
    have gz : w.heap.size < w3.heap.size := World.block_lt_of_cell? _ _ gc
    obtain ⟨hc, hd, hf, hg⟩ := later2 hb3 (g := w.heap.size + 1) (u := .int .i64 0) (v := .int .u64 0) (by simp [go_sem, *]) (by simp [go_sem, *]) (by simp [go_sem, *]) (by simp [go_sem, *])
    have hz : w.heap.size + 1 < w3.heap.size := World.block_lt_of_cell? _ _ hc
    have b3 : Below w.heap.size w w3 := bl2 hb3 (by repeat (first | assumption | exact Below.refl _ _ | refine Below.setCell ?_ (by first | exact Nat.le_refl _ | (simp; done) | (simp; omega) | omega) _ | refine Below.alloc ?_ (by first | exact Nat.le_refl _ | (simp; done) | (simp; omega) | omega) _ | refine Below.drew ?_ | exact Nat.le_refl _))
    have z3 := hb3.size
    try simp at z3
    clear hb3
    clear ec ed ef eg fc fd ff fg
    refine Reg.region_tail 15 (by kernel_rfl) (by kernel_rfl) ?_
    simp only [List.take_succ_cons, List.take_zero, List.drop_succ_cons, List.drop_zero]
    iterate 15 (first | go_big_quiet_skip | (go_big_quiet_want; (first | (go_big_quiet_op; go_big_quiet_on) | (apply Reg.quiet_run; (intro W hW; have q1 := hW.cell gc; have q2 := hW.cell pc; have q3 := hW.cell pd; go_simp; (first | done | rfl | exact ⟨rfl, rfl⟩ )); (simp only [Act.put, List.setIfInBounds_toArray, List.set_cons_zero, List.set_cons_succ]; go_big_quiet_on)) | (apply Reg.quiet_call; (intro W hW; go_simp; (first | done | rfl | exact ⟨rfl, rfl⟩)); (intro W hW; (first | (go_at_call 34; exact Reg.cls_call hW (HS.out _)))); (simp only [Act.put, List.setIfInBounds_toArray, List.set_cons_zero, List.set_cons_succ]; go_big_quiet_on)))))
    refine wpQuiet_nil ?_
    intro w4 hW
    have rc := hW.cell hc
    have rd := hW.cell hd
    have rf := hW.frozen hc hf
    have rg := hW.frozen hd hg
    have b4 := bl2 hW b3
    clear hW
    go_wp2_with fail
    simp [bodyPost, results, Try.results17, go_sem, rc, rd]
    exact (by repeat (first | assumption | exact Below.refl _ _ | refine Below.setCell ?_ (by first | exact Nat.le_refl _ | (simp; done) | (simp; omega) | omega) _ | refine Below.alloc ?_ (by first | exact Nat.le_refl _ | (simp; done) | (simp; omega) | omega) _ | refine Below.drew ?_ | exact Nat.le_refl _))
theorem scale_w2 (x n : Int) (rh rl er : Int) (w : World) (hx : I128 x) (hn : I64 n) (HF : Hid (ab x * ab n ≤ 340282366920938463463374607431768211455)) (HE : Hid (ab x * ab n = 0)) (ht : decide (hi x < 0) = !decide (n < 0)) (HS : Hid (∀ W : World, Calls Try.prog 34 #[.agg #[.int .u64 0, .int .u64 0], .bool false] W fun e w' => e = .returned (.tuple #[.agg #[.int .i64 rh, .int .u64 rl], .int .i64 er]) ∧ Below W.heap.size W w')) :
    Calls Try.prog 17 #[.agg #[.int .i64 (hi x), .int .u64 (lo x)], .int .i64 n] w fun e w' => e = .returned (.tuple #[.agg #[.int .i64 rh, .int .u64 rl], .int .i64 er]) ∧ Below w.heap.size w w' := by
  cases t2 : decide (n < 0)
  all_goals
    have t1 : decide (hi x < 0) = _ := ht.trans (congrArg not t2)
    simp only [Bool.not_false, Bool.not_true] at t1
    clear ht
    go_enter Try.func17, Try.ntmps17
    go_wp2_with fail
    refine (absolute_any x _ hx).mono ?_
    rintro e w1 ⟨rfl, hb1⟩
    obtain ⟨cc, cd, cf, cg⟩ := later2 hb1 (g := w.heap.size) (u := .int .i64 (hi x)) (v := .int .u64 (lo x)) (by simp [go_sem]) (by simp [go_sem]) (by simp [go_sem]) (by simp [go_sem])
    have cz : w.heap.size < w1.heap.size := World.block_lt_of_cell? _ _ cc
    obtain ⟨dc, dd, df, dg⟩ := later2 hb1 (g := w.heap.size + 1) (u := .int .i64 0) (v := .int .u64 0) (by simp [go_sem]) (by simp [go_sem]) (by simp [go_sem]) (by simp [go_sem])
    have dz : w.heap.size + 1 < w1.heap.size := World.block_lt_of_cell? _ _ dc
    have b1 : Below w.heap.size w w1 := bl2 hb1 (by repeat (first | assumption | exact Below.refl _ _ | refine Below.setCell ?_ (by first | exact Nat.le_refl _ | (simp; done) | (simp; omega) | omega) _ | refine Below.alloc ?_ (by first | exact Nat.le_refl _ | (simp; done) | (simp; omega) | omega) _ | refine Below.drew ?_ | exact Nat.le_refl _))
    have z1 := hb1.size
    try simp at z1
    clear hb1
    go_wp2_with fail
    refine (abs_any n _ hn).mono ?_
    rintro e w' ⟨rfl, rfl⟩
    go_wp2_with fail
    refine (times0_yes _ _ _ (ab_u128 hx) (ab_word hn) HF.out).mono ?_
    rintro e w2 ⟨rfl, hb2⟩
    obtain ⟨ec, ed, ef, eg⟩ := later2 hb2 (g := w.heap.size) (u := .int .i64 (hi x)) (v := .int .u64 (lo x)) (by simp [go_sem, *]) (by simp [go_sem, *]) (by simp [go_sem, *]) (by simp [go_sem, *])
    have ez : w.heap.size < w2.heap.size := World.block_lt_of_cell? _ _ ec
    obtain ⟨fc, fd, ff, fg⟩ := later2 hb2 (g := w.heap.size + 1) (u := .int .i64 0) (v := .int .u64 0) (by simp [go_sem, *]) (by simp [go_sem, *]) (by simp [go_sem, *]) (by simp [go_sem, *])
    have fz : w.heap.size + 1 < w2.heap.size := World.block_lt_of_cell? _ _ fc
    have b2 : Below w.heap.size w w2 := bl2 hb2 (by repeat (first | assumption | exact Below.refl _ _ | refine Below.setCell ?_ (by first | exact Nat.le_refl _ | (simp; done) | (simp; omega) | omega) _ | refine Below.alloc ?_ (by first | exact Nat.le_refl _ | (simp; done) | (simp; omega) | omega) _ | refine Below.drew ?_ | exact Nat.le_refl _))
    have z2 := hb2.size
    try simp at z2
    clear hb2
    clear cc cd cf cg dc dd df dg
    rw [HE.out, hi_0, lo_0]
    go_wp2_with fail
    have hb3 : Below (w2).heap.size (w2) ((w2).alloc (.cells #[.int .u64 0, .int .u64 0] 45)) := (Below.refl _ _).alloc (Nat.le_refl _) _
    have pc : ((w2).alloc (.cells #[.int .u64 0, .int .u64 0] 45)).cell? ⟨(w2).heap.size, 0, none⟩ = some (.int .u64 0) := by simp [go_sem]
    have pd : ((w2).alloc (.cells #[.int .u64 0, .int .u64 0] 45)).cell? ⟨(w2).heap.size, 1, none⟩ = some (.int .u64 0) := by simp [go_sem]
    have pf : ((w2).alloc (.cells #[.int .u64 0, .int .u64 0] 45)).frozen? ⟨(w2).heap.size, 0, none⟩ = false := by simp [go_sem]
    have pg : ((w2).alloc (.cells #[.int .u64 0, .int .u64 0] 45)).frozen? ⟨(w2).heap.size, 1, none⟩ = false := by simp [go_sem]
    have pz : (w2).heap.size < ((w2).alloc (.cells #[.int .u64 0, .int .u64 0] 45)).heap.size := by simp
    generalize (w2).alloc (.cells #[.int .u64 0, .int .u64 0] 45) = w3 at *
    obtain ⟨gc, gd, gf, gg⟩ := later2 hb3 (g := w.heap.size) (u := .int .i64 (hi x)) (v := .int .u64 (lo x)) (by simp [go_sem, *]) (by simp [go_sem, *]) (by simp [go_sem, *]) (by simp [go_sem, *])
    have gz : w.heap.size < w3.heap.size := World.block_lt_of_cell? _ _ gc
    obtain ⟨hc, hd, hf, hg⟩ := later2 hb3 (g := w.heap.size + 1) (u := .int .i64 0) (v := .int .u64 0) (by simp [go_sem, *]) (by simp [go_sem, *]) (by simp [go_sem, *]) (by simp [go_sem, *])
    have hz : w.heap.size + 1 < w3.heap.size := World.block_lt_of_cell? _ _ hc
    have b3 : Below w.heap.size w w3 := bl2 hb3 (by repeat (first | assumption | exact Below.refl _ _ | refine Below.setCell ?_ (by first | exact Nat.le_refl _ | (simp; done) | (simp; omega) | omega) _ | refine Below.alloc ?_ (by first | exact Nat.le_refl _ | (simp; done) | (simp; omega) | omega) _ | refine Below.drew ?_ | exact Nat.le_refl _))
    have z3 := hb3.size
    try simp at z3
    clear hb3
    clear ec ed ef eg fc fd ff fg
    refine Reg.region_tail 15 (by kernel_rfl) (by kernel_rfl) ?_
    simp only [List.take_succ_cons, List.take_zero, List.drop_succ_cons, List.drop_zero]
    iterate 15 (first | go_big_quiet_skip | (go_big_quiet_want; (first | (go_big_quiet_op; go_big_quiet_on) | (apply Reg.quiet_run; (intro W hW; have q1 := hW.cell gc; have q2 := hW.cell pc; have q3 := hW.cell pd; go_simp; (first | done | rfl | exact ⟨rfl, rfl⟩ )); (simp only [Act.put, List.setIfInBounds_toArray, List.set_cons_zero, List.set_cons_succ]; go_big_quiet_on)) | (apply Reg.quiet_call; (intro W hW; go_simp; (first | done | rfl | exact ⟨rfl, rfl⟩)); (intro W hW; (first | (go_at_call 34; exact Reg.cls_call hW (HS.out _)))); (simp only [Act.put, List.setIfInBounds_toArray, List.set_cons_zero, List.set_cons_succ]; go_big_quiet_on)))))
    refine wpQuiet_nil ?_
    intro w4 hW
    have rc := hW.cell hc
    have rd := hW.cell hd
    have rf := hW.frozen hc hf
    have rg := hW.frozen hd hg
    have b4 := bl2 hW b3
    clear hW
    go_wp2_with fail
    simp [bodyPost, results, Try.results17, go_sem, rc, rd]
    exact (by repeat (first | assumption | exact Below.refl _ _ | refine Below.setCell ?_ (by first | exact Nat.le_refl _ | (simp; done) | (simp; omega) | omega) _ | refine Below.alloc ?_ (by first | exact Nat.le_refl _ | (simp; done) | (simp; omega) | omega) _ | refine Below.drew ?_ | exact Nat.le_refl _))
theorem scale_w3 (x n m : Int) (rh rl er : Int) (w : World) (hx : I128 x) (hn : I64 n) (HF : Hid (ab x * ab n ≤ 340282366920938463463374607431768211455)) (HE : Hid (ab x * ab n = m)) (ht : decide (hi x < 0) = !decide (n < 0)) (hm : Hid (¬ (hi m = 0 ∧ lo m = 0))) (HS : Hid (∀ W : World, Calls Try.prog 34 #[.agg #[.int .u64 (hi m), .int .u64 (lo m)], .bool true] W fun e w' => e = .returned (.tuple #[.agg #[.int .i64 rh, .int .u64 rl], .int .i64 er]) ∧ Below W.heap.size W w')) :
    Calls Try.prog 17 #[.agg #[.int .i64 (hi x), .int .u64 (lo x)], .int .i64 n] w fun e w' => e = .returned (.tuple #[.agg #[.int .i64 rh, .int .u64 rl], .int .i64 er]) ∧ Below w.heap.size w w' := by
  cases t2 : decide (n < 0)
  all_goals
    have t1 : decide (hi x < 0) = _ := ht.trans (congrArg not t2)
    simp only [Bool.not_false, Bool.not_true] at t1
    clear ht
    go_enter Try.func17, Try.ntmps17
    go_wp2_with fail
    refine (absolute_any x _ hx).mono ?_
    rintro e w1 ⟨rfl, hb1⟩
    obtain ⟨cc, cd, cf, cg⟩ := later2 hb1 (g := w.heap.size) (u := .int .i64 (hi x)) (v := .int .u64 (lo x)) (by simp [go_sem]) (by simp [go_sem]) (by simp [go_sem]) (by simp [go_sem])
    have cz : w.heap.size < w1.heap.size := World.block_lt_of_cell? _ _ cc
    obtain ⟨dc, dd, df, dg⟩ := later2 hb1 (g := w.heap.size + 1) (u := .int .i64 0) (v := .int .u64 0) (by simp [go_sem]) (by simp [go_sem]) (by simp [go_sem]) (by simp [go_sem])
    have dz : w.heap.size + 1 < w1.heap.size := World.block_lt_of_cell? _ _ dc
    have b1 : Below w.heap.size w w1 := bl2 hb1 (by repeat (first | assumption | exact Below.refl _ _ | refine Below.setCell ?_ (by first | exact Nat.le_refl _ | (simp; done) | (simp; omega) | omega) _ | refine Below.alloc ?_ (by first | exact Nat.le_refl _ | (simp; done) | (simp; omega) | omega) _ | refine Below.drew ?_ | exact Nat.le_refl _))
    have z1 := hb1.size
    try simp at z1
    clear hb1
    go_wp2_with fail
    refine (abs_any n _ hn).mono ?_
    rintro e w' ⟨rfl, rfl⟩
    go_wp2_with fail
    refine (times0_yes _ _ _ (ab_u128 hx) (ab_word hn) HF.out).mono ?_
    rintro e w2 ⟨rfl, hb2⟩
    obtain ⟨ec, ed, ef, eg⟩ := later2 hb2 (g := w.heap.size) (u := .int .i64 (hi x)) (v := .int .u64 (lo x)) (by simp [go_sem, *]) (by simp [go_sem, *]) (by simp [go_sem, *]) (by simp [go_sem, *])
    have ez : w.heap.size < w2.heap.size := World.block_lt_of_cell? _ _ ec
    obtain ⟨fc, fd, ff, fg⟩ := later2 hb2 (g := w.heap.size + 1) (u := .int .i64 0) (v := .int .u64 0) (by simp [go_sem, *]) (by simp [go_sem, *]) (by simp [go_sem, *]) (by simp [go_sem, *])
    have fz : w.heap.size + 1 < w2.heap.size := World.block_lt_of_cell? _ _ fc
    have b2 : Below w.heap.size w w2 := bl2 hb2 (by repeat (first | assumption | exact Below.refl _ _ | refine Below.setCell ?_ (by first | exact Nat.le_refl _ | (simp; done) | (simp; omega) | omega) _ | refine Below.alloc ?_ (by first | exact Nat.le_refl _ | (simp; done) | (simp; omega) | omega) _ | refine Below.drew ?_ | exact Nat.le_refl _))
    have z2 := hb2.size
    try simp at z2
    clear hb2
    clear cc cd cf cg dc dd df dg
    rw [HE.out]
    go_wp2_with fail
    have hb3 : Below (w2).heap.size (w2) ((w2).alloc (.cells #[.int .u64 (hi m), .int .u64 (lo m)] 45)) := (Below.refl _ _).alloc (Nat.le_refl _) _
    have pc : ((w2).alloc (.cells #[.int .u64 (hi m), .int .u64 (lo m)] 45)).cell? ⟨(w2).heap.size, 0, none⟩ = some (.int .u64 (hi m)) := by simp [go_sem]
    have pd : ((w2).alloc (.cells #[.int .u64 (hi m), .int .u64 (lo m)] 45)).cell? ⟨(w2).heap.size, 1, none⟩ = some (.int .u64 (lo m)) := by simp [go_sem]
    have pf : ((w2).alloc (.cells #[.int .u64 (hi m), .int .u64 (lo m)] 45)).frozen? ⟨(w2).heap.size, 0, none⟩ = false := by simp [go_sem]
    have pg : ((w2).alloc (.cells #[.int .u64 (hi m), .int .u64 (lo m)] 45)).frozen? ⟨(w2).heap.size, 1, none⟩ = false := by simp [go_sem]
    have pz : (w2).heap.size < ((w2).alloc (.cells #[.int .u64 (hi m), .int .u64 (lo m)] 45)).heap.size := by simp
    generalize (w2).alloc (.cells #[.int .u64 (hi m), .int .u64 (lo m)] 45) = w3 at *
    obtain ⟨gc, gd, gf, gg⟩ := later2 hb3 (g := w.heap.size) (u := .int .i64 (hi x)) (v := .int .u64 (lo x)) (by simp [go_sem, *]) (by simp [go_sem, *]) (by simp [go_sem, *]) (by simp [go_sem, *])
    have gz : w.heap.size < w3.heap.size := World.block_lt_of_cell? _ _ gc
    obtain ⟨hc, hd, hf, hg⟩ := later2 hb3 (g := w.heap.size + 1) (u := .int .i64 0) (v := .int .u64 0) (by simp [go_sem, *]) (by simp [go_sem, *]) (by simp [go_sem, *]) (by simp [go_sem, *])
    have hz : w.heap.size + 1 < w3.heap.size := World.block_lt_of_cell? _ _ hc
    have b3 : Below w.heap.size w w3 := bl2 hb3 (by repeat (first | assumption | exact Below.refl _ _ | refine Below.setCell ?_ (by first | exact Nat.le_refl _ | (simp; done) | (simp; omega) | omega) _ | refine Below.alloc ?_ (by first | exact Nat.le_refl _ | (simp; done) | (simp; omega) | omega) _ | refine Below.drew ?_ | exact Nat.le_refl _))
    have z3 := hb3.size
    try simp at z3
    clear hb3
    clear ec ed ef eg fc fd ff fg
    refine Reg.region_tail 15 (by kernel_rfl) (by kernel_rfl) ?_
    simp only [List.take_succ_cons, List.take_zero, List.drop_succ_cons, List.drop_zero]
    iterate 15 (first | go_big_quiet_skip | (go_big_quiet_want; (first | (go_big_quiet_op; go_big_quiet_on) | (apply Reg.quiet_run; (intro W hW; have q1 := hW.cell gc; have q2 := hW.cell pc; have q3 := hW.cell pd; go_simp; (first | done | rfl | exact ⟨rfl, rfl⟩ | exact ne_zero_pick hm.out)); (simp only [Act.put, List.setIfInBounds_toArray, List.set_cons_zero, List.set_cons_succ]; go_big_quiet_on)) | (apply Reg.quiet_call; (intro W hW; go_simp; (first | done | rfl | exact ⟨rfl, rfl⟩)); (intro W hW; (first | (go_at_call 34; exact Reg.cls_call hW (HS.out _)))); (simp only [Act.put, List.setIfInBounds_toArray, List.set_cons_zero, List.set_cons_succ]; go_big_quiet_on)))))
    refine wpQuiet_nil ?_
    intro w4 hW
    have rc := hW.cell hc
    have rd := hW.cell hd
    have rf := hW.frozen hc hf
    have rg := hW.frozen hd hg
    have b4 := bl2 hW b3
    clear hW
    go_wp2_with fail
    simp [bodyPost, results, Try.results17, go_sem, rc, rd]
    exact (by repeat (first | assumption | exact Below.refl _ _ | refine Below.setCell ?_ (by first | exact Nat.le_refl _ | (simp; done) | (simp; omega) | omega) _ | refine Below.alloc ?_ (by first | exact Nat.le_refl _ | (simp; done) | (simp; omega) | omega) _ | refine Below.drew ?_ | exact Nat.le_refl _))
end Go.Proofs.Ytmdomlfkehhleaa.Wt
