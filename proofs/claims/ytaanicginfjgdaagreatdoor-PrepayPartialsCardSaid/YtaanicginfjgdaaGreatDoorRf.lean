/-
 The contract of the reference's Of.
 The contracts of the reference's Mul, minus, Less: said of numbers of two words.
 The contracts of the reference's Int, Cmp and Div.
 The contracts of both Divs at every argument, and a wide argument as a number.
 Plain mathematics of rounded quotients; no Go in sight.
-/
import Derived.Test.YtaanicginfjgdaaGreatDoorWb
import Derived.Test.YtaanicginfjgdaaGreatDoorRga
import Derived.Test.YtaanicginfjgdaaGreatDoorRb
import Derived.Test.YtaanicginfjgdaaGreatDoorRc
import Derived.Test.YtaanicginfjgdaaGreatDoorWe
namespace Go.Proofs.YtaanicginfjgdaaGreatDoor.Wt
open Go.RowKit
open Go.Proofs.YtaanicginfjgdaaGreatDoor
open Go.Proofs.YtaanicginfjgdaaGreatDoor.Wm

theorem of_neg {n : Int} (hn : I64 n) (h : n < 0) : IntKind.u64.wrap n = lo n ∧ hi n = -1 := by
 rw [IntKind.wrap_u64]; unfold I64 at hn; unfold lo hi; omega
theorem of_pos {n : Int} (hn : I64 n) (h : 0 ≤ n) : IntKind.u64.wrap n = lo n ∧ hi n = 0 := by
 rw [IntKind.wrap_u64]; unfold I64 at hn; unfold lo hi; omega
theorem rof_any (n : Int) (w : World) (hn : I64 n) : Calls Tryz.prog 90 #[.int .i64 n] w fun e w' => e = .returned (.agg #[.int .i64 (hi n), .int .u64 (lo n)]) ∧ Below w.heap.size w w' := by
 by_cases h : n < 0
 ·obtain ⟨h1, h2⟩ := of_neg hn h
  rw [← h1, h2]
  clear h1 h2
  go_enter Tryz.func90, Tryz.ntmps90
  go_wp2
  simp [bodyPost, results, Tryz.results90, go_sem]
  exact Bk.be
 ·obtain ⟨h1, h2⟩ := of_pos hn (by omega)
  rw [← h1, h2]
  clear h1 h2
  go_enter Tryz.func90, Tryz.ntmps90
  go_wp2
  simp [bodyPost, results, Tryz.results90, go_sem]
  exact Bk.be
end Go.Proofs.YtaanicginfjgdaaGreatDoor.Wt

namespace Go.Proofs.YtaanicginfjgdaaGreatDoor.Wt
open Go.RowKit
open Go.Proofs.YtaanicginfjgdaaGreatDoor
open Go.Proofs.YtaanicginfjgdaaGreatDoor.Wm

theorem rmul_any (a b : Int) (w : World) (ha : I64 a) (hb : I64 b) :
  Calls Tryz.prog 54 #[.int .i64 a, .int .i64 b] w fun e w' => e = .returned (.agg #[.int .i64 (hi (a * b)), .int .u64 (lo (a * b))]) ∧ Below w.heap.size w w' := by
 have hp := (mul_bd ha hb).1
 have ha128 : I128 a := by unfold I64 at ha; unfold I128; omega
 have HF := Lib.hid (fit_in hp)
 have HO := Lib.hid (ovf_in hp)
 go_enter Tryz.func54, Tryz.ntmps54
 go_wp2_with fail
 refine (rof_any a _ ha).mono ?_
 rintro e w1 ⟨rfl, hb1⟩
 obtain ⟨cc, cd, cf, cg⟩ := later2 hb1 (g := w.heap.size) (u := .int .i64 0) (v := .int .u64 0) (by simp [go_sem]) (by simp [go_sem]) (by simp [go_sem]) (by simp [go_sem])
 have cz : w.heap.size < w1.heap.size := World.block_lt_of_cell? _ _ cc
 have b1 : Below w.heap.size w w1 := bl2 hb1 Bk.be
 have z1 := hb1.size
 try simp at z1
 clear hb1
 go_wp2_with fail
 refine (rscale_any a b _ ha128 hb).mono ?_
 rw [HF.out, HO.out]
 rintro e w2 ⟨rfl, hb2⟩
 obtain ⟨dc, dd, df, dg⟩ := later2 hb2 (g := w.heap.size) (u := .int .i64 0) (v := .int .u64 0) (by simp [go_sem, *]) (by simp [go_sem, *]) (by simp [go_sem, *]) (by simp [go_sem, *])
 have dz : w.heap.size < w2.heap.size := World.block_lt_of_cell? _ _ dc
 have b2 : Below w.heap.size w w2 := bl2 hb2 Bk.be
 have z2 := hb2.size
 try simp at z2
 clear hb2
 clear cc cd cf cg
 go_wp2_with fail
 simp [bodyPost, results, Tryz.results54, go_sem, dc, dd, dz]
 exact Bk.be
end Go.Proofs.YtaanicginfjgdaaGreatDoor.Wt

namespace Go.Proofs.YtaanicginfjgdaaGreatDoor.Wt
open Go.RowKit
open Go.Proofs.YtaanicginfjgdaaGreatDoor
open Go.Proofs.YtaanicginfjgdaaGreatDoor.Wm

theorem iw (n : Int) : IntKind.i64.wrap n = wrap64 n := by rw [IntKind.wrap_i64]; unfold wrap64; omega
theorem rint_any (x : Int) (w : World) : Calls Tryz.prog 91 #[.agg #[.int .i64 (hi x), .int .u64 (lo x)]] w fun e w' => e = .returned (.tuple #[.int .i64 (ifit x), .bool (iin x)]) ∧ Below w.heap.size w w' := by
 by_cases h : I64 x
 ·obtain ⟨h1, h2, h3⟩ := int_yes h
  rw [h2, h3]
  have H1 := Lib.hid h1
  have hO := Lib.hid (fun W => rof_any x W h)
  clear h1 h2 h3
  go_enter Tryz.func91, Tryz.ntmps91
  go_wp2_with fail
  have hb1 : Below (w).heap.size (w) ((w).alloc (.cells #[.int .i64 (hi x), .int .u64 (lo x)] 89)) := (Below.refl _ _).alloc (Nat.le_refl _) _
  have cc : ((w).alloc (.cells #[.int .i64 (hi x), .int .u64 (lo x)] 89)).cell? ⟨(w).heap.size, 0, none⟩ = some (.int .i64 (hi x)) := by simp [go_sem]
  have cd : ((w).alloc (.cells #[.int .i64 (hi x), .int .u64 (lo x)] 89)).cell? ⟨(w).heap.size, 1, none⟩ = some (.int .u64 (lo x)) := by simp [go_sem]
  have cf : ((w).alloc (.cells #[.int .i64 (hi x), .int .u64 (lo x)] 89)).frozen? ⟨(w).heap.size, 0, none⟩ = false := by simp [go_sem]
  have cg : ((w).alloc (.cells #[.int .i64 (hi x), .int .u64 (lo x)] 89)).frozen? ⟨(w).heap.size, 1, none⟩ = false := by simp [go_sem]
  have cz : (w).heap.size < ((w).alloc (.cells #[.int .i64 (hi x), .int .u64 (lo x)] 89)).heap.size := by simp
  generalize (w).alloc (.cells #[.int .i64 (hi x), .int .u64 (lo x)] 89) = w1 at *
  refine Reg.region_quiet (by kernel_rfl) (by kernel_rfl) ?_
  iterate 6 (first | go_big_quiet_skip | (go_big_quiet_want; (first | (go_big_quiet_op; go_big_quiet_on) | (apply Reg.quiet_run; (intro W hW; have q1 := hW.cell cc; have q2 := hW.cell cd; go_simp; (first | done | rfl | exact ⟨rfl, rfl⟩ )); (simp only [Act.put, List.setIfInBounds_toArray, List.set_cons_zero, List.set_cons_succ]; go_big_quiet_on)) | (apply Reg.quiet_call; (intro W hW; go_simp; (first | done | rfl | exact ⟨rfl, rfl⟩)); (intro W hW; (first | (go_at_call 90; rw [iw, H1.out]; exact Reg.cls_call hW (hO.out _)))); (simp only [Act.put, List.setIfInBounds_toArray, List.set_cons_zero, List.set_cons_succ]; go_big_quiet_on)))))
  refine wpQuiet_nil ?_
  intro w2 hW
  have b2 := bl2 hW hb1
  have rc := hW.cell cc
  have rd := hW.cell cd
  clear hW
  go_wp2_with fail
  rw [H1.out]
  go_ret2
  exact ⟨rfl, b2⟩
 ·obtain ⟨h1, h2, h3, h4, h5⟩ := int_no h
  rw [h4, h5]
  have hO := Lib.hid (fun W => rof_any _ W h1)
  clear h1 h4 h5
  go_enter Tryz.func91, Tryz.ntmps91
  go_wp2_with fail
  have hg := Lib.hid (iw (lo x))
  generalize wrap64 (lo x) = n at *
  have hb1 : Below (w).heap.size (w) ((w).alloc (.cells #[.int .i64 (hi x), .int .u64 (lo x)] 89)) := (Below.refl _ _).alloc (Nat.le_refl _) _
  have cc : ((w).alloc (.cells #[.int .i64 (hi x), .int .u64 (lo x)] 89)).cell? ⟨(w).heap.size, 0, none⟩ = some (.int .i64 (hi x)) := by simp [go_sem]
  have cd : ((w).alloc (.cells #[.int .i64 (hi x), .int .u64 (lo x)] 89)).cell? ⟨(w).heap.size, 1, none⟩ = some (.int .u64 (lo x)) := by simp [go_sem]
  have cf : ((w).alloc (.cells #[.int .i64 (hi x), .int .u64 (lo x)] 89)).frozen? ⟨(w).heap.size, 0, none⟩ = false := by simp [go_sem]
  have cg : ((w).alloc (.cells #[.int .i64 (hi x), .int .u64 (lo x)] 89)).frozen? ⟨(w).heap.size, 1, none⟩ = false := by simp [go_sem]
  have cz : (w).heap.size < ((w).alloc (.cells #[.int .i64 (hi x), .int .u64 (lo x)] 89)).heap.size := by simp
  generalize (w).alloc (.cells #[.int .i64 (hi x), .int .u64 (lo x)] 89) = w1 at *
  refine Reg.region_quiet (by kernel_rfl) (by kernel_rfl) ?_
  iterate 6 (first | go_big_quiet_skip | (go_big_quiet_want; (first | (go_big_quiet_op; go_big_quiet_on) | (apply Reg.quiet_run; (intro W hW; have q1 := hW.cell cc; have q2 := hW.cell cd; go_simp; (first | done | rfl | exact ⟨rfl, rfl⟩ )); (simp only [Act.put, List.setIfInBounds_toArray, List.set_cons_zero, List.set_cons_succ]; go_big_quiet_on)) | (apply Reg.quiet_call; (intro W hW; go_simp; (first | done | rfl | exact ⟨rfl, rfl⟩)); (intro W hW; (first | (go_at_call 90; rw [hg.out]; exact Reg.cls_call hW (hO.out _)))); (simp only [Act.put, List.setIfInBounds_toArray, List.set_cons_zero, List.set_cons_succ]; go_big_quiet_on)))))
  refine wpQuiet_nil ?_
  intro w2 hW
  have b2 := bl2 hW hb1
  clear hW
  go_wp2_with fail
  go_ret2
  exact ⟨rfl, b2⟩

/-! ### Div -/
theorem rdiv_zero (x n : Int) (w : World) (hn : n < 1) : Calls Tryz.prog 87 #[.agg #[.int .i64 (hi x), .int .u64 (lo x)], .int .i64 n] w fun e w' => e = .returned (.tuple #[.agg #[.int .i64 0, .int .u64 0], .int .i64 0, .int .i64 1]) ∧ Below w.heap.size w w' := by
 go_enter Tryz.func87, Tryz.ntmps87
 go_wp2_with fail
 simp [bodyPost, results, Tryz.results87, go_sem]
 exact Bk.be
theorem rdiv_pos (x n : Int) (w : World) (hx : I128 x) (hn : I64 n) (h1 : 1 ≤ n) (h0 : 0 ≤ x) : Calls Tryz.prog 87 #[.agg #[.int .i64 (hi x), .int .u64 (lo x)], .int .i64 n] w fun e w' => e = .returned (.tuple #[.agg #[.int .i64 (hi (x / n)), .int .u64 (lo (x / n))], .int .i64 (x % n), .int .i64 0]) ∧ Below w.heap.size w w' := by
 have hu : U128 x := by have := ab_u128 hx; rwa [ab_pos h0] at this
 have hA := Lib.hid (fun W => rsplit_any x W hx)
 rw [ab_pos h0, decide_eq_false (show ¬ x < 0 by omega)] at hA
 unfold I64 at hn
 have hD := Lib.hid (fun W => rquot_any x n W hu (by omega) (by omega))
 have hq := quo_bd hx (show 0 < n by omega)
 have q0 := Int.ediv_nonneg h0 (show 0 ≤ n by omega)
 have hJ := Lib.hid (fun W => join_of (x / n) false W hq (.inl (decide_eq_false (by omega)).symm))
 rw [ab_pos q0] at hJ
 have r0 := Int.emod_nonneg x (show n ≠ 0 by omega)
 have r1 := Int.emod_lt_of_pos x (show 0 < n by omega)
 generalize x / n = q at *
 generalize x % n = r at *
 clear hx h0 hu q0 hq
 go_enter Tryz.func87, Tryz.ntmps87
 go_wp2_with fail
 refine (hA.out _).mono ?_
 rintro e w1 ⟨rfl, hb1⟩
 obtain ⟨dc, dd, df, dg⟩ := later2 hb1 (g := w.heap.size + 1) (u := .int .i64 0) (v := .int .u64 0) (by simp [go_sem]) (by simp [go_sem]) (by simp [go_sem]) (by simp [go_sem])
 have dz : w.heap.size + 1 < w1.heap.size := World.block_lt_of_cell? _ _ dc
 have b1 : Below w.heap.size w w1 := bl2 hb1 Bk.be
 have z1 := hb1.size
 try simp at z1
 clear hb1
 go_wp2_with fail
 refine (hD.out _).mono ?_
 rintro e w2 ⟨rfl, hb2⟩
 obtain ⟨fc, fd, ff, fg⟩ := later2 hb2 (g := w.heap.size + 1) (u := .int .i64 0) (v := .int .u64 0) (by simp [go_sem, *]) (by simp [go_sem, *]) (by simp [go_sem, *]) (by simp [go_sem, *])
 have fz : w.heap.size + 1 < w2.heap.size := World.block_lt_of_cell? _ _ fc
 have b2 : Below w.heap.size w w2 := bl2 hb2 Bk.be
 have z2 := hb2.size
 try simp at z2
 clear hb2
 clear dc dd df dg
 go_wp2_with fail
 refine (hJ.out _).mono ?_
 rintro e w9 ⟨rfl, hb9⟩
 obtain ⟨jc, jd, jf, jg⟩ := later2 hb9 (g := w.heap.size + 1) (u := .int .i64 0) (v := .int .u64 0) (by simp [go_sem, *]) (by simp [go_sem, *]) (by simp [go_sem, *]) (by simp [go_sem, *])
 have jz : w.heap.size + 1 < w9.heap.size := World.block_lt_of_cell? _ _ jc
 have b9 : Below w.heap.size w w9 := bl2 hb9 Bk.be
 have z9 := hb9.size
 try simp at z9
 clear hb9
 go_wp2_with fail
 simp [bodyPost, results, Tryz.results87, go_sem, jc, jd, jz]
 exact Bk.be
theorem rdiv_neg0 (x n : Int) (w : World) (hx : I128 x) (hn : I64 n) (h1 : 1 ≤ n) (h0 : x < 0) (hr : (-x) % n = 0) : Calls Tryz.prog 87 #[.agg #[.int .i64 (hi x), .int .u64 (lo x)], .int .i64 n] w fun e w' => e = .returned (.tuple #[.agg #[.int .i64 (hi (x / n)), .int .u64 (lo (x / n))], .int .i64 (x % n), .int .i64 0]) ∧ Below w.heap.size w w' := by
 have hu : U128 (-x) := by have := ab_u128 hx; rwa [ab_neg h0] at this
 have hA := Lib.hid (fun W => rsplit_any x W hx)
 rw [ab_neg h0, decide_eq_true h0] at hA
 unfold I64 at hn
 have hD := Lib.hid (fun W => rquot_any (-x) n W hu (by omega) (by omega))
 have hq := quo_bd hx (show 0 < n by omega)
 obtain ⟨e1, e2⟩ := quo_neg (show 0 < n by omega) hr
 have qneg : x / n < 0 := Int.ediv_neg_of_neg_of_pos h0 (by omega)
 have hJ := Lib.hid (fun W => join_of (x / n) true W hq (.inl (decide_eq_true qneg).symm))
 rw [ab_neg qneg, e1, Int.neg_neg] at hJ
 rw [e2, e1]
 rw [hr] at hD
 generalize (-x) / n = m at *
 clear hx h0 hu hr hq e1 e2 qneg
 go_enter Tryz.func87, Tryz.ntmps87
 go_wp2_with fail
 refine (hA.out _).mono ?_
 rintro e w1 ⟨rfl, hb1⟩
 obtain ⟨dc, dd, df, dg⟩ := later2 hb1 (g := w.heap.size + 1) (u := .int .i64 0) (v := .int .u64 0) (by simp [go_sem]) (by simp [go_sem]) (by simp [go_sem]) (by simp [go_sem])
 have dz : w.heap.size + 1 < w1.heap.size := World.block_lt_of_cell? _ _ dc
 have b1 : Below w.heap.size w w1 := bl2 hb1 Bk.be
 have z1 := hb1.size
 try simp at z1
 clear hb1
 go_wp2_with fail
 refine (hD.out _).mono ?_
 rintro e w2 ⟨rfl, hb2⟩
 obtain ⟨fc, fd, ff, fg⟩ := later2 hb2 (g := w.heap.size + 1) (u := .int .i64 0) (v := .int .u64 0) (by simp [go_sem, *]) (by simp [go_sem, *]) (by simp [go_sem, *]) (by simp [go_sem, *])
 have fz : w.heap.size + 1 < w2.heap.size := World.block_lt_of_cell? _ _ fc
 have b2 : Below w.heap.size w w2 := bl2 hb2 Bk.be
 have z2 := hb2.size
 try simp at z2
 clear hb2
 clear dc dd df dg
 go_wp2_with fail
 refine (hJ.out _).mono ?_
 rintro e w9 ⟨rfl, hb9⟩
 obtain ⟨jc, jd, jf, jg⟩ := later2 hb9 (g := w.heap.size + 1) (u := .int .i64 0) (v := .int .u64 0) (by simp [go_sem, *]) (by simp [go_sem, *]) (by simp [go_sem, *]) (by simp [go_sem, *])
 have jz : w.heap.size + 1 < w9.heap.size := World.block_lt_of_cell? _ _ jc
 have b9 : Below w.heap.size w w9 := bl2 hb9 Bk.be
 have z9 := hb9.size
 try simp at z9
 clear hb9
 go_wp2_with fail
 simp [bodyPost, results, Tryz.results87, go_sem, jc, jd, jz]
 exact Bk.be
theorem rdiv_neg1 (x n : Int) (w : World) (hx : I128 x) (hn : I64 n) (h1 : 1 ≤ n) (h0 : x < 0) (hr : 0 < (-x) % n) : Calls Tryz.prog 87 #[.agg #[.int .i64 (hi x), .int .u64 (lo x)], .int .i64 n] w fun e w' => e = .returned (.tuple #[.agg #[.int .i64 (hi (x / n)), .int .u64 (lo (x / n))], .int .i64 (x % n), .int .i64 0]) ∧ Below w.heap.size w w' := by
 have hu : U128 (-x) := by have := ab_u128 hx; rwa [ab_neg h0] at this
 have hA := Lib.hid (fun W => rsplit_any x W hx)
 rw [ab_neg h0, decide_eq_true h0] at hA
 unfold I64 at hn
 have hD := Lib.hid (fun W => rquot_any (-x) n W hu (by omega) (by omega))
 have hq := quo_bd hx (show 0 < n by omega)
 obtain ⟨e1, e2⟩ := quo_neg2 (show 0 < n by omega) hr
 have qneg : x / n < 0 := Int.ediv_neg_of_neg_of_pos h0 (by omega)
 have hJ := Lib.hid (fun W => join_of (x / n) true W hq (.inl (decide_eq_true qneg).symm))
 rw [ab_neg qneg, e1, Int.neg_neg] at hJ
 rw [e2, e1]
 have q0 := Int.ediv_nonneg (show 0 ≤ -x by omega) (show 0 ≤ n by omega)
 have r1 := Int.emod_lt_of_pos (-x) (show 0 < n by omega)
 have hmu : (-x) / n ≤ 170141183460469231731687303715884105728 := by
  have := Int.ediv_le_self n (show 0 ≤ -x by omega); unfold I128 at hx; omega
 have hT := Lib.hid (fun W => rplus_yes ((-x) / n) 1 W ⟨q0, by omega⟩ (by unfold U128; omega) (by omega))
 rw [show hi 1 = 0 from rfl, show lo 1 = 1 from rfl] at hT
 generalize (-x) / n + 1 = m' at *
 generalize (-x) / n = m at *
 generalize (-x) % n = r at *
 clear hx h0 hu hq e1 e2 qneg hmu q0
 go_enter Tryz.func87, Tryz.ntmps87
 go_wp2_with fail
 refine (hA.out _).mono ?_
 rintro e w1 ⟨rfl, hb1⟩
 obtain ⟨dc, dd, df, dg⟩ := later2 hb1 (g := w.heap.size + 1) (u := .int .i64 0) (v := .int .u64 0) (by simp [go_sem]) (by simp [go_sem]) (by simp [go_sem]) (by simp [go_sem])
 have dz : w.heap.size + 1 < w1.heap.size := World.block_lt_of_cell? _ _ dc
 have b1 : Below w.heap.size w w1 := bl2 hb1 Bk.be
 have z1 := hb1.size
 try simp at z1
 clear hb1
 go_wp2_with fail
 refine (hD.out _).mono ?_
 rintro e w2 ⟨rfl, hb2⟩
 obtain ⟨fc, fd, ff, fg⟩ := later2 hb2 (g := w.heap.size + 1) (u := .int .i64 0) (v := .int .u64 0) (by simp [go_sem, *]) (by simp [go_sem, *]) (by simp [go_sem, *]) (by simp [go_sem, *])
 have fz : w.heap.size + 1 < w2.heap.size := World.block_lt_of_cell? _ _ fc
 have b2 : Below w.heap.size w w2 := bl2 hb2 Bk.be
 have z2 := hb2.size
 try simp at z2
 clear hb2
 clear dc dd df dg
 go_wp2_with fail
 refine (hT.out _).mono ?_
 rintro e w4 ⟨rfl, hb4⟩
 obtain ⟨gc, gd, gf, gg⟩ := later2 hb4 (g := w.heap.size + 1) (u := .int .i64 0) (v := .int .u64 0) (by simp [go_sem, *]) (by simp [go_sem, *]) (by simp [go_sem, *]) (by simp [go_sem, *])
 have gz : w.heap.size + 1 < w4.heap.size := World.block_lt_of_cell? _ _ gc
 obtain ⟨lc, ld, lf, lg⟩ := later2 hb4 (g := w2.heap.size) (u := .int .u64 (hi m)) (v := .int .u64 (lo m)) (by simp [go_sem, *]) (by simp [go_sem, *]) (by simp [go_sem, *]) (by simp [go_sem, *])
 have lz : w2.heap.size < w4.heap.size := World.block_lt_of_cell? _ _ lc
 have b4 : Below w.heap.size w w4 := bl2 hb4 Bk.be
 have z4 := hb4.size
 try simp at z4
 clear hb4
 clear fc fd ff fg
 go_wp2_with fail
 refine (hJ.out _).mono ?_
 rintro e w9 ⟨rfl, hb9⟩
 obtain ⟨jc, jd, jf, jg⟩ := later2 hb9 (g := w.heap.size + 1) (u := .int .i64 0) (v := .int .u64 0) (by simp [go_sem, *]) (by simp [go_sem, *]) (by simp [go_sem, *]) (by simp [go_sem, *])
 have jz : w.heap.size + 1 < w9.heap.size := World.block_lt_of_cell? _ _ jc
 have b9 : Below w.heap.size w w9 := bl2 hb9 Bk.be
 have z9 := hb9.size
 try simp at z9
 clear hb9
 go_wp2_with fail
 simp [bodyPost, results, Tryz.results87, go_sem, jc, jd, jz]
 exact Bk.be
end Go.Proofs.YtaanicginfjgdaaGreatDoor.Wt

namespace Go.Proofs.YtaanicginfjgdaaGreatDoor.Wt
open Go.RowKit
open Go.Proofs.YtaanicginfjgdaaGreatDoor
open Go.Proofs.YtaanicginfjgdaaGreatDoor.Wm

def dq (x n : Int) : Int := if n < 1 then 0 else x / n
def dr (x n : Int) : Int := if n < 1 then 0 else x % n
def de (n : Int) : Int := if n < 1 then 1 else 0
theorem div_any (x n : Int) (w : World) (hx : I128 x) (hn : I64 n) : Calls Tryz.prog 78 #[.agg #[.int .i64 (hi x), .int .u64 (lo x)], .int .i64 n] w fun e w' => e = .returned (.tuple #[.agg #[.int .i64 (hi (dq x n)), .int .u64 (lo (dq x n))], .int .i64 (dr x n), .int .i64 (de n)]) ∧ Below w.heap.size w w' := by
 by_cases h : n < 1
 ·rw [show dq x n = 0 from if_pos h, show dr x n = 0 from if_pos h, show de n = 1 from if_pos h, hi_0, lo_0]
  exact div_zero x n w h
 ·rw [show dq x n = x / n from if_neg h, show dr x n = x % n from if_neg h, show de n = 0 from if_neg h]
  by_cases h0 : 0 ≤ x
  ·exact div_pos x n w hx hn (by omega) h0
  ·have r := Int.emod_nonneg (-x) (show n ≠ 0 by omega)
   by_cases hr : (-x) % n = 0
   ·exact div_neg0 x n w hx hn (by omega) (by omega) hr
   ·exact div_neg1 x n w hx hn (by omega) (by omega) (by omega)
theorem rdiv_any (x n : Int) (w : World) (hx : I128 x) (hn : I64 n) : Calls Tryz.prog 87 #[.agg #[.int .i64 (hi x), .int .u64 (lo x)], .int .i64 n] w fun e w' => e = .returned (.tuple #[.agg #[.int .i64 (hi (dq x n)), .int .u64 (lo (dq x n))], .int .i64 (dr x n), .int .i64 (de n)]) ∧ Below w.heap.size w w' := by
 by_cases h : n < 1
 ·rw [show dq x n = 0 from if_pos h, show dr x n = 0 from if_pos h, show de n = 1 from if_pos h, hi_0, lo_0]
  exact rdiv_zero x n w h
 ·rw [show dq x n = x / n from if_neg h, show dr x n = x % n from if_neg h, show de n = 0 from if_neg h]
  by_cases h0 : 0 ≤ x
  ·exact rdiv_pos x n w hx hn (by omega) h0
  ·have r := Int.emod_nonneg (-x) (show n ≠ 0 by omega)
   by_cases hr : (-x) % n = 0
   ·exact rdiv_neg0 x n w hx hn (by omega) (by omega) hr
   ·exact rdiv_neg1 x n w hx hn (by omega) (by omega) (by omega)
end Go.Proofs.YtaanicginfjgdaaGreatDoor.Wt

namespace Go.Proofs.YtaanicginfjgdaaGreatDoor.Rd
open Go.Proofs.YtaanicginfjgdaaGreatDoor.Wm
open Go.Proofs.YtaanicginfjgdaaGreatDoor.Wt

def upB (neg odd : Bool) (r n mode : Int) : Bool := if mode = 1 then neg else if mode = 2 then !neg else if mode = 3 then false else if mode = 4 then true else if r = n - r then (if mode = 5 then !neg else odd) else decide (n - r < r)
def moreI (neg odd : Bool) (r n mode : Int) : Int := if upB neg odd r n mode then 1 else 0
def rd (x n mode : Int) : Int := x / n + if 0 < x % n then moreI (decide (x < 0)) (decide (x / n % 2 = 1)) (x % n) n mode else 0
def rok (n mode : Int) : Prop := 1 ≤ n ∧ 1 ≤ mode ∧ mode ≤ 6
instance (n mode : Int) : Decidable (rok n mode) := by unfold rok; exact inferInstance
def rdV (x n mode : Int) : Int := if rok n mode then ifit (rd x n mode) else 0
def rdE (x n mode : Int) : Int := if rok n mode then (if iin (rd x n mode) then 0 else 6) else 1
theorem upB_1 {neg odd : Bool} {r n mode : Int} (hm : 5 ≤ mode) (h : n - r < r) : upB neg odd r n mode = true := by
 unfold upB
 rw [if_neg (by omega), if_neg (by omega), if_neg (by omega), if_neg (by omega), if_neg (by omega), decide_eq_true h]
theorem upB_0 {neg odd : Bool} {r n mode : Int} (hm : 5 ≤ mode) (h : r < n - r) : upB neg odd r n mode = false := by
 unfold upB
 rw [if_neg (by omega), if_neg (by omega), if_neg (by omega), if_neg (by omega), if_neg (by omega), decide_eq_false (by omega)]
theorem upB_5 {neg odd : Bool} {r n : Int} (h : r = n - r) : upB neg odd r n 5 = !neg := by
 unfold upB
 rw [if_neg (by omega), if_neg (by omega), if_neg (by omega), if_neg (by omega), if_pos h, if_pos rfl]
theorem upB_6 {neg odd : Bool} {r n : Int} (h : r = n - r) : upB neg odd r n 6 = odd := by
 unfold upB
 rw [if_neg (by omega), if_neg (by omega), if_neg (by omega), if_neg (by omega), if_pos h, if_neg (by omega)]
theorem upB_ne {neg odd : Bool} {r n mode : Int} (hm : 5 ≤ mode) (h : ¬ r = n - r) : upB neg odd r n mode = decide (n - r < r) := by
 unfold upB
 rw [if_neg (by omega), if_neg (by omega), if_neg (by omega), if_neg (by omega), if_neg h]
theorem moreI_bd (neg odd : Bool) (r n mode : Int) : 0 ≤ moreI neg odd r n mode ∧ moreI neg odd r n mode ≤ 1 := by unfold moreI; split <;> omega
theorem rd_bd {x n mode : Int} (hx : I128 x) (hn : 1 ≤ n) : I128 (rd x n mode) := by
 unfold rd
 split
 ·rename_i h
  have h1 := quo_bd hx (show 0 < n by omega)
  have h2 := moreI_bd (decide (x < 0)) (decide (x / n % 2 = 1)) (x % n) n mode
  have h3 := Int.mul_ediv_add_emod x n
  have h4 := Int.emod_lt_of_pos x (show 0 < n by omega)
  unfold I128 at *
  have h5 : x / n ≤ 85070591730234615865843651857942052864 := by
   rcases Classical.em (x / n ≤ 85070591730234615865843651857942052864) with h5 | h5
   ·exact h5
   ·have : 2 * (x / n) ≤ n * (x / n) := Int.mul_le_mul_of_nonneg_right (by omega) (by omega)
    omega
  omega
 ·rw [Int.add_zero]; exact quo_bd hx (by omega)
theorem rd_exact {x n mode : Int} (h : ¬ 0 < x % n) : rd x n mode = x / n := by unfold rd; rw [if_neg h, Int.add_zero]
theorem rd_step {x n mode : Int} (h : 0 < x % n) : rd x n mode = x / n + moreI (decide (x < 0)) (decide (x / n % 2 = 1)) (x % n) n mode := by unfold rd; rw [if_pos h]
theorem quo_sign {x n : Int} (hn : 1 ≤ n) : (x / n < 0) = (x < 0) := by
 apply propext
 constructor
 ·intro h
  rcases Classical.em (x < 0) with h' | h'
  ·exact h'
  ·have := Int.ediv_nonneg (show 0 ≤ x by omega) (show 0 ≤ n by omega); omega
 ·exact fun h => Int.ediv_neg_of_neg_of_pos h (by omega)
theorem lo_mod (x : Int) : lo x % 2 = x % 2 := by unfold lo; omega
end Go.Proofs.YtaanicginfjgdaaGreatDoor.Rd
