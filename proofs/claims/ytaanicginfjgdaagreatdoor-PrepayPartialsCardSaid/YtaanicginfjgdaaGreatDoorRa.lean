/-
 The contracts of the reference's small functions on magnitudes of two words: size, plus, Split, Join.
 The contract of the reference's Join: the number with a sign and a magnitude, or false.
-/
import Derived.Test.YtaanicginfjgdaaGreatDoorWb
namespace Go.Proofs.YtaanicginfjgdaaGreatDoor.Wt
open Go.RowKit
open Go.Proofs.YtaanicginfjgdaaGreatDoor
open Go.Proofs.YtaanicginfjgdaaGreatDoor.Wm

section
attribute [local go_sem] u64_signed i64_signed xor_u64 xor_i64
theorem rsize_any (n : Int) (w : World) (hn : I64 n) : Calls Tryz.prog 126 #[.int .i64 n] w fun e w' => e = .returned (.int .u64 (ab n)) ∧ w = w' := by
 by_cases h : n < 0
 ·have e1 : IntKind.u64.wrap (nt (IntKind.u64.wrap n) + 1) = ab n := by rw [ab_neg h, IntKind.wrap_u64, IntKind.wrap_u64]; unfold I64 at hn; unfold nt; omega
  have H := Lib.hid e1
  clear e1
  go_enter Tryz.func126, Tryz.ntmps126
  go_wp2
  go_ret
  exact ⟨ret_u H.out, rfl⟩
 ·have e1 : IntKind.u64.wrap n = ab n := by rw [ab_pos (by omega), IntKind.wrap_u64]; unfold I64 at hn; omega
  have H := Lib.hid e1
  clear e1
  go_enter Tryz.func126, Tryz.ntmps126
  go_wp2
  go_ret
  exact ⟨ret_u H.out, rfl⟩
end

/-! ### plus -/
theorem plus_c0 {ah al bh bl : Int} (h1 : U64 ah) (h2 : U64 al) (h3 : U64 bh) (h4 : U64 bl) (hc : al + bl ≤ 18446744073709551615) (ho : ah + bh ≤ 18446744073709551615) (w : World) :
  Calls Tryz.prog 122 #[.agg #[.int .u64 ah, .int .u64 al], .agg #[.int .u64 bh, .int .u64 bl]] w fun e w' => e = .returned (.tuple #[.agg #[.int .u64 (ah + bh), .int .u64 (al + bl)], .bool true]) ∧ Below w.heap.size w w' := by
 obtain ⟨a1, a2⟩ := h1; obtain ⟨b1, b2⟩ := h2; obtain ⟨c1, c2⟩ := h3; obtain ⟨d1, d2⟩ := h4
 go_enter Tryz.func122, Tryz.ntmps122
 go_wp2
 simp [bodyPost, results, Tryz.results122, go_sem]
 exact ⟨by omega, Bk.be⟩
theorem plus_c1 {ah al bh bl : Int} (h1 : U64 ah) (h2 : U64 al) (h3 : U64 bh) (h4 : U64 bl) (hc : 18446744073709551615 < al + bl) (ho : ah + bh + 1 ≤ 18446744073709551615) (w : World) :
  Calls Tryz.prog 122 #[.agg #[.int .u64 ah, .int .u64 al], .agg #[.int .u64 bh, .int .u64 bl]] w fun e w' => e = .returned (.tuple #[.agg #[.int .u64 (ah + bh + 1), .int .u64 (IntKind.u64.wrap (al + bl))], .bool true]) ∧ Below w.heap.size w w' := by
 have hlt : IntKind.u64.wrap (al + bl) < al := by rw [IntKind.wrap_u64]; unfold U64 at h2 h4; omega
 obtain ⟨a1, a2⟩ := h1; obtain ⟨b1, b2⟩ := h2; obtain ⟨c1, c2⟩ := h3; obtain ⟨d1, d2⟩ := h4
 go_enter Tryz.func122, Tryz.ntmps122
 go_wp2
 simp [bodyPost, results, Tryz.results122, go_sem]
 exact ⟨by omega, Bk.be⟩
def NoFit2 (w : World) (e : Ending) (w' : World) : Prop := ∃ a b : Int, e = .returned (.tuple #[.agg #[.int .u64 a, .int .u64 b], .bool false]) ∧ U64 a ∧ U64 b ∧ Below w.heap.size w w'
theorem wrap_bd (x : Int) : U64 (IntKind.u64.wrap x) := by rw [IntKind.wrap_u64]; unfold U64; omega
theorem plus_over {ah al bh bl : Int} (h1 : U64 ah) (h2 : U64 al) (h3 : U64 bh) (h4 : U64 bl) (ho : 18446744073709551615 < ah + bh ∨ (18446744073709551615 < al + bl ∧ 18446744073709551615 < ah + bh + 1)) (w : World) :
  Calls Tryz.prog 122 #[.agg #[.int .u64 ah, .int .u64 al], .agg #[.int .u64 bh, .int .u64 bl]] w (NoFit2 w) := by
 have wl := wrap_bd (al + bl)
 by_cases hh : 18446744073709551615 < ah + bh
 ·have hlt : IntKind.u64.wrap (ah + bh) < ah := by rw [IntKind.wrap_u64]; unfold U64 at h1 h3; omega
  have hu : ∀ c : Int, IntKind.u64.wrap (IntKind.u64.wrap (ah + bh) + c) = IntKind.u64.wrap (IntKind.u64.wrap (ah + bh) + c) := fun _ => rfl
  obtain ⟨a1, a2⟩ := h1; obtain ⟨b1, b2⟩ := h2; obtain ⟨c1, c2⟩ := h3; obtain ⟨d1, d2⟩ := h4
  clear ho hu
  by_cases hc : al + bl ≤ 18446744073709551615
  ·have wh := wrap_bd (ah + bh)
   obtain ⟨w1, w2⟩ := wh
   go_enter Tryz.func122, Tryz.ntmps122
   go_wp2
   simp [bodyPost, results, Tryz.results122, go_sem]
   exact ⟨_, _, rfl, ⟨w1, w2⟩, ⟨by omega, by omega⟩, Bk.be⟩
  ·have hlt2 : IntKind.u64.wrap (al + bl) < al := by rw [IntKind.wrap_u64]; omega
   have hs : IntKind.u64.wrap (ah + bh) + 1 ≤ 18446744073709551615 := by rw [IntKind.wrap_u64]; omega
   have wh := wrap_bd (ah + bh)
   obtain ⟨w1, w2⟩ := wh
   obtain ⟨x1, x2⟩ := wl
   clear hc
   go_enter Tryz.func122, Tryz.ntmps122
   go_wp2
   simp [bodyPost, results, Tryz.results122, go_sem]
   exact ⟨_, _, rfl, ⟨by omega, by omega⟩, ⟨x1, x2⟩, Bk.be⟩
 ·have hc : 18446744073709551615 < al + bl ∧ ah + bh = 18446744073709551615 := by omega
  obtain ⟨hc, he⟩ := hc
  have hlt2 : IntKind.u64.wrap (al + bl) < al := by rw [IntKind.wrap_u64]; unfold U64 at h2 h4; omega
  have hz : IntKind.u64.wrap (ah + bh + 1) < 1 := by rw [IntKind.wrap_u64]; omega
  have hz0 : 0 ≤ IntKind.u64.wrap (ah + bh + 1) := by rw [IntKind.wrap_u64]; omega
  have hle : ah + bh ≤ 18446744073709551615 := by omega
  obtain ⟨a1, a2⟩ := h1; obtain ⟨b1, b2⟩ := h2; obtain ⟨c1, c2⟩ := h3; obtain ⟨d1, d2⟩ := h4
  obtain ⟨x1, x2⟩ := wl
  clear ho hh he
  go_enter Tryz.func122, Tryz.ntmps122
  go_wp2
  simp [bodyPost, results, Tryz.results122, go_sem]
  exact ⟨_, _, by rw [decide_eq_false (by omega)], ⟨hz0, by omega⟩, ⟨x1, x2⟩, Bk.be⟩

theorem rplus_yes (a b : Int) (w : World) (ha : U128 a) (hb : U128 b) (h : a + b ≤ 340282366920938463463374607431768211455) :
  Calls Tryz.prog 122 #[.agg #[.int .u64 (hi a), .int .u64 (lo a)], .agg #[.int .u64 (hi b), .int .u64 (lo b)]] w fun e w' => e = .returned (.tuple #[.agg #[.int .u64 (hi (a + b)), .int .u64 (lo (a + b))], .bool true]) ∧ Below w.heap.size w w' := by
 have e1 := hi_lo a
 have e2 := hi_lo b
 have l1 := lo_bd a
 have l2 := lo_bd b
 by_cases hc : lo a + lo b ≤ 18446744073709551615
 ·have r1 : hi (a + b) = hi a + hi b := by unfold U64 at l1 l2; unfold hi lo at *; omega
  have r2 : lo (a + b) = lo a + lo b := by unfold U64 at l1 l2; unfold hi lo at *; omega
  rw [r1, r2]
  exact plus_c0 (hi_bdu ha) l1 (hi_bdu hb) l2 hc (by unfold U64 at l1 l2; omega) w
 ·have r1 : hi (a + b) = hi a + hi b + 1 := by unfold U64 at l1 l2; unfold hi lo at *; omega
  have r2 : lo (a + b) = IntKind.u64.wrap (lo a + lo b) := by rw [IntKind.wrap_u64]; unfold U64 at l1 l2; unfold hi lo at *; omega
  rw [r1, r2]
  exact plus_c1 (hi_bdu ha) l1 (hi_bdu hb) l2 (by omega) (by unfold U64 at l1 l2; omega) w
theorem rplus_no (a b : Int) (w : World) (ha : U128 a) (hb : U128 b) (h : 340282366920938463463374607431768211455 < a + b) :
  Calls Tryz.prog 122 #[.agg #[.int .u64 (hi a), .int .u64 (lo a)], .agg #[.int .u64 (hi b), .int .u64 (lo b)]] w (NoFit2 w) := by
 have e1 := hi_lo a
 have e2 := hi_lo b
 have l1 := lo_bd a
 have l2 := lo_bd b
 have h1 := hi_bdu ha
 have h2 := hi_bdu hb
 exact plus_over h1 l1 h2 l2 (by unfold U64 at *; omega) w
def SomeMag (w : World) (e : Ending) (w' : World) : Prop := ∃ (o : Int) (f : Bool), U128 o ∧ e = .returned (.tuple #[.agg #[.int .u64 (hi o), .int .u64 (lo o)], .bool f]) ∧ Below w.heap.size w w'
theorem rplus_some (a b : Int) (w : World) (ha : U128 a) (hb : U128 b) :
  Calls Tryz.prog 122 #[.agg #[.int .u64 (hi a), .int .u64 (lo a)], .agg #[.int .u64 (hi b), .int .u64 (lo b)]] w (SomeMag w) := by
 by_cases h : a + b ≤ 340282366920938463463374607431768211455
 ·exact (rplus_yes a b w ha hb h).mono fun _ _ ⟨he, hb'⟩ => ⟨a + b, true, ⟨by unfold U128 at ha hb; omega, h⟩, he, hb'⟩
 ·exact (rplus_no a b w ha hb (by omega)).mono fun _ _ ⟨x, y, he, hx, hy, hb'⟩ => ⟨val x y, false, val_bdu hx hy, by rw [hi_val hy, lo_val hy]; exact he, hb'⟩

/-! ### Split -/
section
attribute [local go_sem] u64_signed i64_signed xor_u64 xor_i64
theorem sp_lo {x : Int} (h : x < 0) : IntKind.u64.wrap (nt (lo x) + 1) = lo (ab x) := by
 rw [ab_neg h, IntKind.wrap_u64]; unfold nt lo; omega
theorem sp_hi0 {x : Int} (hx : I128 x) (h : x < 0) (hl : lo (ab x) = 0) : IntKind.u64.wrap (nt (IntKind.u64.wrap (hi x)) + 1) = hi (ab x) := by
 rw [ab_neg h] at *; rw [IntKind.wrap_u64, IntKind.wrap_u64]; unfold I128 at hx; unfold nt; unfold lo at hl; unfold hi; omega
theorem sp_hi1 {x : Int} (hx : I128 x) (h : x < 0) (hl : lo (ab x) ≠ 0) : nt (IntKind.u64.wrap (hi x)) = hi (ab x) := by
 rw [ab_neg h] at *; rw [IntKind.wrap_u64]; unfold I128 at hx; unfold nt; unfold lo at hl; unfold hi; omega

theorem rsplit_any (x : Int) (w : World) (hx : I128 x) :
  Calls Tryz.prog 120 #[.agg #[.int .i64 (hi x), .int .u64 (lo x)]] w fun e w' => e = .returned (.tuple #[.bool (decide (x < 0)), .agg #[.int .u64 (hi (ab x)), .int .u64 (lo (ab x))]]) ∧ Below w.heap.size w w' := by
 by_cases h : x < 0
 ·rw [decide_eq_true h]
  have hneg : hi x < 0 := (hi_neg x).2 h
  have H1 := Lib.hid (sp_lo h)
  by_cases hl : lo (ab x) = 0
  ·have H2 := Lib.hid (sp_hi0 hx h hl)
   have t1 : (IntKind.u64.wrap (nt (lo x) + 1) == 0) = true := by rw [sp_lo h, hl]; rfl
   clear hl h
   go_enter Tryz.func120, Tryz.ntmps120
   go_wp2_with fail
   refine Reg.region_quiet (by kernel_rfl) (by kernel_rfl) ?_
   iterate 7 (first | go_big_quiet_skip | (go_big_quiet_want; (first | (go_big_quiet_op; go_big_quiet_on) | (apply Reg.quiet_run; (intro W hW; have q1 := hW.cell (a := ⟨w.heap.size, 0, none⟩) (v := .int .i64 (hi x)) (by simp [go_sem]); have q2 := hW.cell (a := ⟨w.heap.size, 1, none⟩) (v := .int .u64 (lo x)) (by simp [go_sem]); go_simp; (first | done | rfl | exact ⟨rfl, rfl⟩ )); (simp only [Act.put, List.setIfInBounds_toArray, List.set_cons_zero, List.set_cons_succ]; go_big_quiet_on)) | (apply Reg.quiet_call; (intro W hW; go_simp; (first | done | rfl | exact ⟨rfl, rfl⟩)); (intro W hW; (first | skip)); (simp only [Act.put, List.setIfInBounds_toArray, List.set_cons_zero, List.set_cons_succ]; go_big_quiet_on)))))
   refine wpQuiet_nil ?_
   intro w1 hW
   have hb1 : Below _ _ _ := hW
   clear hW
   obtain ⟨cc, cd, cf, cg⟩ := later2 hb1 (g := w.heap.size) (u := .int .i64 (hi x)) (v := .int .u64 (lo x)) (by simp [go_sem]) (by simp [go_sem]) (by simp [go_sem]) (by simp [go_sem])
   have cz : w.heap.size < w1.heap.size := World.block_lt_of_cell? _ _ cc
   obtain ⟨dc, dd, df, dg⟩ := later2 hb1 (g := w.heap.size + 1) (u := .int .u64 0) (v := .int .u64 0) (by simp [go_sem]) (by simp [go_sem]) (by simp [go_sem]) (by simp [go_sem])
   have dz : w.heap.size + 1 < w1.heap.size := World.block_lt_of_cell? _ _ dc
   have b1 : Below w.heap.size w w1 := bl2 hb1 Bk.be
   have z1 := hb1.size
   try simp at z1
   clear hb1
   go_wp2_with fail
   simp [bodyPost, results, Tryz.results120, go_sem, dc, dd]
   exact ⟨⟨H2.out, H1.out⟩, Bk.be⟩
  ·have H2 := Lib.hid (sp_hi1 hx h hl)
   have t1 : (IntKind.u64.wrap (nt (lo x) + 1) == 0) = false := by rw [sp_lo h]; simpa using hl
   clear hl h
   go_enter Tryz.func120, Tryz.ntmps120
   go_wp2_with fail
   refine Reg.region_quiet (by kernel_rfl) (by kernel_rfl) ?_
   iterate 7 (first | go_big_quiet_skip | (go_big_quiet_want; (first | (go_big_quiet_op; go_big_quiet_on) | (apply Reg.quiet_run; (intro W hW; have q1 := hW.cell (a := ⟨w.heap.size, 0, none⟩) (v := .int .i64 (hi x)) (by simp [go_sem]); have q2 := hW.cell (a := ⟨w.heap.size, 1, none⟩) (v := .int .u64 (lo x)) (by simp [go_sem]); go_simp; (first | done | rfl | exact ⟨rfl, rfl⟩ )); (simp only [Act.put, List.setIfInBounds_toArray, List.set_cons_zero, List.set_cons_succ]; go_big_quiet_on)) | (apply Reg.quiet_call; (intro W hW; go_simp; (first | done | rfl | exact ⟨rfl, rfl⟩)); (intro W hW; (first | skip)); (simp only [Act.put, List.setIfInBounds_toArray, List.set_cons_zero, List.set_cons_succ]; go_big_quiet_on)))))
   refine wpQuiet_nil ?_
   intro w1 hW
   have hb1 : Below _ _ _ := hW
   clear hW
   obtain ⟨cc, cd, cf, cg⟩ := later2 hb1 (g := w.heap.size) (u := .int .i64 (hi x)) (v := .int .u64 (lo x)) (by simp [go_sem]) (by simp [go_sem]) (by simp [go_sem]) (by simp [go_sem])
   have cz : w.heap.size < w1.heap.size := World.block_lt_of_cell? _ _ cc
   obtain ⟨dc, dd, df, dg⟩ := later2 hb1 (g := w.heap.size + 1) (u := .int .u64 0) (v := .int .u64 0) (by simp [go_sem]) (by simp [go_sem]) (by simp [go_sem]) (by simp [go_sem])
   have dz : w.heap.size + 1 < w1.heap.size := World.block_lt_of_cell? _ _ dc
   have b1 : Below w.heap.size w w1 := bl2 hb1 Bk.be
   have z1 := hb1.size
   try simp at z1
   clear hb1
   go_wp2_with fail
   simp [bodyPost, results, Tryz.results120, go_sem, dc, dd]
   exact ⟨⟨H2.out, H1.out⟩, Bk.be⟩
 ·rw [decide_eq_false h, ab_pos (by omega)]
  have hneg : 0 ≤ hi x := by have := hi_neg x; omega
  have hb := hi_bd hx
  unfold I64 at hb
  obtain ⟨k0, k1⟩ := hb
  clear h k0
  go_enter Tryz.func120, Tryz.ntmps120
  go_wp2_with fail
  refine Reg.region_quiet (by kernel_rfl) (by kernel_rfl) ?_
  iterate 7 (first | go_big_quiet_skip | (go_big_quiet_want; (first | (go_big_quiet_op; go_big_quiet_on) | (apply Reg.quiet_run; (intro W hW; have q1 := hW.cell (a := ⟨w.heap.size, 0, none⟩) (v := .int .i64 (hi x)) (by simp [go_sem]); have q2 := hW.cell (a := ⟨w.heap.size, 1, none⟩) (v := .int .u64 (lo x)) (by simp [go_sem]); go_simp; (first | done | rfl | exact ⟨rfl, rfl⟩ )); (simp only [Act.put, List.setIfInBounds_toArray, List.set_cons_zero, List.set_cons_succ]; go_big_quiet_on)) | (apply Reg.quiet_call; (intro W hW; go_simp; (first | done | rfl | exact ⟨rfl, rfl⟩)); (intro W hW; (first | skip)); (simp only [Act.put, List.setIfInBounds_toArray, List.set_cons_zero, List.set_cons_succ]; go_big_quiet_on)))))
  refine wpQuiet_nil ?_
  intro w1 hW
  have hb1 : Below _ _ _ := hW
  clear hW
  obtain ⟨cc, cd, cf, cg⟩ := later2 hb1 (g := w.heap.size) (u := .int .i64 (hi x)) (v := .int .u64 (lo x)) (by simp [go_sem]) (by simp [go_sem]) (by simp [go_sem]) (by simp [go_sem])
  have cz : w.heap.size < w1.heap.size := World.block_lt_of_cell? _ _ cc
  obtain ⟨dc, dd, df, dg⟩ := later2 hb1 (g := w.heap.size + 1) (u := .int .u64 0) (v := .int .u64 0) (by simp [go_sem]) (by simp [go_sem]) (by simp [go_sem]) (by simp [go_sem])
  have dz : w.heap.size + 1 < w1.heap.size := World.block_lt_of_cell? _ _ dc
  have b1 : Below w.heap.size w w1 := bl2 hb1 Bk.be
  have z1 := hb1.size
  try simp at z1
  clear hb1
  go_wp2_with fail
  simp [bodyPost, results, Tryz.results120, go_sem, dc, dd]
  exact Bk.be
end
end Go.Proofs.YtaanicginfjgdaaGreatDoor.Wt

namespace Go.Proofs.YtaanicginfjgdaaGreatDoor.Wt
open Go.RowKit
open Go.Proofs.YtaanicginfjgdaaGreatDoor
open Go.Proofs.YtaanicginfjgdaaGreatDoor.Wm

def NoJoin (w : World) (e : Ending) (w' : World) : Prop := ∃ a b : Int, e = .returned (.tuple #[.agg #[.int .i64 a, .int .u64 b], .bool false]) ∧ Below w.heap.size w w'

section
attribute [local go_sem] u64_signed i64_signed xor_u64 xor_i64
theorem join_pos (m : Int) (w : World) (h0 : 0 ≤ m) (h : m ≤ 170141183460469231731687303715884105727) :
  Calls Tryz.prog 123 #[.bool false, .agg #[.int .u64 (hi m), .int .u64 (lo m)]] w fun e w' => e = .returned (.tuple #[.agg #[.int .i64 (hi m), .int .u64 (lo m)], .bool true]) ∧ Below w.heap.size w w' := by
 obtain ⟨k1, k0⟩ := sg_lt h0 h
 clear h h0
 go_enter Tryz.func123, Tryz.ntmps123
 go_wp2_with fail
 go_region
 go_wp2_with fail
 simp [bodyPost, results, Tryz.results123, go_sem]
 exact Bk.be
theorem join_pos_no (m : Int) (w : World) (h0 : U128 m) (h : 170141183460469231731687303715884105727 < m) :
  Calls Tryz.prog 123 #[.bool false, .agg #[.int .u64 (hi m), .int .u64 (lo m)]] w (NoJoin w) := by
 have k1 : 9223372036854775808 ≤ hi m := by unfold hi; omega
 have k2 := (hi_bdu h0).2
 clear h h0
 go_enter Tryz.func123, Tryz.ntmps123
 go_wp2_with fail
 go_region
 go_wp2_with fail
 simp [bodyPost, results, Tryz.results123, go_sem]
 exact ⟨_, _, by first | rfl | rw [decide_eq_false (by omega)], Bk.be⟩

theorem jn_lo (m : Int) : IntKind.u64.wrap (nt (lo m) + 1) = lo (-m) := by rw [IntKind.wrap_u64]; unfold nt lo; omega
theorem jn_hi0 {m : Int} (hm : 0 ≤ m ∧ m ≤ 170141183460469231731687303715884105728) (hl : lo (-m) = 0) : wrap64 (IntKind.u64.wrap (nt (hi m) + 1)) = hi (-m) := by
 rw [IntKind.wrap_u64]; unfold nt; unfold lo at hl; unfold hi wrap64; omega
theorem jn_hi1 {m : Int} (hm : 0 ≤ m ∧ m ≤ 170141183460469231731687303715884105728) (hl : lo (-m) ≠ 0) : wrap64 (nt (hi m)) = hi (-m) := by
 unfold nt; unfold lo at hl; unfold hi wrap64; omega

theorem join_neg (m : Int) (w : World) (h0 : 0 ≤ m) (h : m ≤ 170141183460469231731687303715884105727) :
  Calls Tryz.prog 123 #[.bool true, .agg #[.int .u64 (hi m), .int .u64 (lo m)]] w fun e w' => e = .returned (.tuple #[.agg #[.int .i64 (hi (-m)), .int .u64 (lo (-m))], .bool true]) ∧ Below w.heap.size w w' := by
 obtain ⟨k1, k0⟩ := sg_lt h0 h
 have H1 := Lib.hid (jn_lo m)
 by_cases hl : lo (-m) = 0
 ·have H2 := Lib.hid (jn_hi0 ⟨h0, by omega⟩ hl)
  have t1 : (IntKind.u64.wrap (nt (lo m) + 1) == 0) = true := by rw [jn_lo, hl]; rfl
  clear h h0 hl
  go_enter Tryz.func123, Tryz.ntmps123
  go_wp2_with fail
  refine Reg.region_quiet (by kernel_rfl) (by kernel_rfl) ?_
  iterate 9 (first | go_big_quiet_skip | (go_big_quiet_want; (first | (go_big_quiet_op; go_big_quiet_on) | (apply Reg.quiet_run; (intro W hW; have q1 := hW.cell (a := ⟨w.heap.size, 0, none⟩) (v := .int .u64 (hi m)) (by simp [go_sem]); have q2 := hW.cell (a := ⟨w.heap.size, 1, none⟩) (v := .int .u64 (lo m)) (by simp [go_sem]); go_simp; (first | done | rfl | exact ⟨rfl, rfl⟩ )); (simp only [Act.put, List.setIfInBounds_toArray, List.set_cons_zero, List.set_cons_succ]; go_big_quiet_on)) | (apply Reg.quiet_call; (intro W hW; go_simp; (first | done | rfl | exact ⟨rfl, rfl⟩)); (intro W hW; (first | skip)); (simp only [Act.put, List.setIfInBounds_toArray, List.set_cons_zero, List.set_cons_succ]; go_big_quiet_on)))))
  refine wpQuiet_nil ?_
  intro w1 hW
  have hb1 : Below _ _ _ := hW
  clear hW
  obtain ⟨cc, cd, cf, cg⟩ := later2 hb1 (g := w.heap.size) (u := .int .u64 (hi m)) (v := .int .u64 (lo m)) (by simp [go_sem]) (by simp [go_sem]) (by simp [go_sem]) (by simp [go_sem])
  have cz : w.heap.size < w1.heap.size := World.block_lt_of_cell? _ _ cc
  obtain ⟨dc, dd, df, dg⟩ := later2 hb1 (g := w.heap.size + 1) (u := .int .i64 0) (v := .int .u64 0) (by simp [go_sem]) (by simp [go_sem]) (by simp [go_sem]) (by simp [go_sem])
  have dz : w.heap.size + 1 < w1.heap.size := World.block_lt_of_cell? _ _ dc
  have b1 : Below w.heap.size w w1 := bl2 hb1 Bk.be
  have z1 := hb1.size
  try simp at z1
  clear hb1
  go_wp2_with fail
  go_region
  go_wp2_with fail
  simp [bodyPost, results, Tryz.results123, go_sem, dc, dd]
  exact ⟨⟨H2.out, H1.out⟩, Bk.be⟩
 ·have H2 := Lib.hid (jn_hi1 ⟨h0, by omega⟩ hl)
  have t1 : (IntKind.u64.wrap (nt (lo m) + 1) == 0) = false := by rw [jn_lo]; simpa using hl
  clear h h0 hl
  go_enter Tryz.func123, Tryz.ntmps123
  go_wp2_with fail
  refine Reg.region_quiet (by kernel_rfl) (by kernel_rfl) ?_
  iterate 9 (first | go_big_quiet_skip | (go_big_quiet_want; (first | (go_big_quiet_op; go_big_quiet_on) | (apply Reg.quiet_run; (intro W hW; have q1 := hW.cell (a := ⟨w.heap.size, 0, none⟩) (v := .int .u64 (hi m)) (by simp [go_sem]); have q2 := hW.cell (a := ⟨w.heap.size, 1, none⟩) (v := .int .u64 (lo m)) (by simp [go_sem]); go_simp; (first | done | rfl | exact ⟨rfl, rfl⟩ )); (simp only [Act.put, List.setIfInBounds_toArray, List.set_cons_zero, List.set_cons_succ]; go_big_quiet_on)) | (apply Reg.quiet_call; (intro W hW; go_simp; (first | done | rfl | exact ⟨rfl, rfl⟩)); (intro W hW; (first | skip)); (simp only [Act.put, List.setIfInBounds_toArray, List.set_cons_zero, List.set_cons_succ]; go_big_quiet_on)))))
  refine wpQuiet_nil ?_
  intro w1 hW
  have hb1 : Below _ _ _ := hW
  clear hW
  obtain ⟨cc, cd, cf, cg⟩ := later2 hb1 (g := w.heap.size) (u := .int .u64 (hi m)) (v := .int .u64 (lo m)) (by simp [go_sem]) (by simp [go_sem]) (by simp [go_sem]) (by simp [go_sem])
  have cz : w.heap.size < w1.heap.size := World.block_lt_of_cell? _ _ cc
  obtain ⟨dc, dd, df, dg⟩ := later2 hb1 (g := w.heap.size + 1) (u := .int .i64 0) (v := .int .u64 0) (by simp [go_sem]) (by simp [go_sem]) (by simp [go_sem]) (by simp [go_sem])
  have dz : w.heap.size + 1 < w1.heap.size := World.block_lt_of_cell? _ _ dc
  have b1 : Below w.heap.size w w1 := bl2 hb1 Bk.be
  have z1 := hb1.size
  try simp at z1
  clear hb1
  go_wp2_with fail
  go_region
  go_wp2_with fail
  simp [bodyPost, results, Tryz.results123, go_sem, dc, dd]
  exact ⟨⟨H2.out, H1.out⟩, Bk.be⟩
theorem join_low (w : World) :
  Calls Tryz.prog 123 #[.bool true, .agg #[.int .u64 9223372036854775808, .int .u64 0]] w fun e w' => e = .returned (.tuple #[.agg #[.int .i64 (-9223372036854775808), .int .u64 0], .bool true]) ∧ Below w.heap.size w w' := by
 have t1 : (IntKind.u64.wrap (nt 0 + 1) == 0) = true := by rw [IntKind.wrap_u64]; decide
 have H1 := Lib.hid (show IntKind.u64.wrap (nt 0 + 1) = 0 by rw [IntKind.wrap_u64]; decide)
 have H2 := Lib.hid (show wrap64 (IntKind.u64.wrap (nt 9223372036854775808 + 1)) = -9223372036854775808 by rw [IntKind.wrap_u64]; unfold wrap64 nt; decide)
 go_enter Tryz.func123, Tryz.ntmps123
 go_wp2_with fail
 refine Reg.region_quiet (by kernel_rfl) (by kernel_rfl) ?_
 iterate 9 (first | go_big_quiet_skip | (go_big_quiet_want; (first | (go_big_quiet_op; go_big_quiet_on) | (apply Reg.quiet_run; (intro W hW; have q1 := hW.cell (a := ⟨w.heap.size, 0, none⟩) (v := .int .u64 9223372036854775808) (by simp [go_sem]); have q2 := hW.cell (a := ⟨w.heap.size, 1, none⟩) (v := .int .u64 0) (by simp [go_sem]); go_simp; (first | done | rfl | exact ⟨rfl, rfl⟩ )); (simp only [Act.put, List.setIfInBounds_toArray, List.set_cons_zero, List.set_cons_succ]; go_big_quiet_on)) | (apply Reg.quiet_call; (intro W hW; go_simp; (first | done | rfl | exact ⟨rfl, rfl⟩)); (intro W hW; (first | skip)); (simp only [Act.put, List.setIfInBounds_toArray, List.set_cons_zero, List.set_cons_succ]; go_big_quiet_on)))))
 refine wpQuiet_nil ?_
 intro w1 hW
 have hb1 : Below _ _ _ := hW
 clear hW
 obtain ⟨cc, cd, cf, cg⟩ := later2 hb1 (g := w.heap.size) (u := .int .u64 9223372036854775808) (v := .int .u64 0) (by simp [go_sem]) (by simp [go_sem]) (by simp [go_sem]) (by simp [go_sem])
 have cz : w.heap.size < w1.heap.size := World.block_lt_of_cell? _ _ cc
 obtain ⟨dc, dd, df, dg⟩ := later2 hb1 (g := w.heap.size + 1) (u := .int .i64 0) (v := .int .u64 0) (by simp [go_sem]) (by simp [go_sem]) (by simp [go_sem]) (by simp [go_sem])
 have dz : w.heap.size + 1 < w1.heap.size := World.block_lt_of_cell? _ _ dc
 have b1 : Below w.heap.size w w1 := bl2 hb1 Bk.be
 have z1 := hb1.size
 try simp at z1
 clear hb1
 go_wp2_with fail
 go_region
 go_wp2_with fail
 simp [bodyPost, results, Tryz.results123, go_sem, dc, dd]
 exact ⟨⟨H2.out, H1.out⟩, Bk.be⟩
theorem join_neg_no1 (a b : Int) (w : World) (h : 9223372036854775808 < a) :
  Calls Tryz.prog 123 #[.bool true, .agg #[.int .u64 a, .int .u64 b]] w (NoJoin w) := by
 have t2 : decide (a < 9223372036854775808) = false := decide_eq_false (by omega)
 have t3 : (a == 9223372036854775808) = false := by simp; omega
 by_cases hl : IntKind.u64.wrap (nt b + 1) = 0
 ·have t1 : (IntKind.u64.wrap (nt b + 1) == 0) = true := by rw [hl]; rfl
  clear hl
  go_enter Tryz.func123, Tryz.ntmps123
  go_wp2_with fail
  refine Reg.region_quiet (by kernel_rfl) (by kernel_rfl) ?_
  iterate 9 (first | go_big_quiet_skip | (go_big_quiet_want; (first | (go_big_quiet_op; go_big_quiet_on) | (apply Reg.quiet_run; (intro W hW; have q1 := hW.cell (a := ⟨w.heap.size, 0, none⟩) (v := .int .u64 a) (by simp [go_sem]); have q2 := hW.cell (a := ⟨w.heap.size, 1, none⟩) (v := .int .u64 b) (by simp [go_sem]); go_simp; (first | done | rfl | exact ⟨rfl, rfl⟩ )); (simp only [Act.put, List.setIfInBounds_toArray, List.set_cons_zero, List.set_cons_succ]; go_big_quiet_on)) | (apply Reg.quiet_call; (intro W hW; go_simp; (first | done | rfl | exact ⟨rfl, rfl⟩)); (intro W hW; (first | skip)); (simp only [Act.put, List.setIfInBounds_toArray, List.set_cons_zero, List.set_cons_succ]; go_big_quiet_on)))))
  refine wpQuiet_nil ?_
  intro w1 hW
  have hb1 : Below _ _ _ := hW
  clear hW
  obtain ⟨cc, cd, cf, cg⟩ := later2 hb1 (g := w.heap.size) (u := .int .u64 a) (v := .int .u64 b) (by simp [go_sem]) (by simp [go_sem]) (by simp [go_sem]) (by simp [go_sem])
  have cz : w.heap.size < w1.heap.size := World.block_lt_of_cell? _ _ cc
  obtain ⟨dc, dd, df, dg⟩ := later2 hb1 (g := w.heap.size + 1) (u := .int .i64 0) (v := .int .u64 0) (by simp [go_sem]) (by simp [go_sem]) (by simp [go_sem]) (by simp [go_sem])
  have dz : w.heap.size + 1 < w1.heap.size := World.block_lt_of_cell? _ _ dc
  have b1 : Below w.heap.size w w1 := bl2 hb1 Bk.be
  have z1 := hb1.size
  try simp at z1
  clear hb1
  go_wp2_with fail
  go_region
  go_wp2_with fail
  simp [bodyPost, results, Tryz.results123, go_sem, dc, dd]
  exact ⟨_, _, rfl, Bk.be⟩
 ·have t1 : (IntKind.u64.wrap (nt b + 1) == 0) = false := by simpa using hl
  clear hl
  go_enter Tryz.func123, Tryz.ntmps123
  go_wp2_with fail
  refine Reg.region_quiet (by kernel_rfl) (by kernel_rfl) ?_
  iterate 9 (first | go_big_quiet_skip | (go_big_quiet_want; (first | (go_big_quiet_op; go_big_quiet_on) | (apply Reg.quiet_run; (intro W hW; have q1 := hW.cell (a := ⟨w.heap.size, 0, none⟩) (v := .int .u64 a) (by simp [go_sem]); have q2 := hW.cell (a := ⟨w.heap.size, 1, none⟩) (v := .int .u64 b) (by simp [go_sem]); go_simp; (first | done | rfl | exact ⟨rfl, rfl⟩ )); (simp only [Act.put, List.setIfInBounds_toArray, List.set_cons_zero, List.set_cons_succ]; go_big_quiet_on)) | (apply Reg.quiet_call; (intro W hW; go_simp; (first | done | rfl | exact ⟨rfl, rfl⟩)); (intro W hW; (first | skip)); (simp only [Act.put, List.setIfInBounds_toArray, List.set_cons_zero, List.set_cons_succ]; go_big_quiet_on)))))
  refine wpQuiet_nil ?_
  intro w1 hW
  have hb1 : Below _ _ _ := hW
  clear hW
  obtain ⟨cc, cd, cf, cg⟩ := later2 hb1 (g := w.heap.size) (u := .int .u64 a) (v := .int .u64 b) (by simp [go_sem]) (by simp [go_sem]) (by simp [go_sem]) (by simp [go_sem])
  have cz : w.heap.size < w1.heap.size := World.block_lt_of_cell? _ _ cc
  obtain ⟨dc, dd, df, dg⟩ := later2 hb1 (g := w.heap.size + 1) (u := .int .i64 0) (v := .int .u64 0) (by simp [go_sem]) (by simp [go_sem]) (by simp [go_sem]) (by simp [go_sem])
  have dz : w.heap.size + 1 < w1.heap.size := World.block_lt_of_cell? _ _ dc
  have b1 : Below w.heap.size w w1 := bl2 hb1 Bk.be
  have z1 := hb1.size
  try simp at z1
  clear hb1
  go_wp2_with fail
  go_region
  go_wp2_with fail
  simp [bodyPost, results, Tryz.results123, go_sem, dc, dd]
  exact ⟨_, _, rfl, Bk.be⟩
theorem join_neg_no2 (b : Int) (w : World) (h : 0 < b) :
  Calls Tryz.prog 123 #[.bool true, .agg #[.int .u64 9223372036854775808, .int .u64 b]] w (NoJoin w) := by
 have t3 : (b == 0) = false := by simp; omega
 by_cases hl : IntKind.u64.wrap (nt b + 1) = 0
 ·have t1 : (IntKind.u64.wrap (nt b + 1) == 0) = true := by rw [hl]; rfl
  clear hl
  go_enter Tryz.func123, Tryz.ntmps123
  go_wp2_with fail
  refine Reg.region_quiet (by kernel_rfl) (by kernel_rfl) ?_
  iterate 9 (first | go_big_quiet_skip | (go_big_quiet_want; (first | (go_big_quiet_op; go_big_quiet_on) | (apply Reg.quiet_run; (intro W hW; have q1 := hW.cell (a := ⟨w.heap.size, 0, none⟩) (v := .int .u64 9223372036854775808) (by simp [go_sem]); have q2 := hW.cell (a := ⟨w.heap.size, 1, none⟩) (v := .int .u64 b) (by simp [go_sem]); go_simp; (first | done | rfl | exact ⟨rfl, rfl⟩ )); (simp only [Act.put, List.setIfInBounds_toArray, List.set_cons_zero, List.set_cons_succ]; go_big_quiet_on)) | (apply Reg.quiet_call; (intro W hW; go_simp; (first | done | rfl | exact ⟨rfl, rfl⟩)); (intro W hW; (first | skip)); (simp only [Act.put, List.setIfInBounds_toArray, List.set_cons_zero, List.set_cons_succ]; go_big_quiet_on)))))
  refine wpQuiet_nil ?_
  intro w1 hW
  have hb1 : Below _ _ _ := hW
  clear hW
  obtain ⟨cc, cd, cf, cg⟩ := later2 hb1 (g := w.heap.size) (u := .int .u64 9223372036854775808) (v := .int .u64 b) (by simp [go_sem]) (by simp [go_sem]) (by simp [go_sem]) (by simp [go_sem])
  have cz : w.heap.size < w1.heap.size := World.block_lt_of_cell? _ _ cc
  obtain ⟨dc, dd, df, dg⟩ := later2 hb1 (g := w.heap.size + 1) (u := .int .i64 0) (v := .int .u64 0) (by simp [go_sem]) (by simp [go_sem]) (by simp [go_sem]) (by simp [go_sem])
  have dz : w.heap.size + 1 < w1.heap.size := World.block_lt_of_cell? _ _ dc
  have b1 : Below w.heap.size w w1 := bl2 hb1 Bk.be
  have z1 := hb1.size
  try simp at z1
  clear hb1
  go_wp2_with fail
  go_region
  go_wp2_with fail
  simp [bodyPost, results, Tryz.results123, go_sem, dc, dd]
  exact ⟨_, _, rfl, Bk.be⟩
 ·have t1 : (IntKind.u64.wrap (nt b + 1) == 0) = false := by simpa using hl
  clear hl
  go_enter Tryz.func123, Tryz.ntmps123
  go_wp2_with fail
  refine Reg.region_quiet (by kernel_rfl) (by kernel_rfl) ?_
  iterate 9 (first | go_big_quiet_skip | (go_big_quiet_want; (first | (go_big_quiet_op; go_big_quiet_on) | (apply Reg.quiet_run; (intro W hW; have q1 := hW.cell (a := ⟨w.heap.size, 0, none⟩) (v := .int .u64 9223372036854775808) (by simp [go_sem]); have q2 := hW.cell (a := ⟨w.heap.size, 1, none⟩) (v := .int .u64 b) (by simp [go_sem]); go_simp; (first | done | rfl | exact ⟨rfl, rfl⟩ )); (simp only [Act.put, List.setIfInBounds_toArray, List.set_cons_zero, List.set_cons_succ]; go_big_quiet_on)) | (apply Reg.quiet_call; (intro W hW; go_simp; (first | done | rfl | exact ⟨rfl, rfl⟩)); (intro W hW; (first | skip)); (simp only [Act.put, List.setIfInBounds_toArray, List.set_cons_zero, List.set_cons_succ]; go_big_quiet_on)))))
  refine wpQuiet_nil ?_
  intro w1 hW
  have hb1 : Below _ _ _ := hW
  clear hW
  obtain ⟨cc, cd, cf, cg⟩ := later2 hb1 (g := w.heap.size) (u := .int .u64 9223372036854775808) (v := .int .u64 b) (by simp [go_sem]) (by simp [go_sem]) (by simp [go_sem]) (by simp [go_sem])
  have cz : w.heap.size < w1.heap.size := World.block_lt_of_cell? _ _ cc
  obtain ⟨dc, dd, df, dg⟩ := later2 hb1 (g := w.heap.size + 1) (u := .int .i64 0) (v := .int .u64 0) (by simp [go_sem]) (by simp [go_sem]) (by simp [go_sem]) (by simp [go_sem])
  have dz : w.heap.size + 1 < w1.heap.size := World.block_lt_of_cell? _ _ dc
  have b1 : Below w.heap.size w w1 := bl2 hb1 Bk.be
  have z1 := hb1.size
  try simp at z1
  clear hb1
  go_wp2_with fail
  go_region
  go_wp2_with fail
  simp [bodyPost, results, Tryz.results123, go_sem, dc, dd]
  exact ⟨_, _, rfl, Bk.be⟩
end
end Go.Proofs.YtaanicginfjgdaaGreatDoor.Wt
