/-
  Parts of the proof: Rd1, Rd2, Rd3, Rd4, Anm.
-/
import Derived.Test.YtlolflephnbbcaaGreatDoorQ06
import Derived.Test.YtlolflephnbbcaaGreatDoorQ02
import Derived.Test.YtlolflephnbbcaaGreatDoorQ04
namespace Go.Proofs.YtlolflephnbbcaaGreatDoor.Rd
open Go.RowKit
open Go.Proofs.YtlolflephnbbcaaGreatDoor
open Go.Proofs.YtlolflephnbbcaaGreatDoor.Wm Go.Proofs.YtlolflephnbbcaaGreatDoor.Wt

structure Stp (W : World) : Prop where
 c2 : W.cell? ⟨1, 2, none⟩ = some (.int .i64 1)
 c3 : W.cell? ⟨1, 3, none⟩ = some (.int .i64 0)
 c4 : W.cell? ⟨1, 4, none⟩ = some (.int .i64 0)
 c5 : W.cell? ⟨1, 5, none⟩ = some (.int .i64 1)
 c6 : W.cell? ⟨1, 6, none⟩ = some (.int .i64 0)
 c7 : W.cell? ⟨1, 7, none⟩ = some (.int .i64 0)
 c8 : W.cell? ⟨1, 8, none⟩ = some (.int .i64 1)
 c9 : W.cell? ⟨1, 9, none⟩ = some (.int .i64 1)
theorem Stp.lt {W : World} (h : Stp W) : 1 < W.heap.size := World.block_lt_of_cell? _ _ h.c2
theorem Stp.of {W w1 : World} (h : Stp W) (hb : Below W.heap.size W w1) : Stp w1 :=
 ⟨cell_later hb h.c2, cell_later hb h.c3, cell_later hb h.c4, cell_later hb h.c5, cell_later hb h.c6, cell_later hb h.c7, cell_later hb h.c8, cell_later hb h.c9⟩

theorem and_one {x : Int} (h : U64 x) : bits .and .u64 x 1 = x % 2 := by
 obtain ⟨h0, h1⟩ := h
 obtain ⟨n, rfl⟩ := Int.eq_ofNat_of_zero_le h0
 show IntKind.u64.wrap ((BitVec.ofInt 64 (n : Int) &&& BitVec.ofInt 64 1).toNat : Int) = _
 rw [IntKind.wrap_u64, BitVec.toNat_and, BitVec.toNat_ofInt, BitVec.toNat_ofInt]
 rw [show ((1 : Int) % ((2 ^ 64 : Nat) : Int)).toNat = 1 from rfl, Nat.and_one_is_mod]
 simp only [show (2 ^ 64 : Nat) = 18446744073709551616 from rfl]
 omega

theorem more_1 (q r n : Int) (w : World) (hS : Stp w) : Calls Tryz.prog 123 #[.agg #[.int .i64 (hi q), .int .u64 (lo q)], .int .i64 r, .int .i64 n, .int .i64 1] w fun e w' => e = .returned (.int .i64 (moreI (decide (q < 0)) (decide (q % 2 = 1)) r n 1)) ∧ Below w.heap.size w w' := by
 have hlt := hS.lt
 have hneg := hi_neg q
 have b0 := Below.refl w.heap.size w
 have k2 := hS.c2
 have k3 := hS.c3
 by_cases h : q < 0
 ·have hh := hneg.2 h
  have HV := Lib.hid (show moreI (decide (q < 0)) (decide (q % 2 = 1)) r n 1 = 1 by unfold moreI upB; simp [h])
  clear hneg h hS
  go_enter Tryz.func123, Tryz.ntmps123
  go_wp2_with fail
  go_ret
  exact ⟨(by rw [HV.out]; rfl), Bk.be⟩
 ·have hh : 0 ≤ hi q := by omega
  have HV := Lib.hid (show moreI (decide (q < 0)) (decide (q % 2 = 1)) r n 1 = 0 by unfold moreI upB; simp [h])
  clear hneg h hS
  go_enter Tryz.func123, Tryz.ntmps123
  go_wp2_with fail
  go_ret
  exact ⟨(by rw [HV.out]; rfl), Bk.be⟩
theorem more_2 (q r n : Int) (w : World) (hS : Stp w) : Calls Tryz.prog 123 #[.agg #[.int .i64 (hi q), .int .u64 (lo q)], .int .i64 r, .int .i64 n, .int .i64 2] w fun e w' => e = .returned (.int .i64 (moreI (decide (q < 0)) (decide (q % 2 = 1)) r n 2)) ∧ Below w.heap.size w w' := by
 have hlt := hS.lt
 have hneg := hi_neg q
 have b0 := Below.refl w.heap.size w
 have k2 := hS.c4
 have k3 := hS.c5
 by_cases h : q < 0
 ·have hh := hneg.2 h
  have HV := Lib.hid (show moreI (decide (q < 0)) (decide (q % 2 = 1)) r n 2 = 0 by unfold moreI upB; simp [h])
  clear hneg h hS
  go_enter Tryz.func123, Tryz.ntmps123
  go_wp2_with fail
  go_ret
  exact ⟨(by rw [HV.out]; rfl), Bk.be⟩
 ·have hh : 0 ≤ hi q := by omega
  have HV := Lib.hid (show moreI (decide (q < 0)) (decide (q % 2 = 1)) r n 2 = 1 by unfold moreI upB; simp [h])
  clear hneg h hS
  go_enter Tryz.func123, Tryz.ntmps123
  go_wp2_with fail
  go_ret
  exact ⟨(by rw [HV.out]; rfl), Bk.be⟩
theorem more_3 (q r n : Int) (w : World) (hS : Stp w) : Calls Tryz.prog 123 #[.agg #[.int .i64 (hi q), .int .u64 (lo q)], .int .i64 r, .int .i64 n, .int .i64 3] w fun e w' => e = .returned (.int .i64 (moreI (decide (q < 0)) (decide (q % 2 = 1)) r n 3)) ∧ Below w.heap.size w w' := by
 have hlt := hS.lt
 have hneg := hi_neg q
 have b0 := Below.refl w.heap.size w
 have k2 := hS.c6
 have k3 := hS.c7
 by_cases h : q < 0
 ·have hh := hneg.2 h
  have HV := Lib.hid (show moreI (decide (q < 0)) (decide (q % 2 = 1)) r n 3 = 0 by unfold moreI upB; simp)
  clear hneg h hS
  go_enter Tryz.func123, Tryz.ntmps123
  go_wp2_with fail
  go_ret
  exact ⟨(by rw [HV.out]; rfl), Bk.be⟩
 ·have hh : 0 ≤ hi q := by omega
  have HV := Lib.hid (show moreI (decide (q < 0)) (decide (q % 2 = 1)) r n 3 = 0 by unfold moreI upB; simp)
  clear hneg h hS
  go_enter Tryz.func123, Tryz.ntmps123
  go_wp2_with fail
  go_ret
  exact ⟨(by rw [HV.out]; rfl), Bk.be⟩
theorem more_4 (q r n : Int) (w : World) (hS : Stp w) : Calls Tryz.prog 123 #[.agg #[.int .i64 (hi q), .int .u64 (lo q)], .int .i64 r, .int .i64 n, .int .i64 4] w fun e w' => e = .returned (.int .i64 (moreI (decide (q < 0)) (decide (q % 2 = 1)) r n 4)) ∧ Below w.heap.size w w' := by
 have hlt := hS.lt
 have hneg := hi_neg q
 have b0 := Below.refl w.heap.size w
 have k2 := hS.c8
 have k3 := hS.c9
 by_cases h : q < 0
 ·have hh := hneg.2 h
  have HV := Lib.hid (show moreI (decide (q < 0)) (decide (q % 2 = 1)) r n 4 = 1 by unfold moreI upB; simp)
  clear hneg h hS
  go_enter Tryz.func123, Tryz.ntmps123
  go_wp2_with fail
  go_ret
  exact ⟨(by rw [HV.out]; rfl), Bk.be⟩
 ·have hh : 0 ≤ hi q := by omega
  have HV := Lib.hid (show moreI (decide (q < 0)) (decide (q % 2 = 1)) r n 4 = 1 by unfold moreI upB; simp)
  clear hneg h hS
  go_enter Tryz.func123, Tryz.ntmps123
  go_wp2_with fail
  go_ret
  exact ⟨(by rw [HV.out]; rfl), Bk.be⟩
theorem more_5 (q r n : Int) (w : World) (hn : n ≤ 9223372036854775807) (hr : 0 < r) (hrn : r < n) : Calls Tryz.prog 123 #[.agg #[.int .i64 (hi q), .int .u64 (lo q)], .int .i64 r, .int .i64 n, .int .i64 5] w fun e w' => e = .returned (.int .i64 (moreI (decide (q < 0)) (decide (q % 2 = 1)) r n 5)) ∧ Below w.heap.size w w' := by
 have hneg := hi_neg q
 have b0 := Below.refl w.heap.size w
 by_cases h1 : n - r < r
 ·have HV := Lib.hid (show moreI (decide (q < 0)) (decide (q % 2 = 1)) r n 5 = 1 by unfold moreI; rw [upB_1 (by omega) h1]; rfl)
  by_cases h : hi q < 0
  all_goals
   clear hneg
   go_enter Tryz.func123, Tryz.ntmps123
   go_wp2_with fail
   go_ret
   exact ⟨(by rw [HV.out]; rfl), Bk.be⟩
 ·by_cases h2 : r < n - r
  ·have HV := Lib.hid (show moreI (decide (q < 0)) (decide (q % 2 = 1)) r n 5 = 0 by unfold moreI; rw [upB_0 (by omega) h2]; rfl)
   by_cases h : hi q < 0
   all_goals
    clear hneg
    go_enter Tryz.func123, Tryz.ntmps123
    go_wp2_with fail
    go_ret
    exact ⟨(by rw [HV.out]; rfl), Bk.be⟩
  ·by_cases h : q < 0
   ·have hh := hneg.2 h
    have HV := Lib.hid (show moreI (decide (q < 0)) (decide (q % 2 = 1)) r n 5 = 0 by unfold moreI; rw [upB_5 (by omega), decide_eq_true h]; rfl)
    clear hneg h
    go_enter Tryz.func123, Tryz.ntmps123
    go_wp2_with fail
    go_ret
    exact ⟨(by rw [HV.out]; rfl), Bk.be⟩
   ·have hh : 0 ≤ hi q := by omega
    have HV := Lib.hid (show moreI (decide (q < 0)) (decide (q % 2 = 1)) r n 5 = 1 by unfold moreI; rw [upB_5 (by omega), decide_eq_false h]; rfl)
    clear hneg h
    go_enter Tryz.func123, Tryz.ntmps123
    go_wp2_with fail
    go_ret
    exact ⟨(by rw [HV.out]; rfl), Bk.be⟩
theorem more_6 (q r n : Int) (w : World) (hn : n ≤ 9223372036854775807) (hr : 0 < r) (hrn : r < n) : Calls Tryz.prog 123 #[.agg #[.int .i64 (hi q), .int .u64 (lo q)], .int .i64 r, .int .i64 n, .int .i64 6] w fun e w' => e = .returned (.int .i64 (moreI (decide (q < 0)) (decide (q % 2 = 1)) r n 6)) ∧ Below w.heap.size w w' := by
 have hneg := hi_neg q
 have b0 := Below.refl w.heap.size w
 by_cases h1 : n - r < r
 ·have HV := Lib.hid (show moreI (decide (q < 0)) (decide (q % 2 = 1)) r n 6 = 1 by unfold moreI; rw [upB_1 (by omega) h1]; rfl)
  by_cases h : hi q < 0
  all_goals
   clear hneg
   go_enter Tryz.func123, Tryz.ntmps123
   go_wp2_with fail
   go_ret
   exact ⟨(by rw [HV.out]; rfl), Bk.be⟩
 ·by_cases h2 : r < n - r
  ·have HV := Lib.hid (show moreI (decide (q < 0)) (decide (q % 2 = 1)) r n 6 = 0 by unfold moreI; rw [upB_0 (by omega) h2]; rfl)
   by_cases h : hi q < 0
   all_goals
    clear hneg
    go_enter Tryz.func123, Tryz.ntmps123
    go_wp2_with fail
    go_ret
    exact ⟨(by rw [HV.out]; rfl), Bk.be⟩
  ·have HV := Lib.hid (show moreI (decide (q < 0)) (decide (q % 2 = 1)) r n 6 = q % 2 by
    unfold moreI
    rw [upB_6 (by omega)]
    by_cases e : q % 2 = 1
    ·rw [decide_eq_true e, e]; rfl
    ·rw [decide_eq_false e]; simp; omega)
   have ha : bits .and .u64 (lo q) 1 = q % 2 := by rw [and_one (lo_bd q), lo_mod]
   have hb0 : 0 ≤ q % 2 := by omega
   have hb1 : q % 2 ≤ 1 := by omega
   by_cases h : hi q < 0
   all_goals
    clear hneg
    go_enter Tryz.func123, Tryz.ntmps123
    go_wp2_with fail
    go_ret
    exact ⟨(by rw [HV.out]; rfl), Bk.be⟩
theorem more_any (q r n mode : Int) (w : World) (hS : Stp w) (hn : n ≤ 9223372036854775807) (hr : 0 < r) (hrn : r < n) (hm1 : 1 ≤ mode) (hm6 : mode ≤ 6) : Calls Tryz.prog 123 #[.agg #[.int .i64 (hi q), .int .u64 (lo q)], .int .i64 r, .int .i64 n, .int .i64 mode] w fun e w' => e = .returned (.int .i64 (moreI (decide (q < 0)) (decide (q % 2 = 1)) r n mode)) ∧ Below w.heap.size w w' := by
 have hm : mode = 1 ∨ mode = 2 ∨ mode = 3 ∨ mode = 4 ∨ mode = 5 ∨ mode = 6 := by omega
 rcases hm with rfl | rfl | rfl | rfl | rfl | rfl
 ·exact more_1 q r n w hS
 ·exact more_2 q r n w hS
 ·exact more_3 q r n w hS
 ·exact more_4 q r n w hS
 ·exact more_5 q r n w hn hr hrn
 ·exact more_6 q r n w hn hr hrn

theorem valid_yes (m : Int) (w : World) (h1 : 1 ≤ m) (h6 : m ≤ 6) : Calls Tryz.prog 81 #[.int .i64 m] w fun e w' => e = .returned (.bool true) ∧ w = w' := by
 go_enter Tryz.func81, Tryz.ntmps81
 go_wp2_with fail
 go_ret
 exact ⟨by simp, rfl⟩
theorem valid_no (m : Int) (w : World) (h : m < 1 ∨ 6 < m) : Calls Tryz.prog 81 #[.int .i64 m] w fun e w' => e = .returned (.bool false) ∧ w = w' := by
 rcases h with h | h
 ·go_enter Tryz.func81, Tryz.ntmps81
  go_wp2_with fail
  go_ret
  exact ⟨by simp, rfl⟩
 ·have h1 : 1 ≤ m := by omega
  go_enter Tryz.func81, Tryz.ntmps81
  go_wp2_with fail
  go_ret
  exact ⟨by simpa using h, rfl⟩
theorem rvalid_yes (m : Int) (w : World) (h1 : 1 ≤ m) (h6 : m ≤ 6) : Calls Tryz.prog 26 #[.int .i64 m] w fun e w' => e = .returned (.bool true) ∧ w = w' := by
 go_enter Tryz.func26, Tryz.ntmps26
 go_wp2_with fail
 go_ret
 exact ⟨by simp, rfl⟩
theorem rvalid_no (m : Int) (w : World) (h : m < 1 ∨ 6 < m) : Calls Tryz.prog 26 #[.int .i64 m] w fun e w' => e = .returned (.bool false) ∧ w = w' := by
 rcases h with h | h
 ·go_enter Tryz.func26, Tryz.ntmps26
  go_wp2_with fail
  go_ret
  exact ⟨by simp, rfl⟩
 ·have h1 : 1 ≤ m := by omega
  go_enter Tryz.func26, Tryz.ntmps26
  go_wp2_with fail
  go_ret
  exact ⟨by simpa using h, rfl⟩

theorem rd_no {x n mode : Int} (h : ¬ rok n mode) : rdV x n mode = 0 ∧ rdE x n mode = 1 := ⟨if_neg h, if_neg h⟩
theorem rd_yes {x n mode : Int} (h : rok n mode) : rdV x n mode = ifit (rd x n mode) ∧ rdE x n mode = if iin (rd x n mode) then 0 else 6 := ⟨if_pos h, if_pos h⟩
def DPost (x n mode : Int) (w : World) (e : Ending) (w' : World) : Prop := e = .returned (.tuple #[.int .i64 (rdV x n mode), .int .i64 (rdE x n mode)]) ∧ Below w.heap.size w w'
theorem dpost_no {x n mode : Int} {w w' : World} (h : ¬ rok n mode) (hb : Below w.heap.size w w') : DPost x n mode w (.returned (.tuple #[.int .i64 0, .int .i64 1])) w' := by
 unfold DPost; rw [(rd_no h).1, (rd_no h).2]; exact ⟨rfl, hb⟩
theorem dpost_in {x n mode : Int} {w w' : World} (h : rok n mode) (hi : iin (rd x n mode) = true) (hb : Below w.heap.size w w') : DPost x n mode w (.returned (.tuple #[.int .i64 (ifit (rd x n mode)), .int .i64 0])) w' := by
 unfold DPost; rw [(rd_yes h).1, (rd_yes h).2, hi]; exact ⟨rfl, hb⟩
theorem dpost_out {x n mode : Int} {w w' : World} (h : rok n mode) (hi : iin (rd x n mode) = false) (hb : Below w.heap.size w w') : DPost x n mode w (.returned (.tuple #[.int .i64 0, .int .i64 6])) w' := by
 have h2 : ifit (rd x n mode) = 0 := (int_no (fun h => by rw [show iin (rd x n mode) = true from decide_eq_true h] at hi; cases hi)).2.2.2.1
 unfold DPost; rw [(rd_yes h).1, (rd_yes h).2, hi, h2]; exact ⟨rfl, hb⟩

set_option maxHeartbeats 2000000 in
theorem rd_bad (x n mode : Int) (w : World) (h : ¬ rok n mode) : Calls Tryz.prog 82 #[.agg #[.int .i64 (hi x), .int .u64 (lo x)], .int .i64 n, .int .i64 mode] w (DPost x n mode w) := by
 have H := Lib.hid h
 have b0 := Below.refl w.heap.size w
 by_cases hn : n < 1
 ·clear h
  go_enter Tryz.func82, Tryz.ntmps82
  go_wp2_with fail
  go_ret2
  exact dpost_no H.out Bk.be
 ·have hm : mode < 1 ∨ 6 < mode := by unfold rok at h; omega
  have hn1 : 1 ≤ n := by omega
  clear h hn
  go_enter Tryz.func82, Tryz.ntmps82
  go_wp2_with fail
  refine (valid_no _ _ hm).mono ?_
  rintro e w' ⟨rfl, rfl⟩
  go_wp2_with fail
  go_ret2
  exact dpost_no H.out Bk.be

set_option maxHeartbeats 4000000 in
theorem rd_exact_walk (x n mode : Int) (w : World) (hx : I128 x) (hn : I64 n) (h : rok n mode) (hr : ¬ 0 < x % n) : Calls Tryz.prog 82 #[.agg #[.int .i64 (hi x), .int .u64 (lo x)], .int .i64 n, .int .i64 mode] w (DPost x n mode w) := by
 have H := Lib.hid h
 have HE := Lib.hid (rd_exact (mode := mode) hr)
 obtain ⟨n1, m1, m6⟩ := h
 have hd := fun W => div_any x n W hx hn
 rw [show dq x n = x / n from if_neg (by omega), show dr x n = x % n from if_neg (by omega), show de n = 0 from if_neg (by omega)] at hd
 have HD := Lib.hid hd
 have HI := Lib.hid (fun W => int_any (x / n) W)
 rw [← HE.out] at HD HI
 have hq : x % n ≤ 0 := by omega
 clear hd hx hn hr
 generalize x % n = r at *
 have b0 := Below.refl w.heap.size w
 cases hv : iin (rd x n mode)
 all_goals
  rw [hv] at HI
  have HV := Lib.hid hv
  clear hv
  generalize hq' : rd x n mode = q at HD HI
  have HQ := Lib.hid hq'
  clear hq'
  go_enter Tryz.func82, Tryz.ntmps82
  go_wp2_with fail
  refine (valid_yes _ _ m1 m6).mono ?_
  rintro e w' ⟨rfl, rfl⟩
  go_wp2_with fail
  refine (HD.out _).mono ?_
  rintro e w1 ⟨rfl, hb1⟩
  have b1 : Below w.heap.size w w1 := bl2 hb1 Bk.be
  have z1 := b1.size
  repeat (rename Bk.Blk w _ _ _ => hq; (first | (have hq' := Bk.Blk.carry hq hb1 (by (repeat (first | with_reducible refine Bk.Blk.drew ?_ | with_reducible refine Bk.Blk.set_same ?_ | with_reducible refine Bk.Blk.set_ne ?_ (by omega) | with_reducible refine Bk.Blk.alloc ?_)); (with_reducible exact hq))) | (have hq' := Bk.Blk.later hb1 (Bk.Blk.set2 hq)) | skip); clear hq)
  try (have hn := Bk.nx ((w).heap.size) hb1)
  try (have hn := Bk.nx ((w).heap.size + 1) hb1)
  try (have hn := Bk.nx ((w).heap.size + 2) hb1)
  try (have hn := Bk.nx ((w).heap.size + 3) hb1)
  clear hb1
  repeat (rename World.cell? w _ = _ => hq; clear hq)
  repeat (rename World.frozen? w _ = _ => hq; clear hq)
  repeat (rename Bk.Blk w1 _ _ _ => hq; (first | (have _k0 := (hq).c0; have _m0 := (hq).f0) | skip); (first | (have _k1 := (hq).c1; have _m1 := (hq).f1) | skip); (first | (have _k2 := (hq).c2; have _m2 := (hq).f2) | skip); (first | (have _k3 := (hq).c3; have _m3 := (hq).f3) | skip); have _z := (hq).lt; have hk := Bk.Kept.mk hq; clear hq)
  repeat (rename Bk.Kept (Bk.Blk w1 _ _ _) => hq; have hq' := hq.out; clear hq)
  go_wp2_with fail
  refine (HI.out _).mono ?_
  rintro e w2 ⟨rfl, hb2⟩
  have b2 : Below w.heap.size w w2 := bl2 hb2 Bk.be
  have z2 := b2.size
  repeat (rename Bk.Blk w1 _ _ _ => hq; (first | (have hq' := Bk.Blk.carry hq hb2 (by (repeat (first | with_reducible refine Bk.Blk.drew ?_ | with_reducible refine Bk.Blk.set_same ?_ | with_reducible refine Bk.Blk.set_ne ?_ (by omega) | with_reducible refine Bk.Blk.alloc ?_)); (with_reducible exact hq))) | (have hq' := Bk.Blk.later hb2 (Bk.Blk.set2 hq)) | skip); clear hq)
  try (have hn := Bk.nx ((w1).heap.size) hb2)
  try (have hn := Bk.nx ((w1).heap.size + 1) hb2)
  try (have hn := Bk.nx ((w1).heap.size + 2) hb2)
  try (have hn := Bk.nx ((w1).heap.size + 3) hb2)
  clear hb2
  repeat (rename World.cell? w1 _ = _ => hq; clear hq)
  repeat (rename World.frozen? w1 _ = _ => hq; clear hq)
  repeat (rename Bk.Blk w2 _ _ _ => hq; (first | (have _k0 := (hq).c0; have _m0 := (hq).f0) | skip); (first | (have _k1 := (hq).c1; have _m1 := (hq).f1) | skip); (first | (have _k2 := (hq).c2; have _m2 := (hq).f2) | skip); (first | (have _k3 := (hq).c3; have _m3 := (hq).f3) | skip); have _z := (hq).lt; have hk := Bk.Kept.mk hq; clear hq)
  repeat (rename Bk.Kept (Bk.Blk w2 _ _ _) => hq; have hq' := hq.out; clear hq)
  go_wp2_with fail
  go_ret2
  rw [← HQ.out]
  first | exact dpost_in H.out HV.out Bk.be | exact dpost_out H.out HV.out Bk.be

set_option maxHeartbeats 8000000 in
theorem rd_step_walk (x n mode : Int) (w : World) (hS : Stp w) (hx : I128 x) (hn : I64 n) (h : rok n mode) (hr : 0 < x % n) : Calls Tryz.prog 82 #[.agg #[.int .i64 (hi x), .int .u64 (lo x)], .int .i64 n, .int .i64 mode] w (DPost x n mode w) := by
 have H := Lib.hid h
 have hst := rd_step (mode := mode) hr
 obtain ⟨n1, m1, m6⟩ := h
 have hrn := Int.emod_lt_of_pos x (show 0 < n by omega)
 have hd := fun W => div_any x n W hx hn
 rw [show dq x n = x / n from if_neg (by omega), show dr x n = x % n from if_neg (by omega), show de n = 0 from if_neg (by omega)] at hd
 have hqb := quo_bd hx (show 0 < n by omega)
 have hM := fun (W : World) (hS : Stp W) => more_any (x / n) (x % n) n mode W hS hn.2 hr hrn m1 m6
 simp only [quo_sign n1] at hM
 have hmb := moreI_bd (decide (x < 0)) (decide (x / n % 2 = 1)) (x % n) n mode
 generalize moreI (decide (x < 0)) (decide (x / n % 2 = 1)) (x % n) n mode = m at *
 have ha := fun W => add_any (x / n) m W hqb (by unfold I128; omega)
 rw [← hst] at ha
 unfold WSum at ha
 rw [fit_in (rd_bd hx n1), ovf_in (rd_bd hx n1)] at ha
 have HD := Lib.hid hd
 have HM := Lib.hid hM
 have HA := Lib.hid ha
 have HO := Lib.hid (fun W => of_any m W (by unfold I64; omega))
 have HI := Lib.hid (fun W => int_any (rd x n mode) W)
 unfold I64 at hn
 clear hd hM ha hx hqb hst
 generalize x % n = r at *
 generalize x / n = q at *
 have b0 := Below.refl w.heap.size w
 cases hv : iin (rd x n mode)
 all_goals
  rw [hv] at HI
  have HV := Lib.hid hv
  clear hv
  generalize hq' : rd x n mode = p at HI HA
  have HQ := Lib.hid hq'
  clear hq'
  go_enter Tryz.func82, Tryz.ntmps82
  go_wp2_with fail
  refine (valid_yes _ _ m1 m6).mono ?_
  rintro e w' ⟨rfl, rfl⟩
  go_wp2_with fail
  refine (HD.out _).mono ?_
  rintro e w1 ⟨rfl, hb1⟩
  have b1 : Below w.heap.size w w1 := bl2 hb1 Bk.be
  have z1 := b1.size
  repeat (rename Bk.Blk w _ _ _ => hq; (first | (have hq' := Bk.Blk.carry hq hb1 (by (repeat (first | with_reducible refine Bk.Blk.drew ?_ | with_reducible refine Bk.Blk.set_same ?_ | with_reducible refine Bk.Blk.set_ne ?_ (by omega) | with_reducible refine Bk.Blk.alloc ?_)); (with_reducible exact hq))) | (have hq' := Bk.Blk.later hb1 (Bk.Blk.set2 hq)) | skip); clear hq)
  try (have hn := Bk.nx ((w).heap.size) hb1)
  try (have hn := Bk.nx ((w).heap.size + 1) hb1)
  try (have hn := Bk.nx ((w).heap.size + 2) hb1)
  try (have hn := Bk.nx ((w).heap.size + 3) hb1)
  clear hb1
  repeat (rename World.cell? w _ = _ => hq; clear hq)
  repeat (rename World.frozen? w _ = _ => hq; clear hq)
  repeat (rename Bk.Blk w1 _ _ _ => hq; (first | (have _k0 := (hq).c0; have _m0 := (hq).f0) | skip); (first | (have _k1 := (hq).c1; have _m1 := (hq).f1) | skip); (first | (have _k2 := (hq).c2; have _m2 := (hq).f2) | skip); (first | (have _k3 := (hq).c3; have _m3 := (hq).f3) | skip); have _z := (hq).lt; have hk := Bk.Kept.mk hq; clear hq)
  repeat (rename Bk.Kept (Bk.Blk w1 _ _ _) => hq; have hq' := hq.out; clear hq)
  go_wp2_with fail
  have hn := Bk.Blk.nw10 (W := w1) (cs := #[.int .i64 (hi q), .int .u64 (lo q)]) (t := 152)
  have hb2 : Below (w1).heap.size w1 ((w1).alloc (.cells #[.int .i64 (hi q), .int .u64 (lo q)] 152)) := (Below.refl _ _).alloc (Nat.le_refl _) _
  generalize (w1).alloc (.cells #[.int .i64 (hi q), .int .u64 (lo q)] 152) = w2 at *
  have b2 : Below w.heap.size w w2 := bl2 hb2 Bk.be
  have z2 := b2.size
  repeat (rename Bk.Blk w1 _ _ _ => hq; (first | (have hq' := Bk.Blk.carry hq hb2 (by (repeat (first | with_reducible refine Bk.Blk.drew ?_ | with_reducible refine Bk.Blk.set_same ?_ | with_reducible refine Bk.Blk.set_ne ?_ (by omega) | with_reducible refine Bk.Blk.alloc ?_)); (with_reducible exact hq))) | (have hq' := Bk.Blk.later hb2 (Bk.Blk.set2 hq)) | skip); clear hq)
  try (have hn := Bk.nx ((w1).heap.size) hb2)
  try (have hn := Bk.nx ((w1).heap.size + 1) hb2)
  try (have hn := Bk.nx ((w1).heap.size + 2) hb2)
  try (have hn := Bk.nx ((w1).heap.size + 3) hb2)
  clear hb2
  repeat (rename World.cell? w1 _ = _ => hq; clear hq)
  repeat (rename World.frozen? w1 _ = _ => hq; clear hq)
  repeat (rename Bk.Blk w2 _ _ _ => hq; (first | (have _k0 := (hq).c0; have _m0 := (hq).f0) | skip); (first | (have _k1 := (hq).c1; have _m1 := (hq).f1) | skip); (first | (have _k2 := (hq).c2; have _m2 := (hq).f2) | skip); (first | (have _k3 := (hq).c3; have _m3 := (hq).f3) | skip); have _z := (hq).lt; have hk := Bk.Kept.mk hq; clear hq)
  repeat (rename Bk.Kept (Bk.Blk w2 _ _ _) => hq; have hq' := hq.out; clear hq)
  repeat (rename Bk.Blk w2 _ _ _ => hq; (first | (have _q0 := (hq).q0) | skip); (first | (have _q1 := (hq).q1) | skip); (first | (have _q2 := (hq).q2) | skip); (first | (have _q3 := (hq).q3) | skip); have hk := Bk.Kept.mk hq; clear hq)
  repeat (rename Bk.Kept (Bk.Blk w2 _ _ _) => hq; have hq' := hq.out; clear hq)
  refine Reg.region_tail_e 11 [(10, 11)] (by kernel_rfl) (by kernel_rfl) (by kernel_rfl) (fun d _ _ _ _ h => by cases d <;> exact h) ?_
  simp only [Reg.edges, Reg.edge, List.take_succ_cons, List.take_zero]
  iterate 11 (first | go_big_quiet_skip | (go_big_quiet_want; (first | (go_big_quiet_op; go_big_quiet_on) | (apply Reg.quiet_run; (intro W hW; skip; go_simp; (first | done | rfl | exact ⟨rfl, rfl⟩ )); (simp only [Act.put, List.setIfInBounds_toArray, List.set_cons_zero, List.set_cons_succ]; go_big_quiet_on)) | (apply Reg.quiet_call; (intro W hW; go_simp; (first | done | rfl | exact ⟨rfl, rfl⟩)); (intro W hW; (first  | (go_at_call 123; exact Reg.cls_call hW (HM.out _ (hS.of (bl2 hW b2)))) | (go_at_call 122; exact Reg.cls_call hW (HO.out _)) | (go_at_call 121; exact Reg.cls_call hW (HA.out _)))); (simp only [Act.put, List.setIfInBounds_toArray, List.set_cons_zero, List.set_cons_succ]; go_big_quiet_on)))))
  repeat (rename ∀ W', Reg.Cls w2 W' → _ => hq; clear hq)
  refine wpQuiet_nil ?_
  intro w3 hW
  have hb3 : Below (w2).heap.size w2 w3 := hW
  clear hW
  have b3 : Below w.heap.size w w3 := bl2 hb3 Bk.be
  have z3 := b3.size
  repeat (rename Bk.Blk w2 _ _ _ => hq; (first | (have hq' := Bk.Blk.carry hq hb3 (by (repeat (first | with_reducible refine Bk.Blk.drew ?_ | with_reducible refine Bk.Blk.set_same ?_ | with_reducible refine Bk.Blk.set_ne ?_ (by omega) | with_reducible refine Bk.Blk.alloc ?_)); (with_reducible exact hq))) | (have hq' := Bk.Blk.later hb3 (Bk.Blk.set2 hq)) | skip); clear hq)
  try (have hn := Bk.nx ((w2).heap.size) hb3)
  try (have hn := Bk.nx ((w2).heap.size + 1) hb3)
  try (have hn := Bk.nx ((w2).heap.size + 2) hb3)
  try (have hn := Bk.nx ((w2).heap.size + 3) hb3)
  clear hb3
  repeat (rename World.cell? w2 _ = _ => hq; clear hq)
  repeat (rename World.frozen? w2 _ = _ => hq; clear hq)
  repeat (rename Bk.Blk w3 _ _ _ => hq; (first | (have _k0 := (hq).c0; have _m0 := (hq).f0) | skip); (first | (have _k1 := (hq).c1; have _m1 := (hq).f1) | skip); (first | (have _k2 := (hq).c2; have _m2 := (hq).f2) | skip); (first | (have _k3 := (hq).c3; have _m3 := (hq).f3) | skip); have _z := (hq).lt; have hk := Bk.Kept.mk hq; clear hq)
  repeat (rename Bk.Kept (Bk.Blk w3 _ _ _) => hq; have hq' := hq.out; clear hq)
  simp only [List.drop_succ_cons, List.drop_zero]
  go_wp2_with fail
  refine (HI.out _).mono ?_
  rintro e w4 ⟨rfl, hb4⟩
  have b4 : Below w.heap.size w w4 := bl2 hb4 Bk.be
  have z4 := b4.size
  repeat (rename Bk.Blk w3 _ _ _ => hq; (first | (have hq' := Bk.Blk.carry hq hb4 (by (repeat (first | with_reducible refine Bk.Blk.drew ?_ | with_reducible refine Bk.Blk.set_same ?_ | with_reducible refine Bk.Blk.set_ne ?_ (by omega) | with_reducible refine Bk.Blk.alloc ?_)); (with_reducible exact hq))) | (have hq' := Bk.Blk.later hb4 (Bk.Blk.set2 hq)) | skip); clear hq)
  try (have hn := Bk.nx ((w3).heap.size) hb4)
  try (have hn := Bk.nx ((w3).heap.size + 1) hb4)
  try (have hn := Bk.nx ((w3).heap.size + 2) hb4)
  try (have hn := Bk.nx ((w3).heap.size + 3) hb4)
  clear hb4
  repeat (rename World.cell? w3 _ = _ => hq; clear hq)
  repeat (rename World.frozen? w3 _ = _ => hq; clear hq)
  repeat (rename Bk.Blk w4 _ _ _ => hq; (first | (have _k0 := (hq).c0; have _m0 := (hq).f0) | skip); (first | (have _k1 := (hq).c1; have _m1 := (hq).f1) | skip); (first | (have _k2 := (hq).c2; have _m2 := (hq).f2) | skip); (first | (have _k3 := (hq).c3; have _m3 := (hq).f3) | skip); have _z := (hq).lt; have hk := Bk.Kept.mk hq; clear hq)
  repeat (rename Bk.Kept (Bk.Blk w4 _ _ _) => hq; have hq' := hq.out; clear hq)
  go_wp2_with fail
  go_ret2
  rw [← HQ.out]
  first | exact dpost_in H.out HV.out Bk.be | exact dpost_out H.out HV.out Bk.be
theorem rd_any (x n mode : Int) (w : World) (hS : Stp w) (hx : I128 x) (hn : I64 n) : Calls Tryz.prog 82 #[.agg #[.int .i64 (hi x), .int .u64 (lo x)], .int .i64 n, .int .i64 mode] w (DPost x n mode w) := by
 by_cases h : rok n mode
 ·by_cases hr : 0 < x % n
  ·exact rd_step_walk x n mode w hS hx hn h hr
  ·exact rd_exact_walk x n mode w hx hn h hr
 ·exact rd_bad x n mode w h

def gd (a : Int) : Prop := -1000000000000 ≤ a ∧ a ≤ 1000000000000
instance (a : Int) : Decidable (gd a) := by unfold gd; exact inferInstance
theorem rd_near {x n mode : Int} (hn : 1 ≤ n) : -n < x - rd x n mode * n ∧ x - rd x n mode * n < n := by
 have h1 := Int.mul_ediv_add_emod x n
 have h2 := Int.emod_lt_of_pos x (show 0 < n by omega)
 have h3 := Int.emod_nonneg x (show n ≠ 0 by omega)
 rw [Int.mul_comm] at h1
 by_cases hr : 0 < x % n
 ·rw [rd_step hr]
  have h4 := moreI_bd (decide (x < 0)) (decide (x / n % 2 = 1)) (x % n) n mode
  generalize moreI (decide (x < 0)) (decide (x / n % 2 = 1)) (x % n) n mode = m at *
  rw [Int.add_mul]
  have : m = 0 ∨ m = 1 := by omega
  rcases this with rfl | rfl <;> omega
 ·rw [rd_exact hr]
  omega
def amE (g m : Int) : Int := if rdE g 1603080000000 m ≠ 0 then rdE g 1603080000000 m else if gd (rdV g 1603080000000 m) then 0 else 6
def amV (g m : Int) : Int := if amE g m = 0 then rdV g 1603080000000 m else 0
def amR (g m : Int) : Int := if amE g m = 0 then g - rdV g 1603080000000 m * 1603080000000 else 0
theorem rdE_0 {x n m : Int} (h : rdE x n m = 0) : rok n m ∧ rdV x n m = rd x n m ∧ I64 (rd x n m) := by
 by_cases hk : rok n m
 ·rw [(rd_yes hk).2] at h
  have hi : iin (rd x n m) = true := by
   cases hv : iin (rd x n m)
   ·rw [hv] at h; simp at h
   ·rfl
  have hi' : I64 (rd x n m) := of_decide_eq_true hi
  exact ⟨hk, by rw [(rd_yes hk).1]; exact if_pos hi', hi'⟩
 ·rw [(rd_no hk).2] at h; omega
def APost (g m : Int) (w : World) (e : Ending) (w' : World) : Prop := e = .returned (.tuple #[.int .i64 (amV g m), .agg #[.int .i64 (hi (amR g m)), .int .u64 (lo (amR g m))], .int .i64 (amE g m)]) ∧ Below w.heap.size w w'
noncomputable def pcV (a p m : Int) : Int := if gd a ∧ 0 ≤ p ∧ p ≤ 1000000 then rdV (a * p) 1000000 m else 0
noncomputable def pcE (a p m : Int) : Int := if gd a ∧ 0 ≤ p ∧ p ≤ 1000000 then rdE (a * p) 1000000 m else 1
def PPost (a p m : Int) (w : World) (e : Ending) (w' : World) : Prop := e = .returned (.tuple #[.int .i64 (pcV a p m), .int .i64 (pcE a p m)]) ∧ Below w.heap.size w w'
theorem ppost_no {a p m : Int} {w w' : World} (h : ¬ (gd a ∧ 0 ≤ p ∧ p ≤ 1000000) ∨ ¬ (1 ≤ m ∧ m ≤ 6)) (hb : Below w.heap.size w w') : PPost a p m w (.returned (.tuple #[.int .i64 0, .int .i64 1])) w' := by
 unfold PPost pcV pcE
 rcases h with h | h
 ·rw [if_neg h, if_neg h]; exact ⟨rfl, hb⟩
 ·have hk : ¬ rok 1000000 m := fun hk => h hk.2
  rw [(rd_no (x := a * p) hk).1, (rd_no (x := a * p) hk).2]
  split <;> exact ⟨rfl, hb⟩
theorem ppost_yes {a p m : Int} {w w' : World} (h : gd a ∧ 0 ≤ p ∧ p ≤ 1000000) (hb : Below w.heap.size w w') : PPost a p m w (.returned (.tuple #[.int .i64 (rdV (a * p) 1000000 m), .int .i64 (rdE (a * p) 1000000 m)])) w' := by
 unfold PPost pcV pcE
 rw [if_pos h, if_pos h]; exact ⟨rfl, hb⟩
def stOk (a s m : Int) : Prop := gd a ∧ 1 ≤ s ∧ s ≤ 1000000000000 ∧ 1 ≤ m ∧ m ≤ 6
instance (a s m : Int) : Decidable (stOk a s m) := by unfold stOk; exact inferInstance
def stE (a s m : Int) : Int := if stOk a s m then (if gd (rd a s m * s) then 0 else 6) else 1
def stV (a s m : Int) : Int := if stE a s m = 0 then rd a s m * s else 0
def SPost (a s m : Int) (w : World) (e : Ending) (w' : World) : Prop := e = .returned (.tuple #[.int .i64 (stV a s m), .int .i64 (stE a s m)]) ∧ Below w.heap.size w w'
theorem good_yes (a : Int) (w : World) (h : gd a) : Calls Tryz.prog 80 #[.int .i64 a] w fun e w' => e = .returned (.bool true) ∧ w = w' := by
 obtain ⟨h1, h2⟩ := h
 go_enter Tryz.func80, Tryz.ntmps80
 go_wp2_with fail
 go_ret
 exact ⟨by simp, rfl⟩
theorem good_no (a : Int) (w : World) (h : ¬ gd a) : Calls Tryz.prog 80 #[.int .i64 a] w fun e w' => e = .returned (.bool false) ∧ w = w' := by
 unfold gd at h
 by_cases h1 : a < -1000000000000
 ·clear h
  go_enter Tryz.func80, Tryz.ntmps80
  go_wp2_with fail
  go_ret
  exact ⟨by simp, rfl⟩
 ·have h2 : -1000000000000 ≤ a := by omega
  have h3 : 1000000000000 < a := by omega
  clear h h1
  go_enter Tryz.func80, Tryz.ntmps80
  go_wp2_with fail
  go_ret
  exact ⟨by simpa using h3, rfl⟩

set_option maxHeartbeats 4000000 in
theorem percent_any (a p m : Int) (w : World) (hS : Stp w) (ha : I64 a) (hp : I64 p) : Calls Tryz.prog 49 #[.int .i64 a, .int .i64 p, .int .i64 m] w (PPost a p m w) := by
 have b0 := Below.refl w.heap.size w
 by_cases hg : gd a
 ·have HG := Lib.hid hg
  by_cases p0 : 0 ≤ p
  ·by_cases p1 : p ≤ 1000000
   ·have HY := Lib.hid (show gd a ∧ 0 ≤ p ∧ p ≤ 1000000 from ⟨hg, p0, p1⟩)
    have hd := fun (W : World) (hS : Stp W) => rd_any (a * p) 1000000 m W hS (mul_bd ha hp).1 (by unfold I64; omega)
    unfold DPost at hd
    have HD := Lib.hid hd
    have HM := Lib.hid (fun W => mul_any a p W ha hp)
    clear hd hg
    generalize hz : a * p = z at HM HD
    have HZ := Lib.hid hz
    clear hz
    by_cases hm : 1 ≤ m ∧ m ≤ 6
    ·obtain ⟨m1, m6⟩ := hm
     go_enter Tryz.func49, Tryz.ntmps49
     go_wp2_with fail
     refine (good_yes _ _ HG.out).mono ?_
     rintro e w' ⟨rfl, rfl⟩
     go_wp2_with fail
     refine (valid_yes _ _ m1 m6).mono ?_
     rintro e w' ⟨rfl, rfl⟩
     go_wp2_with fail
     refine (HM.out _).mono ?_
     rintro e w1 ⟨rfl, hb1⟩
     have b1 : Below w.heap.size w w1 := bl2 hb1 Bk.be
     have z1 := b1.size
     repeat (rename Bk.Blk w _ _ _ => hq; (first | (have hq' := Bk.Blk.carry hq hb1 (by (repeat (first | with_reducible refine Bk.Blk.drew ?_ | with_reducible refine Bk.Blk.set_same ?_ | with_reducible refine Bk.Blk.set_ne ?_ (by omega) | with_reducible refine Bk.Blk.alloc ?_)); (with_reducible exact hq))) | (have hq' := Bk.Blk.later hb1 (Bk.Blk.set2 hq)) | skip); clear hq)
     try (have hn := Bk.nx ((w).heap.size) hb1)
     try (have hn := Bk.nx ((w).heap.size + 1) hb1)
     try (have hn := Bk.nx ((w).heap.size + 2) hb1)
     try (have hn := Bk.nx ((w).heap.size + 3) hb1)
     clear hb1
     repeat (rename World.cell? w _ = _ => hq; clear hq)
     repeat (rename World.frozen? w _ = _ => hq; clear hq)
     repeat (rename Bk.Blk w1 _ _ _ => hq; (first | (have _k0 := (hq).c0; have _m0 := (hq).f0) | skip); (first | (have _k1 := (hq).c1; have _m1 := (hq).f1) | skip); (first | (have _k2 := (hq).c2; have _m2 := (hq).f2) | skip); (first | (have _k3 := (hq).c3; have _m3 := (hq).f3) | skip); have _z := (hq).lt; have hk := Bk.Kept.mk hq; clear hq)
     repeat (rename Bk.Kept (Bk.Blk w1 _ _ _) => hq; have hq' := hq.out; clear hq)
     go_wp2_with fail
     refine (HD.out _ (hS.of Bk.be)).mono ?_
     rintro e w2 ⟨rfl, hb2⟩
     have b2 : Below w.heap.size w w2 := bl2 hb2 Bk.be
     have z2 := b2.size
     repeat (rename Bk.Blk w1 _ _ _ => hq; (first | (have hq' := Bk.Blk.carry hq hb2 (by (repeat (first | with_reducible refine Bk.Blk.drew ?_ | with_reducible refine Bk.Blk.set_same ?_ | with_reducible refine Bk.Blk.set_ne ?_ (by omega) | with_reducible refine Bk.Blk.alloc ?_)); (with_reducible exact hq))) | (have hq' := Bk.Blk.later hb2 (Bk.Blk.set2 hq)) | skip); clear hq)
     try (have hn := Bk.nx ((w1).heap.size) hb2)
     try (have hn := Bk.nx ((w1).heap.size + 1) hb2)
     try (have hn := Bk.nx ((w1).heap.size + 2) hb2)
     try (have hn := Bk.nx ((w1).heap.size + 3) hb2)
     clear hb2
     repeat (rename World.cell? w1 _ = _ => hq; clear hq)
     repeat (rename World.frozen? w1 _ = _ => hq; clear hq)
     repeat (rename Bk.Blk w2 _ _ _ => hq; (first | (have _k0 := (hq).c0; have _m0 := (hq).f0) | skip); (first | (have _k1 := (hq).c1; have _m1 := (hq).f1) | skip); (first | (have _k2 := (hq).c2; have _m2 := (hq).f2) | skip); (first | (have _k3 := (hq).c3; have _m3 := (hq).f3) | skip); have _z := (hq).lt; have hk := Bk.Kept.mk hq; clear hq)
     repeat (rename Bk.Kept (Bk.Blk w2 _ _ _) => hq; have hq' := hq.out; clear hq)
     go_wp2_with fail
     go_ret2
     rw [← HZ.out]
     exact ppost_yes HY.out Bk.be
    ·have HN := Lib.hid hm
     have hm' : m < 1 ∨ 6 < m := by omega
     clear hm
     go_enter Tryz.func49, Tryz.ntmps49
     go_wp2_with fail
     refine (good_yes _ _ HG.out).mono ?_
     rintro e w' ⟨rfl, rfl⟩
     go_wp2_with fail
     refine (valid_no _ _ hm').mono ?_
     rintro e w' ⟨rfl, rfl⟩
     go_wp2_with fail
     go_ret2
     exact ppost_no (.inr HN.out) Bk.be
   ·have HN := Lib.hid (show ¬ (gd a ∧ 0 ≤ p ∧ p ≤ 1000000) by omega)
    have p2 : 1000000 < p := by omega
    clear hg p1
    go_enter Tryz.func49, Tryz.ntmps49
    go_wp2_with fail
    refine (good_yes _ _ HG.out).mono ?_
    rintro e w' ⟨rfl, rfl⟩
    go_wp2_with fail
    go_ret2
    exact ppost_no (.inl HN.out) Bk.be
  ·have HN := Lib.hid (show ¬ (gd a ∧ 0 ≤ p ∧ p ≤ 1000000) by omega)
   have p2 : p < 0 := by omega
   clear hg p0
   go_enter Tryz.func49, Tryz.ntmps49
   go_wp2_with fail
   refine (good_yes _ _ HG.out).mono ?_
   rintro e w' ⟨rfl, rfl⟩
   go_wp2_with fail
   go_ret2
   exact ppost_no (.inl HN.out) Bk.be
 ·have HN := Lib.hid (show ¬ (gd a ∧ 0 ≤ p ∧ p ≤ 1000000) from fun h => hg h.1)
  have HG := Lib.hid hg
  clear hg
  go_enter Tryz.func49, Tryz.ntmps49
  go_wp2_with fail
  refine (good_no _ _ HG.out).mono ?_
  rintro e w' ⟨rfl, rfl⟩
  go_wp2_with fail
  go_ret2
  exact ppost_no (.inl HN.out) Bk.be
end Go.Proofs.YtlolflephnbbcaaGreatDoor.Rd
namespace Go.Proofs.YtlolflephnbbcaaGreatDoor.An
open Go.Proofs.YtlolflephnbbcaaGreatDoor.Wm
open Go.Proofs.YtlolflephnbbcaaGreatDoor.Wt
open Go.Proofs.YtlolflephnbbcaaGreatDoor.Rd

def Ok (p ppm ev m : Int) : Prop := (0 ≤ p ∧ p ≤ 1000000000000) ∧ (0 ≤ ppm ∧ ppm ≤ 1000000) ∧ (1 ≤ ev ∧ ev ≤ 12) ∧ (1 ≤ m ∧ m ≤ 6)
instance (p ppm ev m : Int) : Decidable (Ok p ppm ev m) := by unfold Ok; exact inferInstance
def Rate (c : Int) : Prop := 0 ≤ c ∧ c ≤ 12000000
theorem Ok.rate {p ppm ev m : Int} (h : Ok p ppm ev m) : Rate (ppm * ev) := by
 obtain ⟨_, ⟨a, b⟩, ⟨c, d⟩, _⟩ := h
 have h1 : 0 ≤ ppm * ev := Int.mul_nonneg a (by omega)
 have h2 : ppm * ev ≤ 1000000 * 12 := Int.mul_le_mul b d (by omega) (by omega)
 exact ⟨h1, by omega⟩
def intr (c m p : Int) : Int := rd (p * c) 12000000 m
theorem prod_bd {c p : Int} (hc : Rate c) (h0 : 0 ≤ p) (h1 : p ≤ 1000000000000) : 0 ≤ p * c ∧ p * c ≤ 12000000000000000000 := by
 have a : 0 ≤ p * c := Int.mul_nonneg h0 hc.1
 have b : p * c ≤ 1000000000000 * 12000000 := Int.mul_le_mul h1 hc.2 hc.1 (by omega)
 exact ⟨a, by omega⟩
theorem rd_lo {x n m : Int} (_ : 0 ≤ x) (_ : 1 ≤ n) : x / n ≤ rd x n m ∧ rd x n m ≤ x / n + 1 ∧ (x % n = 0 → rd x n m = x / n) := by
 unfold rd
 have h := moreI_bd (decide (x < 0)) (decide (x / n % 2 = 1)) (x % n) n m
 split
 ·exact ⟨by omega, by omega, fun e => by omega⟩
 ·exact ⟨by omega, by omega, fun _ => by omega⟩
theorem upB_mono {odd : Bool} {r r' n m : Int} (h : r ≤ r') (h1 : upB false odd r n m = true) : upB false odd r' n m = true := by
 unfold upB at *
 split at h1
 ·cases h1
 ·rename_i m1
  rw [if_neg m1]
  split at h1
  ·rename_i m2; rw [if_pos m2]; rfl
  ·rename_i m2
   rw [if_neg m2]
   split at h1
   ·cases h1
   ·rename_i m3
    rw [if_neg m3]
    split at h1
    ·rename_i m4; rw [if_pos m4]
    ·rename_i m4
     rw [if_neg m4]
     split at h1
     ·rename_i e
      by_cases e' : r' = n - r'
      ·rw [if_pos e']
       exact h1
      ·rw [if_neg e']
       exact decide_eq_true (by omega)
     ·have := of_decide_eq_true h1
      rw [if_neg (by omega)]
      exact decide_eq_true (by omega)
theorem rd_mono {x y n m : Int} (hx : 0 ≤ x) (hxy : x ≤ y) (hn : 1 ≤ n) : rd x n m ≤ rd y n m := by
 have hy : 0 ≤ y := by omega
 have a := rd_lo (m := m) hx hn
 have b := rd_lo (m := m) hy hn
 have hq : x / n ≤ y / n := Int.ediv_le_ediv (by omega) hxy
 by_cases he : x / n = y / n
 ·have e1 := Int.mul_ediv_add_emod x n
  have e2 := Int.mul_ediv_add_emod y n
  rw [he] at e1
  by_cases h0 : x % n = 0
  ·have := a.2.2 h0; omega
  ·have h3 := Int.emod_nonneg x (show n ≠ 0 by omega)
   rw [rd_step (show 0 < x % n by omega), rd_step (show 0 < y % n by omega), he, decide_eq_false (show ¬ x < 0 by omega), decide_eq_false (show ¬ y < 0 by omega)]
   unfold moreI
   by_cases hu : upB false (decide (y / n % 2 = 1)) (x % n) n m = true
   ·rw [if_pos hu, if_pos (upB_mono (by omega) hu)]; omega
   ·rw [if_neg hu]; split <;> omega
 ·omega
theorem intr_bd {c m p : Int} (hc : Rate c) (h0 : 0 ≤ p) (h1 : p ≤ 1000000000000) : 0 ≤ intr c m p ∧ intr c m p ≤ 1000000000000 := by
 obtain ⟨a, b⟩ := prod_bd hc h0 h1
 have h := rd_lo (n := 12000000) (m := m) a (by omega)
 unfold intr
 omega
theorem intr_mono {c m p q : Int} (hc : Rate c) (h0 : 0 ≤ p) (h : p ≤ q) : intr c m p ≤ intr c m q :=
 rd_mono (Int.mul_nonneg h0 hc.1) (Int.mul_le_mul_of_nonneg_right h hc.1) (by omega)

def stepA (c m pay p : Int) : Int := if p + intr c m p - pay < 0 then 0 else p + intr c m p - pay
theorem stepA_bd {c m pay p : Int} (hc : Rate c) (hp : 0 ≤ pay) (h0 : 0 ≤ p) (h1 : p ≤ 1000000000000) : 0 ≤ stepA c m pay p ∧ stepA c m pay p ≤ 2000000000000 := by
 have := intr_bd (m := m) hc h0 h1
 unfold stepA; split <;> omega
theorem stepA_mono {c m pay pay' p q : Int} (hc : Rate c) (h0 : 0 ≤ p) (h : p ≤ q) (hp : pay' ≤ pay) : stepA c m pay p ≤ stepA c m pay' q := by
 have := intr_mono (m := m) hc h0 h
 unfold stepA; split <;> split <;> omega
def restA (c m pay : Int) : Nat → Int → Option Int
 | 0, p => some p
 | k + 1, p => if 1000000000000 < stepA c m pay p then none else restA c m pay k (stepA c m pay p)
theorem restA_add {c m pay : Int} : ∀ (k j : Nat) (p : Int), restA c m pay (k + j) p = (restA c m pay k p).bind (restA c m pay j)
 | 0, j, p => by rw [Nat.zero_add]; rfl
 | k + 1, j, p => by
  rw [show k + 1 + j = (k + j) + 1 by omega]
  unfold restA
  split
  ·rfl
  ·exact restA_add k j _
theorem restA_mono {c m pay pay' : Int} (hc : Rate c) (h0 : 0 ≤ pay') (hp : pay' ≤ pay) : ∀ (k : Nat) (p q n : Int), 0 ≤ p → p ≤ q → q ≤ 1000000000000 → restA c m pay' k q = some n → ∃ l, restA c m pay k p = some l ∧ l ≤ n
 | 0, p, q, n, a, b, d, h => by cases h; exact ⟨p, rfl, b⟩
 | k + 1, p, q, n, a, b, d, h => by
  unfold restA at h ⊢
  have s := stepA_mono (m := m) hc a b hp
  split at h
  ·cases h
  ·rw [if_neg (by omega)]
   exact restA_mono hc h0 hp k _ _ n (stepA_bd hc (by omega) a (by omega)).1 s (by omega) h
def enough (c m : Int) (k : Nat) (p bal pay : Int) : Bool := match restA c m pay k p with
 | none => false
 | some n => decide (n ≤ bal)
theorem enough_mono {c m p bal pay pay' : Int} {k : Nat} (hc : Rate c) (h0 : 0 ≤ p) (h1 : p ≤ 1000000000000) (hp0 : 0 ≤ pay') (hp : pay' ≤ pay) (h : enough c m k p bal pay' = true) : enough c m k p bal pay = true := by
 unfold enough at *
 cases hr : restA c m pay' k p with
 | none => rw [hr] at h; cases h
 | some n =>
  rw [hr] at h
  obtain ⟨l, e, hl⟩ := restA_mono hc hp0 hp k p p n h0 (by omega) h1 hr
  rw [e]
  have := of_decide_eq_true h
  exact decide_eq_true (by omega)
def Least (c m : Int) (k : Nat) (p bal x : Int) : Prop := (0 ≤ x ∧ x ≤ 1000000000000) ∧ enough c m k p bal x = true ∧ ∀ y, 0 ≤ y → y < x → enough c m k p bal y = false
theorem Least.unique {c m p bal x y : Int} {k : Nat} (hx : Least c m k p bal x) (hy : Least c m k p bal y) : x = y := by
 obtain ⟨⟨a, _⟩, b, d⟩ := hx
 obtain ⟨⟨a', _⟩, b', d'⟩ := hy
 rcases Classical.em (x = y) with h | h
 ·exact h
 ·rcases Classical.em (x < y) with h' | h'
  ·rw [d' x a h'] at b; cases b
  ·rw [d y a' (by omega)] at b'; cases b'
structure PayRel (c m : Int) (k : Nat) (p bal lo hi : Int) : Prop where
 l0 : 0 ≤ lo
 lh : lo ≤ hi
 below : ∀ y, 0 ≤ y → y < lo → enough c m k p bal y = false
theorem PayRel.up {c m p bal lo hi mid : Int} {k : Nat} (hc : Rate c) (h0 : 0 ≤ p) (h1 : p ≤ 1000000000000) (h : PayRel c m k p bal lo hi) (h2 : lo ≤ mid) (h3 : mid < hi) (he : enough c m k p bal mid = false) : PayRel c m k p bal (mid + 1) hi :=
 ⟨by have := h.l0; omega, by omega, fun y y0 hy => by
  cases hh : enough c m k p bal y
  ·rfl
  ·rw [enough_mono hc h0 h1 y0 (by omega) hh] at he; cases he⟩
theorem PayRel.down {c m p bal lo hi mid : Int} {k : Nat} (h : PayRel c m k p bal lo hi) (h2 : lo ≤ mid) : PayRel c m k p bal lo mid := ⟨h.l0, h2, h.below⟩
end Go.Proofs.YtlolflephnbbcaaGreatDoor.An
