/-
 The contracts of package rounding's more, and of the reference's up; the table that more reads.
-/
import Derived.Test.YtaanicginfjgdaaGreatDoorRf
import Derived.Test.YtaanicginfjgdaaGreatDoorBa
namespace Go.Proofs.YtaanicginfjgdaaGreatDoor.Rd
open Go.RowKit
open Go.Proofs.YtaanicginfjgdaaGreatDoor
open Go.Proofs.YtaanicginfjgdaaGreatDoor.Wm Go.Proofs.YtaanicginfjgdaaGreatDoor.Wt

structure Stp (W : World) : Prop where
 c2 : W.cell? ⟨0, 2, none⟩ = some (.int .i64 1)
 c3 : W.cell? ⟨0, 3, none⟩ = some (.int .i64 0)
 c4 : W.cell? ⟨0, 4, none⟩ = some (.int .i64 0)
 c5 : W.cell? ⟨0, 5, none⟩ = some (.int .i64 1)
 c6 : W.cell? ⟨0, 6, none⟩ = some (.int .i64 0)
 c7 : W.cell? ⟨0, 7, none⟩ = some (.int .i64 0)
 c8 : W.cell? ⟨0, 8, none⟩ = some (.int .i64 1)
 c9 : W.cell? ⟨0, 9, none⟩ = some (.int .i64 1)
theorem Stp.lt {W : World} (h : Stp W) : 0 < W.heap.size := World.block_lt_of_cell? _ _ h.c2
theorem Stp.of {W w1 : World} (h : Stp W) (hb : Below W.heap.size W w1) : Stp w1 :=
 ⟨cell_later hb h.c2, cell_later hb h.c3, cell_later hb h.c4, cell_later hb h.c5, cell_later hb h.c6, cell_later hb h.c7, cell_later hb h.c8, cell_later hb h.c9⟩

theorem and_one {x : Int} (h : U64 x) : bits .and .u64 x 1 = x % 2 := by
 obtain ⟨h0, h1⟩ := h
 obtain ⟨n, rfl⟩ := Int.eq_ofNat_of_zero_le h0
 show IntKind.u64.wrap ((BitVec.ofInt 64 (n : Int) &&& BitVec.ofInt 64 1).toNat : Int) = _
 rw [IntKind.wrap_u64, BitVec.toNat_and, BitVec.toNat_ofInt, BitVec.toNat_ofInt]
 rw [show ((1 : Int) % ((2 ^ 64 : Nat) : Int)).toNat = 1 from rfl, Nat.and_one_is_mod]
 simp only [show (2 ^ 64 : Nat) = 18446744073709551616 from rfl]
 omega

theorem more_1 (q r n : Int) (w : World) (hS : Stp w) : Calls Tryz.prog 81 #[.agg #[.int .i64 (hi q), .int .u64 (lo q)], .int .i64 r, .int .i64 n, .int .i64 1] w fun e w' => e = .returned (.int .i64 (moreI (decide (q < 0)) (decide (q % 2 = 1)) r n 1)) ∧ Below w.heap.size w w' := by
 have hlt := hS.lt
 have hneg := hi_neg q
 have b0 := Below.refl w.heap.size w
 have k2 := hS.c2
 have k3 := hS.c3
 by_cases h : q < 0
 ·have hh := hneg.2 h
  have HV := Lib.hid (show moreI (decide (q < 0)) (decide (q % 2 = 1)) r n 1 = 1 by unfold moreI upB; simp [h])
  clear hneg h hS
  go_enter Tryz.func81, Tryz.ntmps81
  go_wp2_with fail
  go_ret
  exact ⟨(by rw [HV.out]; rfl), Bk.be⟩
 ·have hh : 0 ≤ hi q := by omega
  have HV := Lib.hid (show moreI (decide (q < 0)) (decide (q % 2 = 1)) r n 1 = 0 by unfold moreI upB; simp [h])
  clear hneg h hS
  go_enter Tryz.func81, Tryz.ntmps81
  go_wp2_with fail
  go_ret
  exact ⟨(by rw [HV.out]; rfl), Bk.be⟩
theorem more_2 (q r n : Int) (w : World) (hS : Stp w) : Calls Tryz.prog 81 #[.agg #[.int .i64 (hi q), .int .u64 (lo q)], .int .i64 r, .int .i64 n, .int .i64 2] w fun e w' => e = .returned (.int .i64 (moreI (decide (q < 0)) (decide (q % 2 = 1)) r n 2)) ∧ Below w.heap.size w w' := by
 have hlt := hS.lt
 have hneg := hi_neg q
 have b0 := Below.refl w.heap.size w
 have k2 := hS.c4
 have k3 := hS.c5
 by_cases h : q < 0
 ·have hh := hneg.2 h
  have HV := Lib.hid (show moreI (decide (q < 0)) (decide (q % 2 = 1)) r n 2 = 0 by unfold moreI upB; simp [h])
  clear hneg h hS
  go_enter Tryz.func81, Tryz.ntmps81
  go_wp2_with fail
  go_ret
  exact ⟨(by rw [HV.out]; rfl), Bk.be⟩
 ·have hh : 0 ≤ hi q := by omega
  have HV := Lib.hid (show moreI (decide (q < 0)) (decide (q % 2 = 1)) r n 2 = 1 by unfold moreI upB; simp [h])
  clear hneg h hS
  go_enter Tryz.func81, Tryz.ntmps81
  go_wp2_with fail
  go_ret
  exact ⟨(by rw [HV.out]; rfl), Bk.be⟩
theorem more_3 (q r n : Int) (w : World) (hS : Stp w) : Calls Tryz.prog 81 #[.agg #[.int .i64 (hi q), .int .u64 (lo q)], .int .i64 r, .int .i64 n, .int .i64 3] w fun e w' => e = .returned (.int .i64 (moreI (decide (q < 0)) (decide (q % 2 = 1)) r n 3)) ∧ Below w.heap.size w w' := by
 have hlt := hS.lt
 have hneg := hi_neg q
 have b0 := Below.refl w.heap.size w
 have k2 := hS.c6
 have k3 := hS.c7
 by_cases h : q < 0
 ·have hh := hneg.2 h
  have HV := Lib.hid (show moreI (decide (q < 0)) (decide (q % 2 = 1)) r n 3 = 0 by unfold moreI upB; simp)
  clear hneg h hS
  go_enter Tryz.func81, Tryz.ntmps81
  go_wp2_with fail
  go_ret
  exact ⟨(by rw [HV.out]; rfl), Bk.be⟩
 ·have hh : 0 ≤ hi q := by omega
  have HV := Lib.hid (show moreI (decide (q < 0)) (decide (q % 2 = 1)) r n 3 = 0 by unfold moreI upB; simp)
  clear hneg h hS
  go_enter Tryz.func81, Tryz.ntmps81
  go_wp2_with fail
  go_ret
  exact ⟨(by rw [HV.out]; rfl), Bk.be⟩
theorem more_4 (q r n : Int) (w : World) (hS : Stp w) : Calls Tryz.prog 81 #[.agg #[.int .i64 (hi q), .int .u64 (lo q)], .int .i64 r, .int .i64 n, .int .i64 4] w fun e w' => e = .returned (.int .i64 (moreI (decide (q < 0)) (decide (q % 2 = 1)) r n 4)) ∧ Below w.heap.size w w' := by
 have hlt := hS.lt
 have hneg := hi_neg q
 have b0 := Below.refl w.heap.size w
 have k2 := hS.c8
 have k3 := hS.c9
 by_cases h : q < 0
 ·have hh := hneg.2 h
  have HV := Lib.hid (show moreI (decide (q < 0)) (decide (q % 2 = 1)) r n 4 = 1 by unfold moreI upB; simp)
  clear hneg h hS
  go_enter Tryz.func81, Tryz.ntmps81
  go_wp2_with fail
  go_ret
  exact ⟨(by rw [HV.out]; rfl), Bk.be⟩
 ·have hh : 0 ≤ hi q := by omega
  have HV := Lib.hid (show moreI (decide (q < 0)) (decide (q % 2 = 1)) r n 4 = 1 by unfold moreI upB; simp)
  clear hneg h hS
  go_enter Tryz.func81, Tryz.ntmps81
  go_wp2_with fail
  go_ret
  exact ⟨(by rw [HV.out]; rfl), Bk.be⟩
theorem more_5 (q r n : Int) (w : World) (hn : n ≤ 9223372036854775807) (hr : 0 < r) (hrn : r < n) : Calls Tryz.prog 81 #[.agg #[.int .i64 (hi q), .int .u64 (lo q)], .int .i64 r, .int .i64 n, .int .i64 5] w fun e w' => e = .returned (.int .i64 (moreI (decide (q < 0)) (decide (q % 2 = 1)) r n 5)) ∧ Below w.heap.size w w' := by
 have hneg := hi_neg q
 have b0 := Below.refl w.heap.size w
 by_cases h1 : n - r < r
 ·have HV := Lib.hid (show moreI (decide (q < 0)) (decide (q % 2 = 1)) r n 5 = 1 by unfold moreI; rw [upB_1 (by omega) h1]; rfl)
  by_cases h : hi q < 0
  all_goals
   clear hneg
   go_enter Tryz.func81, Tryz.ntmps81
   go_wp2_with fail
   go_ret
   exact ⟨(by rw [HV.out]; rfl), Bk.be⟩
 ·by_cases h2 : r < n - r
  ·have HV := Lib.hid (show moreI (decide (q < 0)) (decide (q % 2 = 1)) r n 5 = 0 by unfold moreI; rw [upB_0 (by omega) h2]; rfl)
   by_cases h : hi q < 0
   all_goals
    clear hneg
    go_enter Tryz.func81, Tryz.ntmps81
    go_wp2_with fail
    go_ret
    exact ⟨(by rw [HV.out]; rfl), Bk.be⟩
  ·by_cases h : q < 0
   ·have hh := hneg.2 h
    have HV := Lib.hid (show moreI (decide (q < 0)) (decide (q % 2 = 1)) r n 5 = 0 by unfold moreI; rw [upB_5 (by omega), decide_eq_true h]; rfl)
    clear hneg h
    go_enter Tryz.func81, Tryz.ntmps81
    go_wp2_with fail
    go_ret
    exact ⟨(by rw [HV.out]; rfl), Bk.be⟩
   ·have hh : 0 ≤ hi q := by omega
    have HV := Lib.hid (show moreI (decide (q < 0)) (decide (q % 2 = 1)) r n 5 = 1 by unfold moreI; rw [upB_5 (by omega), decide_eq_false h]; rfl)
    clear hneg h
    go_enter Tryz.func81, Tryz.ntmps81
    go_wp2_with fail
    go_ret
    exact ⟨(by rw [HV.out]; rfl), Bk.be⟩
theorem more_6 (q r n : Int) (w : World) (hn : n ≤ 9223372036854775807) (hr : 0 < r) (hrn : r < n) : Calls Tryz.prog 81 #[.agg #[.int .i64 (hi q), .int .u64 (lo q)], .int .i64 r, .int .i64 n, .int .i64 6] w fun e w' => e = .returned (.int .i64 (moreI (decide (q < 0)) (decide (q % 2 = 1)) r n 6)) ∧ Below w.heap.size w w' := by
 have hneg := hi_neg q
 have b0 := Below.refl w.heap.size w
 by_cases h1 : n - r < r
 ·have HV := Lib.hid (show moreI (decide (q < 0)) (decide (q % 2 = 1)) r n 6 = 1 by unfold moreI; rw [upB_1 (by omega) h1]; rfl)
  by_cases h : hi q < 0
  all_goals
   clear hneg
   go_enter Tryz.func81, Tryz.ntmps81
   go_wp2_with fail
   go_ret
   exact ⟨(by rw [HV.out]; rfl), Bk.be⟩
 ·by_cases h2 : r < n - r
  ·have HV := Lib.hid (show moreI (decide (q < 0)) (decide (q % 2 = 1)) r n 6 = 0 by unfold moreI; rw [upB_0 (by omega) h2]; rfl)
   by_cases h : hi q < 0
   all_goals
    clear hneg
    go_enter Tryz.func81, Tryz.ntmps81
    go_wp2_with fail
    go_ret
    exact ⟨(by rw [HV.out]; rfl), Bk.be⟩
  ·have HV := Lib.hid (show moreI (decide (q < 0)) (decide (q % 2 = 1)) r n 6 = q % 2 by
    unfold moreI
    rw [upB_6 (by omega)]
    by_cases e : q % 2 = 1
    ·rw [decide_eq_true e, e]; rfl
    ·rw [decide_eq_false e]; simp; omega)
   have ha : bits .and .u64 (lo q) 1 = q % 2 := by rw [and_one (lo_bd q), lo_mod]
   have hb0 : 0 ≤ q % 2 := by omega
   have hb1 : q % 2 ≤ 1 := by omega
   by_cases h : hi q < 0
   all_goals
    clear hneg
    go_enter Tryz.func81, Tryz.ntmps81
    go_wp2_with fail
    go_ret
    exact ⟨(by rw [HV.out]; rfl), Bk.be⟩
theorem more_any (q r n mode : Int) (w : World) (hS : Stp w) (hn : n ≤ 9223372036854775807) (hr : 0 < r) (hrn : r < n) (hm1 : 1 ≤ mode) (hm6 : mode ≤ 6) : Calls Tryz.prog 81 #[.agg #[.int .i64 (hi q), .int .u64 (lo q)], .int .i64 r, .int .i64 n, .int .i64 mode] w fun e w' => e = .returned (.int .i64 (moreI (decide (q < 0)) (decide (q % 2 = 1)) r n mode)) ∧ Below w.heap.size w w' := by
 have hm : mode = 1 ∨ mode = 2 ∨ mode = 3 ∨ mode = 4 ∨ mode = 5 ∨ mode = 6 := by omega
 rcases hm with rfl | rfl | rfl | rfl | rfl | rfl
 ·exact more_1 q r n w hS
 ·exact more_2 q r n w hS
 ·exact more_3 q r n w hS
 ·exact more_4 q r n w hS
 ·exact more_5 q r n w hn hr hrn
 ·exact more_6 q r n w hn hr hrn

theorem up_any (neg odd : Bool) (r n mode : Int) (w : World) (hn : n ≤ 9223372036854775807) (hr : 0 < r) (hrn : r < n) (hm1 : 1 ≤ mode) (hm6 : mode ≤ 6) :
  Calls Tryz.prog 88 #[.bool neg, .bool odd, .int .i64 r, .int .i64 n, .int .i64 mode] w fun e w' => e = .returned (.bool (upB neg odd r n mode)) ∧ w = w' := by
 have hm : mode = 1 ∨ mode = 2 ∨ mode = 3 ∨ mode = 4 ∨ mode = 5 ∨ mode = 6 := by omega
 rcases hm with rfl | rfl | rfl | rfl | rfl | rfl
 ·have HV := Lib.hid (show upB neg odd r n 1 = neg by unfold upB; simp)
  go_enter Tryz.func88, Tryz.ntmps88
  go_wp2_with fail
  go_ret
  exact ⟨(by rw [HV.out]; rfl), rfl⟩
 ·have HV := Lib.hid (show upB neg odd r n 2 = !neg by unfold upB; simp)
  go_enter Tryz.func88, Tryz.ntmps88
  go_wp2_with fail
  go_ret
  exact ⟨(by rw [HV.out]; rfl), rfl⟩
 ·have HV := Lib.hid (show upB neg odd r n 3 = false by unfold upB; simp)
  go_enter Tryz.func88, Tryz.ntmps88
  go_wp2_with fail
  go_ret
  exact ⟨(by rw [HV.out]; rfl), rfl⟩
 ·have HV := Lib.hid (show upB neg odd r n 4 = true by unfold upB; simp)
  go_enter Tryz.func88, Tryz.ntmps88
  go_wp2_with fail
  go_ret
  exact ⟨(by rw [HV.out]; rfl), rfl⟩
 ·by_cases h : r = n - r
  ·have hne : (r != n - r) = false := by simpa using h
   have HV := Lib.hid (show upB neg odd r n 5 = !neg by rw [upB_5 h])
   clear h
   go_enter Tryz.func88, Tryz.ntmps88
   go_wp2_with fail
   go_ret
   exact ⟨(by rw [HV.out]; rfl), rfl⟩
  ·have hne : (r != n - r) = true := by simpa using h
   have HV := Lib.hid (show upB neg odd r n 5 = decide (n - r < r) by rw [upB_ne (by omega) h])
   clear h
   go_enter Tryz.func88, Tryz.ntmps88
   go_wp2_with fail
   go_ret
   exact ⟨(by rw [HV.out]; rfl), rfl⟩
 ·by_cases h : r = n - r
  ·have hne : (r != n - r) = false := by simpa using h
   have HV := Lib.hid (show upB neg odd r n 6 = odd by rw [upB_6 h])
   clear h
   go_enter Tryz.func88, Tryz.ntmps88
   go_wp2_with fail
   go_ret
   exact ⟨(by rw [HV.out]; rfl), rfl⟩
  ·have hne : (r != n - r) = true := by simpa using h
   have HV := Lib.hid (show upB neg odd r n 6 = decide (n - r < r) by rw [upB_ne (by omega) h])
   clear h
   go_enter Tryz.func88, Tryz.ntmps88
   go_wp2_with fail
   go_ret
   exact ⟨(by rw [HV.out]; rfl), rfl⟩
end Go.Proofs.YtaanicginfjgdaaGreatDoor.Rd
