/-
  The contracts of the reference's Mul, minus, Less: said of numbers of two words.
-/
import Derived.Test.YtieklkpjlbpnbaaDoorR4
import Derived.Test.YtieklkpjlbpnbaaDoorROf
namespace Go.Proofs.YtieklkpjlbpnbaaDoor.Wt
open Go.RowKit
open Go.Proofs.YtieklkpjlbpnbaaDoor
open Go.Proofs.YtieklkpjlbpnbaaDoor.Wm

theorem rmul_any (a b : Int) (w : World) (ha : I64 a) (hb : I64 b) :
    Calls Tryd.prog 19 #[.int .i64 a, .int .i64 b] w fun e w' => e = .returned (.agg #[.int .i64 (hi (a * b)), .int .u64 (lo (a * b))]) ∧ Below w.heap.size w w' := by
  have hp := (mul_bd ha hb).1
  have ha128 : I128 a := by unfold I64 at ha; unfold I128; omega
  have HF := Lib.hid (fit_in hp)
  have HO := Lib.hid (ovf_in hp)
  go_enter Tryd.func19, Tryd.ntmps19
  go_wp2_with fail
  refine (rof_any a _ ha).mono ?_
  rintro e w1 ⟨rfl, hb1⟩
  obtain ⟨cc, cd, cf, cg⟩ := later2 hb1 (g := w.heap.size) (u := .int .i64 0) (v := .int .u64 0) (by simp [go_sem]) (by simp [go_sem]) (by simp [go_sem]) (by simp [go_sem])
  have cz : w.heap.size < w1.heap.size := World.block_lt_of_cell? _ _ cc
  have b1 : Below w.heap.size w w1 := bl2 hb1 (by repeat (first | assumption | exact Below.refl _ _ | refine Below.setCell ?_ (by first | exact Nat.le_refl _ | (simp; done) | (simp; omega) | omega) _ | refine Below.alloc ?_ (by first | exact Nat.le_refl _ | (simp; done) | (simp; omega) | omega) _ | refine Below.drew ?_ | exact Nat.le_refl _))
  have z1 := hb1.size
  try simp at z1
  clear hb1
  go_wp2_with fail
  refine (rscale_any a b _ ha128 hb).mono ?_
  rw [HF.out, HO.out]
  rintro e w2 ⟨rfl, hb2⟩
  obtain ⟨dc, dd, df, dg⟩ := later2 hb2 (g := w.heap.size) (u := .int .i64 0) (v := .int .u64 0) (by simp [go_sem, *]) (by simp [go_sem, *]) (by simp [go_sem, *]) (by simp [go_sem, *])
  have dz : w.heap.size < w2.heap.size := World.block_lt_of_cell? _ _ dc
  have b2 : Below w.heap.size w w2 := bl2 hb2 (by repeat (first | assumption | exact Below.refl _ _ | refine Below.setCell ?_ (by first | exact Nat.le_refl _ | (simp; done) | (simp; omega) | omega) _ | refine Below.alloc ?_ (by first | exact Nat.le_refl _ | (simp; done) | (simp; omega) | omega) _ | refine Below.drew ?_ | exact Nat.le_refl _))
  have z2 := hb2.size
  try simp at z2
  clear hb2
  clear cc cd cf cg
  go_wp2_with fail
  simp [bodyPost, results, Tryd.results19, go_sem, dc, dd, dz]
  exact (by repeat (first | assumption | exact Below.refl _ _ | refine Below.setCell ?_ (by first | exact Nat.le_refl _ | (simp; done) | (simp; omega) | omega) _ | refine Below.alloc ?_ (by first | exact Nat.le_refl _ | (simp; done) | (simp; omega) | omega) _ | refine Below.drew ?_ | exact Nat.le_refl _))
end Go.Proofs.YtieklkpjlbpnbaaDoor.Wt
