/-
  The contracts of both Interests at every argument: the program's and the reference's return the same.
-/
import Derived.Test.YtjhhjpcljcnkaaaLawsB
import Derived.Test.YtjhhjpcljcnkaaaR5
namespace Go.Proofs.Ytjhhjpcljcnkaaa.Dt
open Go.RowKit
open Go.Proofs.Ytjhhjpcljcnkaaa
open Go.Proofs.Ytjhhjpcljcnkaaa.Cal Go.Proofs.Ytjhhjpcljcnkaaa.Wm Go.Proofs.Ytjhhjpcljcnkaaa.Wt

theorem rinterest_yes (b p s f t : Int) (w : World) (h : intOk b p s f t) :
    Calls Try.prog 22 #[.int .i64 b, .int .i64 p, .int .i64 s, .int .i64 f, .int .i64 t] w fun e w' => e = .returned (.tuple #[.agg #[.int .i64 (hi (b * p * sumv s f t)), .int .u64 (lo (b * p * sumv s f t))], .int .i64 0]) ∧ Below w.heap.size w w' := by
  obtain ⟨k1, k2, k3, k4, k5⟩ := intOk_all h
  obtain ⟨⟨h1, h2⟩, ⟨h3, h4⟩, ⟨h5, h6⟩, ⟨h7, h8⟩, ⟨h9, h10⟩, h11⟩ := h
  have HF := Lib.hid (fit_in k5)
  have HO := Lib.hid (ovf_in k5)
  go_enter Try.func22, Try.ntmps22
  go_wp2_with fail
  refine (rbvalid_yes _ _ h5 h6).mono ?_
  rintro e w' ⟨rfl, rfl⟩
  go_wp2_with fail
  refine (rvalid_yes _ _ h7 h8).mono ?_
  rintro e w' ⟨rfl, rfl⟩
  go_wp2_with fail
  refine (rvalid_yes _ _ h9 h10).mono ?_
  rintro e w' ⟨rfl, rfl⟩
  go_wp2_with fail
  refine (rmul_any _ _ _ k1 k2).mono ?_
  rintro e w1 ⟨rfl, hb1⟩
  obtain ⟨cc, cd, cf, cg⟩ := later2 hb1 (g := w.heap.size) (u := .int .i64 0) (v := .int .u64 0) (by simp [go_sem]) (by simp [go_sem]) (by simp [go_sem]) (by simp [go_sem])
  have cz : w.heap.size < w1.heap.size := World.block_lt_of_cell? _ _ cc
  have b1 : Below w.heap.size w w1 := bl2 hb1 (by repeat (first | assumption | exact Below.refl _ _ | refine Below.setCell ?_ (by first | exact Nat.le_refl _ | (simp; done) | (simp; omega) | omega) _ | refine Below.alloc ?_ (by first | exact Nat.le_refl _ | (simp; done) | (simp; omega) | omega) _ | refine Below.drew ?_ | exact Nat.le_refl _))
  have z1 := hb1.size
  try simp at z1
  clear hb1
  go_wp2_with fail
  refine (rsum_any _ _ _ _).mono ?_
  rintro e w' ⟨rfl, rfl⟩
  go_wp2_with fail
  refine (rscale_any _ _ _ k4 k3).mono ?_
  rw [HF.out, HO.out]
  rintro e w3 ⟨rfl, hb3⟩
  obtain ⟨ec, ed, ef, eg⟩ := later2 hb3 (g := w.heap.size) (u := .int .i64 0) (v := .int .u64 0) (by simp [go_sem, *]) (by simp [go_sem, *]) (by simp [go_sem, *]) (by simp [go_sem, *])
  have ez : w.heap.size < w3.heap.size := World.block_lt_of_cell? _ _ ec
  have b3 : Below w.heap.size w w3 := bl2 hb3 (by repeat (first | assumption | exact Below.refl _ _ | refine Below.setCell ?_ (by first | exact Nat.le_refl _ | (simp; done) | (simp; omega) | omega) _ | refine Below.alloc ?_ (by first | exact Nat.le_refl _ | (simp; done) | (simp; omega) | omega) _ | refine Below.drew ?_ | exact Nat.le_refl _))
  have z3 := hb3.size
  try simp at z3
  clear hb3
  clear cc cd cf cg
  go_wp2_with fail
  simp [bodyPost, results, Try.results22, go_sem, ec, ed]
  exact (by repeat (first | assumption | exact Below.refl _ _ | refine Below.setCell ?_ (by first | exact Nat.le_refl _ | (simp; done) | (simp; omega) | omega) _ | refine Below.alloc ?_ (by first | exact Nat.le_refl _ | (simp; done) | (simp; omega) | omega) _ | refine Below.drew ?_ | exact Nat.le_refl _))
set_option maxHeartbeats 2000000 in
theorem interest_no (b p s f t : Int) (w : World) (h : ¬ intOk b p s f t) :
    Calls Try.prog 21 #[.int .i64 b, .int .i64 p, .int .i64 s, .int .i64 f, .int .i64 t] w fun e w' => e = .returned (.tuple #[.agg #[.int .i64 0, .int .u64 0], .int .i64 1]) ∧ Below w.heap.size w w' := by
  by_cases c0 : b < -1000000000000
  · clear h 
    go_enter Try.func21, Try.ntmps21
    go_wp2_with fail
    simp [bodyPost, results, Try.results21, go_sem]
    exact (by repeat (first | assumption | exact Below.refl _ _ | refine Below.setCell ?_ (by first | exact Nat.le_refl _ | (simp; done) | (simp; omega) | omega) _ | refine Below.alloc ?_ (by first | exact Nat.le_refl _ | (simp; done) | (simp; omega) | omega) _ | refine Below.drew ?_ | exact Nat.le_refl _))
  have b1 : -1000000000000 ≤ b := by omega
  by_cases c1 : 1000000000000 < b
  · clear h c0
    go_enter Try.func21, Try.ntmps21
    go_wp2_with fail
    simp [bodyPost, results, Try.results21, go_sem]
    exact (by repeat (first | assumption | exact Below.refl _ _ | refine Below.setCell ?_ (by first | exact Nat.le_refl _ | (simp; done) | (simp; omega) | omega) _ | refine Below.alloc ?_ (by first | exact Nat.le_refl _ | (simp; done) | (simp; omega) | omega) _ | refine Below.drew ?_ | exact Nat.le_refl _))
  have b2 : b ≤ 1000000000000 := by omega
  by_cases c2 : p < 0
  · clear h c0 c1
    go_enter Try.func21, Try.ntmps21
    go_wp2_with fail
    simp [bodyPost, results, Try.results21, go_sem]
    exact (by repeat (first | assumption | exact Below.refl _ _ | refine Below.setCell ?_ (by first | exact Nat.le_refl _ | (simp; done) | (simp; omega) | omega) _ | refine Below.alloc ?_ (by first | exact Nat.le_refl _ | (simp; done) | (simp; omega) | omega) _ | refine Below.drew ?_ | exact Nat.le_refl _))
  have p1 : 0 ≤ p := by omega
  by_cases c3 : 1000000 < p
  · clear h c0 c1 c2
    go_enter Try.func21, Try.ntmps21
    go_wp2_with fail
    simp [bodyPost, results, Try.results21, go_sem]
    exact (by repeat (first | assumption | exact Below.refl _ _ | refine Below.setCell ?_ (by first | exact Nat.le_refl _ | (simp; done) | (simp; omega) | omega) _ | refine Below.alloc ?_ (by first | exact Nat.le_refl _ | (simp; done) | (simp; omega) | omega) _ | refine Below.drew ?_ | exact Nat.le_refl _))
  have p2 : p ≤ 1000000 := by omega
  clear c0 c1 c2 c3
  by_cases hs : 1 ≤ s ∧ s ≤ 4
  · by_cases hf : 0 ≤ f ∧ f ≤ 73048
    · by_cases ht : 0 ≤ t ∧ t ≤ 73048
      · have hlt : t < f := by unfold intOk at h; omega
        clear h
        go_enter Try.func21, Try.ntmps21
        go_wp2_with fail
        refine (bvalid_yes _ _ hs.1 hs.2).mono ?_
        rintro e w' ⟨rfl, rfl⟩
        go_wp2_with fail
        refine (valid_yes _ _ hf.1 hf.2).mono ?_
        rintro e w' ⟨rfl, rfl⟩
        go_wp2_with fail
        refine (valid_yes _ _ ht.1 ht.2).mono ?_
        rintro e w' ⟨rfl, rfl⟩
        go_wp2_with fail
        simp [bodyPost, results, Try.results21, go_sem]
        exact (by repeat (first | assumption | exact Below.refl _ _ | refine Below.setCell ?_ (by first | exact Nat.le_refl _ | (simp; done) | (simp; omega) | omega) _ | refine Below.alloc ?_ (by first | exact Nat.le_refl _ | (simp; done) | (simp; omega) | omega) _ | refine Below.drew ?_ | exact Nat.le_refl _))
      · have ht' := val_of_not ht
        clear h ht
        go_enter Try.func21, Try.ntmps21
        go_wp2_with fail
        refine (bvalid_yes _ _ hs.1 hs.2).mono ?_
        rintro e w' ⟨rfl, rfl⟩
        go_wp2_with fail
        refine (valid_yes _ _ hf.1 hf.2).mono ?_
        rintro e w' ⟨rfl, rfl⟩
        go_wp2_with fail
        refine (valid_no _ _ ht').mono ?_
        rintro e w' ⟨rfl, rfl⟩
        go_wp2_with fail
        simp [bodyPost, results, Try.results21, go_sem]
        exact (by repeat (first | assumption | exact Below.refl _ _ | refine Below.setCell ?_ (by first | exact Nat.le_refl _ | (simp; done) | (simp; omega) | omega) _ | refine Below.alloc ?_ (by first | exact Nat.le_refl _ | (simp; done) | (simp; omega) | omega) _ | refine Below.drew ?_ | exact Nat.le_refl _))
    · have hf' := val_of_not hf
      clear h hf
      go_enter Try.func21, Try.ntmps21
      go_wp2_with fail
      refine (bvalid_yes _ _ hs.1 hs.2).mono ?_
      rintro e w' ⟨rfl, rfl⟩
      go_wp2_with fail
      refine (valid_no _ _ hf').mono ?_
      rintro e w' ⟨rfl, rfl⟩
      go_wp2_with fail
      simp [bodyPost, results, Try.results21, go_sem]
      exact (by repeat (first | assumption | exact Below.refl _ _ | refine Below.setCell ?_ (by first | exact Nat.le_refl _ | (simp; done) | (simp; omega) | omega) _ | refine Below.alloc ?_ (by first | exact Nat.le_refl _ | (simp; done) | (simp; omega) | omega) _ | refine Below.drew ?_ | exact Nat.le_refl _))
  · have hs' : s < 1 ∨ 4 < s := by omega
    clear h hs
    go_enter Try.func21, Try.ntmps21
    go_wp2_with fail
    refine (bvalid_no _ _ hs').mono ?_
    rintro e w' ⟨rfl, rfl⟩
    go_wp2_with fail
    simp [bodyPost, results, Try.results21, go_sem]
    exact (by repeat (first | assumption | exact Below.refl _ _ | refine Below.setCell ?_ (by first | exact Nat.le_refl _ | (simp; done) | (simp; omega) | omega) _ | refine Below.alloc ?_ (by first | exact Nat.le_refl _ | (simp; done) | (simp; omega) | omega) _ | refine Below.drew ?_ | exact Nat.le_refl _))

set_option maxHeartbeats 2000000 in
theorem rinterest_no (b p s f t : Int) (w : World) (h : ¬ intOk b p s f t) :
    Calls Try.prog 22 #[.int .i64 b, .int .i64 p, .int .i64 s, .int .i64 f, .int .i64 t] w fun e w' => e = .returned (.tuple #[.agg #[.int .i64 0, .int .u64 0], .int .i64 1]) ∧ Below w.heap.size w w' := by
  by_cases c0 : b < -1000000000000
  · clear h 
    go_enter Try.func22, Try.ntmps22
    go_wp2_with fail
    simp [bodyPost, results, Try.results22, go_sem]
    exact (by repeat (first | assumption | exact Below.refl _ _ | refine Below.setCell ?_ (by first | exact Nat.le_refl _ | (simp; done) | (simp; omega) | omega) _ | refine Below.alloc ?_ (by first | exact Nat.le_refl _ | (simp; done) | (simp; omega) | omega) _ | refine Below.drew ?_ | exact Nat.le_refl _))
  have b1 : -1000000000000 ≤ b := by omega
  by_cases c1 : 1000000000000 < b
  · clear h c0
    go_enter Try.func22, Try.ntmps22
    go_wp2_with fail
    simp [bodyPost, results, Try.results22, go_sem]
    exact (by repeat (first | assumption | exact Below.refl _ _ | refine Below.setCell ?_ (by first | exact Nat.le_refl _ | (simp; done) | (simp; omega) | omega) _ | refine Below.alloc ?_ (by first | exact Nat.le_refl _ | (simp; done) | (simp; omega) | omega) _ | refine Below.drew ?_ | exact Nat.le_refl _))
  have b2 : b ≤ 1000000000000 := by omega
  by_cases c2 : p < 0
  · clear h c0 c1
    go_enter Try.func22, Try.ntmps22
    go_wp2_with fail
    simp [bodyPost, results, Try.results22, go_sem]
    exact (by repeat (first | assumption | exact Below.refl _ _ | refine Below.setCell ?_ (by first | exact Nat.le_refl _ | (simp; done) | (simp; omega) | omega) _ | refine Below.alloc ?_ (by first | exact Nat.le_refl _ | (simp; done) | (simp; omega) | omega) _ | refine Below.drew ?_ | exact Nat.le_refl _))
  have p1 : 0 ≤ p := by omega
  by_cases c3 : 1000000 < p
  · clear h c0 c1 c2
    go_enter Try.func22, Try.ntmps22
    go_wp2_with fail
    simp [bodyPost, results, Try.results22, go_sem]
    exact (by repeat (first | assumption | exact Below.refl _ _ | refine Below.setCell ?_ (by first | exact Nat.le_refl _ | (simp; done) | (simp; omega) | omega) _ | refine Below.alloc ?_ (by first | exact Nat.le_refl _ | (simp; done) | (simp; omega) | omega) _ | refine Below.drew ?_ | exact Nat.le_refl _))
  have p2 : p ≤ 1000000 := by omega
  clear c0 c1 c2 c3
  by_cases hs : 1 ≤ s ∧ s ≤ 4
  · by_cases hf : 0 ≤ f ∧ f ≤ 73048
    · by_cases ht : 0 ≤ t ∧ t ≤ 73048
      · have hlt : t < f := by unfold intOk at h; omega
        clear h
        go_enter Try.func22, Try.ntmps22
        go_wp2_with fail
        refine (rbvalid_yes _ _ hs.1 hs.2).mono ?_
        rintro e w' ⟨rfl, rfl⟩
        go_wp2_with fail
        refine (rvalid_yes _ _ hf.1 hf.2).mono ?_
        rintro e w' ⟨rfl, rfl⟩
        go_wp2_with fail
        refine (rvalid_yes _ _ ht.1 ht.2).mono ?_
        rintro e w' ⟨rfl, rfl⟩
        go_wp2_with fail
        simp [bodyPost, results, Try.results22, go_sem]
        exact (by repeat (first | assumption | exact Below.refl _ _ | refine Below.setCell ?_ (by first | exact Nat.le_refl _ | (simp; done) | (simp; omega) | omega) _ | refine Below.alloc ?_ (by first | exact Nat.le_refl _ | (simp; done) | (simp; omega) | omega) _ | refine Below.drew ?_ | exact Nat.le_refl _))
      · have ht' := val_of_not ht
        clear h ht
        go_enter Try.func22, Try.ntmps22
        go_wp2_with fail
        refine (rbvalid_yes _ _ hs.1 hs.2).mono ?_
        rintro e w' ⟨rfl, rfl⟩
        go_wp2_with fail
        refine (rvalid_yes _ _ hf.1 hf.2).mono ?_
        rintro e w' ⟨rfl, rfl⟩
        go_wp2_with fail
        refine (rvalid_no _ _ ht').mono ?_
        rintro e w' ⟨rfl, rfl⟩
        go_wp2_with fail
        simp [bodyPost, results, Try.results22, go_sem]
        exact (by repeat (first | assumption | exact Below.refl _ _ | refine Below.setCell ?_ (by first | exact Nat.le_refl _ | (simp; done) | (simp; omega) | omega) _ | refine Below.alloc ?_ (by first | exact Nat.le_refl _ | (simp; done) | (simp; omega) | omega) _ | refine Below.drew ?_ | exact Nat.le_refl _))
    · have hf' := val_of_not hf
      clear h hf
      go_enter Try.func22, Try.ntmps22
      go_wp2_with fail
      refine (rbvalid_yes _ _ hs.1 hs.2).mono ?_
      rintro e w' ⟨rfl, rfl⟩
      go_wp2_with fail
      refine (rvalid_no _ _ hf').mono ?_
      rintro e w' ⟨rfl, rfl⟩
      go_wp2_with fail
      simp [bodyPost, results, Try.results22, go_sem]
      exact (by repeat (first | assumption | exact Below.refl _ _ | refine Below.setCell ?_ (by first | exact Nat.le_refl _ | (simp; done) | (simp; omega) | omega) _ | refine Below.alloc ?_ (by first | exact Nat.le_refl _ | (simp; done) | (simp; omega) | omega) _ | refine Below.drew ?_ | exact Nat.le_refl _))
  · have hs' : s < 1 ∨ 4 < s := by omega
    clear h hs
    go_enter Try.func22, Try.ntmps22
    go_wp2_with fail
    refine (rbvalid_no _ _ hs').mono ?_
    rintro e w' ⟨rfl, rfl⟩
    go_wp2_with fail
    simp [bodyPost, results, Try.results22, go_sem]
    exact (by repeat (first | assumption | exact Below.refl _ _ | refine Below.setCell ?_ (by first | exact Nat.le_refl _ | (simp; done) | (simp; omega) | omega) _ | refine Below.alloc ?_ (by first | exact Nat.le_refl _ | (simp; done) | (simp; omega) | omega) _ | refine Below.drew ?_ | exact Nat.le_refl _))
end Go.Proofs.Ytjhhjpcljcnkaaa.Dt
