/-
  The walk of the statement DaycountAdds: it returns true, for every argument.
-/
import Derived.Test.YtjhhjpcljcnkaaaLawsA
namespace Go.Proofs.Ytjhhjpcljcnkaaa.Dt
open Go.RowKit
open Go.Proofs.Ytjhhjpcljcnkaaa
open Go.Proofs.Ytjhhjpcljcnkaaa.Cal Go.Proofs.Ytjhhjpcljcnkaaa.Wm Go.Proofs.Ytjhhjpcljcnkaaa.Wt

theorem weight_cwx (b d : Int) (w : World) : Calls Try.prog 12 #[.int .i64 b, .int .i64 d] w fun e w' => e = .returned (.int .i64 (wei b d)) ∧ Below w.heap.size w w' := weight_any b d w
theorem adds_sum {b f m t : Int} (h0 : 0 ≤ f) (h1 : f ≤ m) (h2 : m ≤ t) (h3 : t ≤ 73048) : sumv b f t = sumv b f m + sumv b m t := by
  rw [sumv_cwx b f t h0 (by omega) h3, sumv_cwx b f m h0 h1 (by omega), sumv_cwx b m t (by omega) h2 h3]; omega
theorem adds_four {f t : Int} (h0 : 0 ≤ f) (h1 : f ≤ t) (h3 : t ≤ 73048) : sumv 4 f t = 4453 * thi f t := by
  rw [sumv_in (by omega), thi_in (by omega)]; simp [cw]; omega
theorem wei_bd {b d : Int} (h0 : 0 ≤ d) (h1 : d ≤ 73048) : -4000000000 ≤ wei b d ∧ wei b d ≤ 4000000000 := by
  rw [wei_in h0 h1]; exact wgt_bd b d h0 h1

/-- The call of lives at the end of a way. -/
theorem adds_no (b f m t : Int) (w : World) (h : ¬ ((0 ≤ f ∧ f ≤ 73048) ∧ (0 ≤ t ∧ t ≤ 73048) ∧ f ≤ m ∧ m ≤ t)) :
    Calls Try.prog 6 #[.int .i64 b, .int .i64 f, .int .i64 m, .int .i64 t] w fun e w' => e = .returned (.bool true) ∧ Below w.heap.size w w' := by
  by_cases hf : 0 ≤ f ∧ f ≤ 73048
  · by_cases ht : 0 ≤ t ∧ t ≤ 73048
    · by_cases h1 : m < f
      · clear h
        go_enter Try.func6, Try.ntmps6
        go_wp2_with fail
        refine (rvalid_yes _ _ hf.1 hf.2).mono ?_
        rintro e w' ⟨rfl, rfl⟩
        go_wp2_with fail
        refine (rvalid_yes _ _ ht.1 ht.2).mono ?_
        rintro e w' ⟨rfl, rfl⟩
        go_wp2_with fail
        refine (lives_any _).mono ?_
        rintro e w4 ⟨rfl, hb4⟩
        have b4 : Below w.heap.size w w4 := bl2 hb4 (by repeat (first | assumption | exact Below.refl _ _ | refine Below.setCell ?_ (by first | exact Nat.le_refl _ | (simp; done) | (simp; omega) | omega) _ | refine Below.alloc ?_ (by first | exact Nat.le_refl _ | (simp; done) | (simp; omega) | omega) _ | refine Below.drew ?_ | exact Nat.le_refl _))
        have z4 := hb4.size
        try simp at z4
        clear hb4
        go_wp2_with fail
        go_ret
        exact ⟨rfl, b4⟩
      · have h1' : f ≤ m := by omega
        have h2 : t < m := by omega
        clear h h1
        go_enter Try.func6, Try.ntmps6
        go_wp2_with fail
        refine (rvalid_yes _ _ hf.1 hf.2).mono ?_
        rintro e w' ⟨rfl, rfl⟩
        go_wp2_with fail
        refine (rvalid_yes _ _ ht.1 ht.2).mono ?_
        rintro e w' ⟨rfl, rfl⟩
        go_wp2_with fail
        refine (lives_any _).mono ?_
        rintro e w4 ⟨rfl, hb4⟩
        have b4 : Below w.heap.size w w4 := bl2 hb4 (by repeat (first | assumption | exact Below.refl _ _ | refine Below.setCell ?_ (by first | exact Nat.le_refl _ | (simp; done) | (simp; omega) | omega) _ | refine Below.alloc ?_ (by first | exact Nat.le_refl _ | (simp; done) | (simp; omega) | omega) _ | refine Below.drew ?_ | exact Nat.le_refl _))
        have z4 := hb4.size
        try simp at z4
        clear hb4
        go_wp2_with fail
        go_ret
        exact ⟨rfl, b4⟩
    · have ht' := val_of_not ht
      clear h ht
      go_enter Try.func6, Try.ntmps6
      go_wp2_with fail
      refine (rvalid_yes _ _ hf.1 hf.2).mono ?_
      rintro e w' ⟨rfl, rfl⟩
      go_wp2_with fail
      refine (rvalid_no _ _ ht').mono ?_
      rintro e w' ⟨rfl, rfl⟩
      go_wp2_with fail
      refine (lives_any _).mono ?_
      rintro e w4 ⟨rfl, hb4⟩
      have b4 : Below w.heap.size w w4 := bl2 hb4 (by repeat (first | assumption | exact Below.refl _ _ | refine Below.setCell ?_ (by first | exact Nat.le_refl _ | (simp; done) | (simp; omega) | omega) _ | refine Below.alloc ?_ (by first | exact Nat.le_refl _ | (simp; done) | (simp; omega) | omega) _ | refine Below.drew ?_ | exact Nat.le_refl _))
      have z4 := hb4.size
      try simp at z4
      clear hb4
      go_wp2_with fail
      go_ret
      exact ⟨rfl, b4⟩
  · have hf' := val_of_not hf
    clear h hf
    go_enter Try.func6, Try.ntmps6
    go_wp2_with fail
    refine (rvalid_no _ _ hf').mono ?_
    rintro e w' ⟨rfl, rfl⟩
    go_wp2_with fail
    refine (lives_any _).mono ?_
    rintro e w4 ⟨rfl, hb4⟩
    have b4 : Below w.heap.size w w4 := bl2 hb4 (by repeat (first | assumption | exact Below.refl _ _ | refine Below.setCell ?_ (by first | exact Nat.le_refl _ | (simp; done) | (simp; omega) | omega) _ | refine Below.alloc ?_ (by first | exact Nat.le_refl _ | (simp; done) | (simp; omega) | omega) _ | refine Below.drew ?_ | exact Nat.le_refl _))
    have z4 := hb4.size
    try simp at z4
    clear hb4
    go_wp2_with fail
    go_ret
    exact ⟨rfl, b4⟩

set_option maxHeartbeats 800000 in
theorem adds_yes (b f m t : Int) (w : World) (hf : 0 ≤ f ∧ f ≤ 73048) (ht : 0 ≤ t ∧ t ≤ 73048) (h1 : f ≤ m) (h2 : m ≤ t) :
    Calls Try.prog 6 #[.int .i64 b, .int .i64 f, .int .i64 m, .int .i64 t] w fun e w' => e = .returned (.bool true) ∧ Below w.heap.size w w' := by
  have ha := Lib.hid (adds_sum (b := b) hf.1 h1 h2 ht.2)
  have bd1 := sumv_bd b f m
  have bd2 := sumv_bd b m t
  have tb := thi_bd f t
  by_cases hb : b = 4
  · subst hb
    have h4 := adds_four hf.1 (show f ≤ t by omega) ht.2
    have hsum := Lib.hid (show sumv 4 f m + sumv 4 m t = 4453 * thi f t by rw [← h4, ha.out])
    have H4 := Lib.hid h4
    have hc := Lib.hid (sumv_cwx 4 f t hf.1 (by omega) ht.2)
    clear h4
    go_enter Try.func6, Try.ntmps6
    go_wp2_with fail
    refine (rvalid_yes _ _ hf.1 hf.2).mono ?_
    rintro e w' ⟨rfl, rfl⟩
    go_wp2_with fail
    refine (rvalid_yes _ _ ht.1 ht.2).mono ?_
    rintro e w' ⟨rfl, rfl⟩
    go_wp2_with fail
    refine (sum_any _ _ _ _).mono ?_
    rw [H4.out]
    rintro e w1 ⟨rfl, hb1⟩
    have b1 : Below w.heap.size w w1 := bl2 hb1 (by repeat (first | assumption | exact Below.refl _ _ | refine Below.setCell ?_ (by first | exact Nat.le_refl _ | (simp; done) | (simp; omega) | omega) _ | refine Below.alloc ?_ (by first | exact Nat.le_refl _ | (simp; done) | (simp; omega) | omega) _ | refine Below.drew ?_ | exact Nat.le_refl _))
    have z1 := hb1.size
    try simp at z1
    clear hb1
    go_wp2_with fail
    refine (sum_any _ _ _ _).mono ?_
    rintro e w2 ⟨rfl, hb2⟩
    have b2 : Below w.heap.size w w2 := bl2 hb2 (by repeat (first | assumption | exact Below.refl _ _ | refine Below.setCell ?_ (by first | exact Nat.le_refl _ | (simp; done) | (simp; omega) | omega) _ | refine Below.alloc ?_ (by first | exact Nat.le_refl _ | (simp; done) | (simp; omega) | omega) _ | refine Below.drew ?_ | exact Nat.le_refl _))
    have z2 := hb2.size
    try simp at z2
    clear hb2
    go_wp2_with fail
    refine (sum_any _ _ _ _).mono ?_
    rintro e w3 ⟨rfl, hb3⟩
    have b3 : Below w.heap.size w w3 := bl2 hb3 (by repeat (first | assumption | exact Below.refl _ _ | refine Below.setCell ?_ (by first | exact Nat.le_refl _ | (simp; done) | (simp; omega) | omega) _ | refine Below.alloc ?_ (by first | exact Nat.le_refl _ | (simp; done) | (simp; omega) | omega) _ | refine Below.drew ?_ | exact Nat.le_refl _))
    have z3 := hb3.size
    try simp at z3
    clear hb3
    have t1 : (4453 * thi f t != sumv 4 f m + sumv 4 m t) = false := by rw [hsum.out]; simp
    go_wp2_with fail
    refine (thirty_any _ _ _).mono ?_
    rintro e w4 ⟨rfl, hb4⟩
    have b4 : Below w.heap.size w w4 := bl2 hb4 (by repeat (first | assumption | exact Below.refl _ _ | refine Below.setCell ?_ (by first | exact Nat.le_refl _ | (simp; done) | (simp; omega) | omega) _ | refine Below.alloc ?_ (by first | exact Nat.le_refl _ | (simp; done) | (simp; omega) | omega) _ | refine Below.drew ?_ | exact Nat.le_refl _))
    have z4 := hb4.size
    try simp at z4
    clear hb4
    clear t1
    by_cases hfar : 100 < t - f
    · go_wp2_with fail
      refine (lives_any _).mono ?_
      rintro e w5 ⟨rfl, hb5⟩
      have b5 : Below w.heap.size w w5 := bl2 hb5 (by repeat (first | assumption | exact Below.refl _ _ | refine Below.setCell ?_ (by first | exact Nat.le_refl _ | (simp; done) | (simp; omega) | omega) _ | refine Below.alloc ?_ (by first | exact Nat.le_refl _ | (simp; done) | (simp; omega) | omega) _ | refine Below.drew ?_ | exact Nat.le_refl _))
      have z5 := hb5.size
      try simp at z5
      clear hb5
      go_wp2_with fail
      go_ret
      exact ⟨rfl, b5⟩
    · have hnear : t - f ≤ 100 := by omega
      clear hfar
      go_wp2_with fail
      go_loopw [9, 10] (fun n i wr => ∃ q : Int, f ≤ q ∧ q ≤ t ∧ n = .int .i64 (cwx 4 t - cwx 4 q) ∧ i = .int .i64 q ∧ Below w.heap.size w wr) (fun _ i _ => (t - intOf i).toNat)
      case atStart => exact ⟨f, by omega, by omega, by rw [← hc.out, H4.out], rfl, b4⟩
      case round =>
        obtain ⟨q, hq0, hq1, rfl, rfl, hbe⟩ := hrel
        have c1 := cwx_bd 4 q (by omega) (by omega)
        have c2 := cwx_bd 4 t (by omega) (by omega)
        by_cases hlt : q < t
        · have wb := wei_bd (b := 4) (d := q) (by omega) (by omega)
          have cs := Lib.hid (cwx_step 4 q (by omega) (by omega))
          go_wp2_with fail
          refine (weight_any _ _ _).mono ?_
          rintro e w6 ⟨rfl, hb6⟩
          go_wp2_with fail
          go_roundw
          case rel => exact ⟨q + 1, by omega, by omega, by rw [cs.out]; go_num, by go_num, bl2 hb6 hbe⟩
          case measure => simp [intOf]; omega
        · have e : q = t := by omega
          subst e
          clear hlt
          go_wp2_with fail
          refine (lives_any _).mono ?_
          rintro e w6 ⟨rfl, hb6⟩
          go_wp2_with fail
          go_ret
          exact ⟨rfl, bl2 hb6 hbe⟩
  · have hb' : (b == 4) = false := by simpa using hb
    have hc := Lib.hid (sumv_cwx b f t hf.1 (by omega) ht.2)
    clear hb
    go_enter Try.func6, Try.ntmps6
    go_wp2_with fail
    refine (rvalid_yes _ _ hf.1 hf.2).mono ?_
    rintro e w' ⟨rfl, rfl⟩
    go_wp2_with fail
    refine (rvalid_yes _ _ ht.1 ht.2).mono ?_
    rintro e w' ⟨rfl, rfl⟩
    go_wp2_with fail
    refine (sum_any _ _ _ _).mono ?_
    rintro e w1 ⟨rfl, hb1⟩
    have b1 : Below w.heap.size w w1 := bl2 hb1 (by repeat (first | assumption | exact Below.refl _ _ | refine Below.setCell ?_ (by first | exact Nat.le_refl _ | (simp; done) | (simp; omega) | omega) _ | refine Below.alloc ?_ (by first | exact Nat.le_refl _ | (simp; done) | (simp; omega) | omega) _ | refine Below.drew ?_ | exact Nat.le_refl _))
    have z1 := hb1.size
    try simp at z1
    clear hb1
    go_wp2_with fail
    refine (sum_any _ _ _ _).mono ?_
    rintro e w2 ⟨rfl, hb2⟩
    have b2 : Below w.heap.size w w2 := bl2 hb2 (by repeat (first | assumption | exact Below.refl _ _ | refine Below.setCell ?_ (by first | exact Nat.le_refl _ | (simp; done) | (simp; omega) | omega) _ | refine Below.alloc ?_ (by first | exact Nat.le_refl _ | (simp; done) | (simp; omega) | omega) _ | refine Below.drew ?_ | exact Nat.le_refl _))
    have z2 := hb2.size
    try simp at z2
    clear hb2
    go_wp2_with fail
    refine (sum_any _ _ _ _).mono ?_
    rintro e w3 ⟨rfl, hb3⟩
    have b3 : Below w.heap.size w w3 := bl2 hb3 (by repeat (first | assumption | exact Below.refl _ _ | refine Below.setCell ?_ (by first | exact Nat.le_refl _ | (simp; done) | (simp; omega) | omega) _ | refine Below.alloc ?_ (by first | exact Nat.le_refl _ | (simp; done) | (simp; omega) | omega) _ | refine Below.drew ?_ | exact Nat.le_refl _))
    have z3 := hb3.size
    try simp at z3
    clear hb3
    have t1 : (sumv b f t != sumv b f m + sumv b m t) = false := by rw [ha.out]; simp
    by_cases hfar : 100 < t - f
    · go_wp2_with fail
      refine (lives_any _).mono ?_
      rintro e w5 ⟨rfl, hb5⟩
      have b5 : Below w.heap.size w w5 := bl2 hb5 (by repeat (first | assumption | exact Below.refl _ _ | refine Below.setCell ?_ (by first | exact Nat.le_refl _ | (simp; done) | (simp; omega) | omega) _ | refine Below.alloc ?_ (by first | exact Nat.le_refl _ | (simp; done) | (simp; omega) | omega) _ | refine Below.drew ?_ | exact Nat.le_refl _))
      have z5 := hb5.size
      try simp at z5
      clear hb5
      go_wp2_with fail
      go_ret
      exact ⟨rfl, b5⟩
    · have hnear : t - f ≤ 100 := by omega
      clear hfar
      go_wp2_with fail
      go_loopw [9, 10] (fun n i wr => ∃ q : Int, f ≤ q ∧ q ≤ t ∧ n = .int .i64 (cwx b t - cwx b q) ∧ i = .int .i64 q ∧ Below w.heap.size w wr) (fun _ i _ => (t - intOf i).toNat)
      case atStart => exact ⟨f, by omega, by omega, by rw [← hc.out], rfl, b3⟩
      case round =>
        obtain ⟨q, hq0, hq1, rfl, rfl, hbe⟩ := hrel
        have c1 := cwx_bd b q (by omega) (by omega)
        have c2 := cwx_bd b t (by omega) (by omega)
        by_cases hlt : q < t
        · have wb := wei_bd (b := b) (d := q) (by omega) (by omega)
          have cs := Lib.hid (cwx_step b q (by omega) (by omega))
          go_wp2_with fail
          refine (weight_any _ _ _).mono ?_
          rintro e w6 ⟨rfl, hb6⟩
          go_wp2_with fail
          go_roundw
          case rel => exact ⟨q + 1, by omega, by omega, by rw [cs.out]; go_num, by go_num, bl2 hb6 hbe⟩
          case measure => simp [intOf]; omega
        · have e : q = t := by omega
          subst e
          clear hlt
          go_wp2_with fail
          refine (lives_any _).mono ?_
          rintro e w6 ⟨rfl, hb6⟩
          go_wp2_with fail
          go_ret
          exact ⟨rfl, bl2 hb6 hbe⟩

theorem adds_walk (b f m t : Int) (_ : (Lit.int .i64 b).wf = true) (_ : (Lit.int .i64 f).wf = true) (_ : (Lit.int .i64 m).wf = true) (_ : (Lit.int .i64 t).wf = true) (w : World) :
    Calls Try.prog 6 #[.int .i64 b, .int .i64 f, .int .i64 m, .int .i64 t] w fun e w' => e = .returned (.bool true) ∧ Below w.heap.size w w' := by
  by_cases h : (0 ≤ f ∧ f ≤ 73048) ∧ (0 ≤ t ∧ t ≤ 73048) ∧ f ≤ m ∧ m ≤ t
  · exact adds_yes b f m t w h.1 h.2.1 h.2.2.1 h.2.2.2
  · exact adds_no b f m t w h
end Go.Proofs.Ytjhhjpcljcnkaaa.Dt
