/-
  The walks of the statements DaycountSums, DaycountAdds and DaycountYears: each returns true, for every argument.
-/
import Derived.Test.YtjhhjpcljcnkaaaLawsA
namespace Go.Proofs.Ytjhhjpcljcnkaaa.Dt
open Go.RowKit
open Go.Proofs.Ytjhhjpcljcnkaaa
open Go.Proofs.Ytjhhjpcljcnkaaa.Cal Go.Proofs.Ytjhhjpcljcnkaaa.Wm Go.Proofs.Ytjhhjpcljcnkaaa.Wt

/-- The call returns one bool or the other, and leaves the world alone. -/
def SomeBool (w : World) (e : Ending) (w' : World) : Prop := ∃ b : Bool, e = .returned (.bool b) ∧ w = w'
theorem near_any (f t : Int) (w : World) : Calls Try.prog 17 #[.int .i64 f, .int .i64 t] w (SomeBool w) := by
  by_cases hf : 0 ≤ f ∧ f ≤ 73048
  · by_cases ht : 0 ≤ t ∧ t ≤ 73048
    · go_enter Try.func17, Try.ntmps17
      go_wp2_with fail
      refine (rvalid_yes _ _ hf.1 hf.2).mono ?_
      rintro e w' ⟨rfl, rfl⟩
      go_wp2_with fail
      refine (rvalid_yes _ _ ht.1 ht.2).mono ?_
      rintro e w' ⟨rfl, rfl⟩
      go_wp2_with fail
      go_ret
      exact ⟨_, rfl, rfl⟩
    · have ht' := val_of_not ht
      clear ht
      go_enter Try.func17, Try.ntmps17
      go_wp2_with fail
      refine (rvalid_yes _ _ hf.1 hf.2).mono ?_
      rintro e w' ⟨rfl, rfl⟩
      go_wp2_with fail
      refine (rvalid_no _ _ ht').mono ?_
      rintro e w' ⟨rfl, rfl⟩
      go_wp2_with fail
      go_ret
      exact ⟨_, rfl, rfl⟩
  · have hf' := val_of_not hf
    clear hf
    go_enter Try.func17, Try.ntmps17
    go_wp2_with fail
    refine (rvalid_no _ _ hf').mono ?_
    rintro e w' ⟨rfl, rfl⟩
    go_wp2_with fail
    go_ret
    exact ⟨_, rfl, rfl⟩

theorem sums_walk (b f t : Int) (_ : (Lit.int .i64 b).wf = true) (_ : (Lit.int .i64 f).wf = true) (_ : (Lit.int .i64 t).wf = true) (w : World) :
    Calls Try.prog 5 #[.int .i64 b, .int .i64 f, .int .i64 t] w fun e w' => e = .returned (.bool true) ∧ Below w.heap.size w w' := by
  go_enter Try.func5, Try.ntmps5
  go_wp2_with fail
  refine (near_any _ _ _).mono ?_
  rintro e w' ⟨n, rfl, rfl⟩
  cases n
  · go_wp2_with fail
    refine (lives_any _).mono ?_
    rintro e w1 ⟨rfl, hb1⟩
    have b1 : Below w.heap.size w w1 := bl2 hb1 (by repeat (first | assumption | exact Below.refl _ _ | refine Below.setCell ?_ (by first | exact Nat.le_refl _ | (simp; done) | (simp; omega) | omega) _ | refine Below.alloc ?_ (by first | exact Nat.le_refl _ | (simp; done) | (simp; omega) | omega) _ | refine Below.drew ?_ | exact Nat.le_refl _))
    have z1 := hb1.size
    try simp at z1
    clear hb1
    go_wp2_with fail
    go_ret
    exact ⟨rfl, b1⟩
  · go_wp2_with fail
    refine (sum_any _ _ _ _).mono ?_
    rintro e w1 ⟨rfl, hb1⟩
    have b1 : Below w.heap.size w w1 := bl2 hb1 (by repeat (first | assumption | exact Below.refl _ _ | refine Below.setCell ?_ (by first | exact Nat.le_refl _ | (simp; done) | (simp; omega) | omega) _ | refine Below.alloc ?_ (by first | exact Nat.le_refl _ | (simp; done) | (simp; omega) | omega) _ | refine Below.drew ?_ | exact Nat.le_refl _))
    have z1 := hb1.size
    try simp at z1
    clear hb1
    go_wp2_with fail
    refine (rsum_any _ _ _ _).mono ?_
    rintro e w' ⟨rfl, rfl⟩
    go_wp2_with fail
    refine (lives_any _).mono ?_
    rintro e w2 ⟨rfl, hb2⟩
    have b2 : Below w.heap.size w w2 := bl2 hb2 (by repeat (first | assumption | exact Below.refl _ _ | refine Below.setCell ?_ (by first | exact Nat.le_refl _ | (simp; done) | (simp; omega) | omega) _ | refine Below.alloc ?_ (by first | exact Nat.le_refl _ | (simp; done) | (simp; omega) | omega) _ | refine Below.drew ?_ | exact Nat.le_refl _))
    have z2 := hb2.size
    try simp at z2
    clear hb2
    go_wp2_with fail
    go_ret
    exact ⟨rfl, b2⟩

/-- Two numbers come back, and the world is as it was. -/
def SomeTwo (w : World) (e : Ending) (w' : World) : Prop := ∃ a b : Int, e = .returned (.tuple #[.int .i64 a, .int .i64 b]) ∧ w = w'
theorem rday_some (y m k : Int) (w : World) : Calls Try.prog 24 #[.int .i64 y, .int .i64 m, .int .i64 k] w (SomeTwo w) := by
  by_cases h : dateOk y m k
  · exact (rday_yes y m k w h).mono fun _ _ ⟨he, hw⟩ => ⟨_, _, he, hw⟩
  · exact (rday_no y m k w h).mono fun _ _ ⟨he, hw⟩ => ⟨_, _, he, hw⟩

theorem year_facts {y m d : Int} (h : dateOk y m d) (h' : dateOk (y + 1) m d) :
    sumv 4 (begin_ y + cum y m + d - 1) (begin_ (y + 1) + cum (y + 1) m + d - 1) = 1603080 ∧
    1603080 ≤ sumv 2 (begin_ y + cum y m + d - 1) (begin_ (y + 1) + cum (y + 1) m + d - 1) ∧
    (m = 1 → d = 1 → sumv 3 (begin_ y + cum y m + d - 1) (begin_ (y + 1) + cum (y + 1) m + d - 1) = 1603080) := by
  obtain ⟨y0, y1, m0, m1, k0, k1⟩ := h
  obtain ⟨y0', y1', _, _, _, k1'⟩ := h'
  have cf : IsCivil (begin_ y + cum y m + d - 1) y m d := ⟨y0, y1, m0, m1, k0, k1, rfl⟩
  have ct : IsCivil (begin_ (y + 1) + cum (y + 1) m + d - 1) (y + 1) m d := ⟨y0', y1', m0, m1, k0, k1', rfl⟩
  have vf := cf.valid
  have vt := ct.valid
  have bs := begin_succ y y0 y1
  have l1 := lp_bd y
  have l2 := lp_bd (y + 1)
  have hge : begin_ y + cum y m + d - 1 + 365 ≤ begin_ (y + 1) + cum (y + 1) m + d - 1 := by
    unfold cum; split <;> omega
  have uf := u_of cf
  have ut := u_of ct
  refine ⟨?_, ?_, ?_⟩
  · rw [sumv_in (by omega)]; simp only [cw]; simp; rw [uf, ut]; omega
  · rw [sumv_in (by omega)]; simp only [cw]; simp; omega
  · intro hm hd
    subst hm hd
    rw [sumv_in (by omega)]; simp only [cw]; simp
    have e1 : begin_ y + cum y 1 = begin_ y := by rw [cum_1]; omega
    have e2 : begin_ (y + 1) + cum (y + 1) 1 = begin_ (y + 1) := by rw [cum_1]; omega
    rw [e1, e2]
    have vf' : 0 ≤ begin_ y ∧ begin_ y ≤ 73048 := by omega
    have vt' : 0 ≤ begin_ (y + 1) ∧ begin_ (y + 1) ≤ 73048 := by omega
    have b1 := begin_succ (y + 1) y0' y1'
    have a1 := (act_in (begin_ y) y vf'.1 vf'.2 y0 ⟨by omega, by omega⟩).2
    have a2 := (act_in (begin_ (y + 1)) (y + 1) vt'.1 vt'.2 y0' ⟨by omega, by omega⟩).2
    rw [Int.sub_self, Int.zero_mul] at a1 a2
    omega

theorem rday_at (y m k f : Int) (w : World) (hd : dateOk y m k) (hf : f = begin_ y + cum y m + k - 1) : Calls Try.prog 24 #[.int .i64 y, .int .i64 m, .int .i64 k] w fun e w' => e = .returned (.tuple #[.int .i64 f, .int .i64 0]) ∧ w = w' := by
  subst hf; exact rday_yes y m k w hd
theorem years_walk (y m d : Int) (_ : (Lit.int .i64 y).wf = true) (_ : (Lit.int .i64 m).wf = true) (_ : (Lit.int .i64 d).wf = true) (w : World) :
    Calls Try.prog 9 #[.int .i64 y, .int .i64 m, .int .i64 d] w fun e w' => e = .returned (.bool true) ∧ Below w.heap.size w w' := by
  by_cases h : dateOk y m d
  · have hy0 := h.1
    have hy1 := h.2.1
    by_cases h' : dateOk (y + 1) m d
    · obtain ⟨s4, s2, s3⟩ := year_facts h h'
      obtain ⟨f, hf⟩ : ∃ f, f = begin_ y + cum y m + d - 1 := ⟨_, rfl⟩
      obtain ⟨t, ht⟩ : ∃ t, t = begin_ (y + 1) + cum (y + 1) m + d - 1 := ⟨_, rfl⟩
      rw [← hf, ← ht] at s4 s2 s3
      have H := fun W => rday_at y m d f W h hf
      have H' := fun W => rday_at (y + 1) m d t W h' ht
      clear hf ht
      have S4 := Lib.hid s4
      have S2 := Lib.hid s2
      clear h h' s4
      have Hh := Lib.hid H
      have Hh' := Lib.hid H'
      clear H H'
      by_cases hm : m = 1 ∧ d = 1
      · obtain ⟨hm, hd⟩ := hm
        have S3 := Lib.hid (s3 hm hd)
        clear s3
        subst hm hd
        go_enter Try.func9, Try.ntmps9
        go_wp2_with fail
        refine (Hh.out _).mono ?_
        rintro e w' ⟨rfl, rfl⟩
        go_wp2_with fail
        refine (Hh'.out _).mono ?_
        rintro e w' ⟨rfl, rfl⟩
        go_wp2_with fail
        refine (sum_any _ _ _ _).mono ?_
        rw [S3.out]
        rintro e w1 ⟨rfl, hb1⟩
        have b1 : Below w.heap.size w w1 := bl2 hb1 (by repeat (first | assumption | exact Below.refl _ _ | refine Below.setCell ?_ (by first | exact Nat.le_refl _ | (simp; done) | (simp; omega) | omega) _ | refine Below.alloc ?_ (by first | exact Nat.le_refl _ | (simp; done) | (simp; omega) | omega) _ | refine Below.drew ?_ | exact Nat.le_refl _))
        have z1 := hb1.size
        try simp at z1
        clear hb1
        go_wp2_with fail
        refine (sum_any _ _ _ _).mono ?_
        rw [S4.out]
        rintro e w2 ⟨rfl, hb2⟩
        have b2 : Below w.heap.size w w2 := bl2 hb2 (by repeat (first | assumption | exact Below.refl _ _ | refine Below.setCell ?_ (by first | exact Nat.le_refl _ | (simp; done) | (simp; omega) | omega) _ | refine Below.alloc ?_ (by first | exact Nat.le_refl _ | (simp; done) | (simp; omega) | omega) _ | refine Below.drew ?_ | exact Nat.le_refl _))
        have z2 := hb2.size
        try simp at z2
        clear hb2
        go_wp2_with fail
        refine (sum_any _ _ _ _).mono ?_
        rintro e w3 ⟨rfl, hb3⟩
        have b3 : Below w.heap.size w w3 := bl2 hb3 (by repeat (first | assumption | exact Below.refl _ _ | refine Below.setCell ?_ (by first | exact Nat.le_refl _ | (simp; done) | (simp; omega) | omega) _ | refine Below.alloc ?_ (by first | exact Nat.le_refl _ | (simp; done) | (simp; omega) | omega) _ | refine Below.drew ?_ | exact Nat.le_refl _))
        have z3 := hb3.size
        try simp at z3
        clear hb3
        go_wp2_with fail
        refine (lives_any _).mono ?_
        rintro e w4 ⟨rfl, hb4⟩
        have b4 : Below w.heap.size w w4 := bl2 hb4 (by repeat (first | assumption | exact Below.refl _ _ | refine Below.setCell ?_ (by first | exact Nat.le_refl _ | (simp; done) | (simp; omega) | omega) _ | refine Below.alloc ?_ (by first | exact Nat.le_refl _ | (simp; done) | (simp; omega) | omega) _ | refine Below.drew ?_ | exact Nat.le_refl _))
        have z4 := hb4.size
        try simp at z4
        clear hb4
        go_wp2_with fail
        go_ret
        exact ⟨rfl, b4⟩
      · by_cases hm1 : m = 1
        · have hd1 : (d == 1) = false := by
            have : ¬ d = 1 := fun e => hm ⟨hm1, e⟩
            simpa using this
          clear s3
          subst hm1
          clear hm
          go_enter Try.func9, Try.ntmps9
          go_wp2_with fail
          refine (Hh.out _).mono ?_
          rintro e w' ⟨rfl, rfl⟩
          go_wp2_with fail
          refine (Hh'.out _).mono ?_
          rintro e w' ⟨rfl, rfl⟩
          go_wp2_with fail
          refine (sum_any _ _ _ _).mono ?_
          rw [S4.out]
          rintro e w2 ⟨rfl, hb2⟩
          have b2 : Below w.heap.size w w2 := bl2 hb2 (by repeat (first | assumption | exact Below.refl _ _ | refine Below.setCell ?_ (by first | exact Nat.le_refl _ | (simp; done) | (simp; omega) | omega) _ | refine Below.alloc ?_ (by first | exact Nat.le_refl _ | (simp; done) | (simp; omega) | omega) _ | refine Below.drew ?_ | exact Nat.le_refl _))
          have z2 := hb2.size
          try simp at z2
          clear hb2
          go_wp2_with fail
          refine (sum_any _ _ _ _).mono ?_
          rintro e w3 ⟨rfl, hb3⟩
          have b3 : Below w.heap.size w w3 := bl2 hb3 (by repeat (first | assumption | exact Below.refl _ _ | refine Below.setCell ?_ (by first | exact Nat.le_refl _ | (simp; done) | (simp; omega) | omega) _ | refine Below.alloc ?_ (by first | exact Nat.le_refl _ | (simp; done) | (simp; omega) | omega) _ | refine Below.drew ?_ | exact Nat.le_refl _))
          have z3 := hb3.size
          try simp at z3
          clear hb3
          go_wp2_with fail
          refine (lives_any _).mono ?_
          rintro e w4 ⟨rfl, hb4⟩
          have b4 : Below w.heap.size w w4 := bl2 hb4 (by repeat (first | assumption | exact Below.refl _ _ | refine Below.setCell ?_ (by first | exact Nat.le_refl _ | (simp; done) | (simp; omega) | omega) _ | refine Below.alloc ?_ (by first | exact Nat.le_refl _ | (simp; done) | (simp; omega) | omega) _ | refine Below.drew ?_ | exact Nat.le_refl _))
          have z4 := hb4.size
          try simp at z4
          clear hb4
          go_wp2_with fail
          go_ret
          exact ⟨rfl, b4⟩
        · have hm2 : (m == 1) = false := by simpa using hm1
          clear hm hm1 s3
          go_enter Try.func9, Try.ntmps9
          go_wp2_with fail
          refine (Hh.out _).mono ?_
          rintro e w' ⟨rfl, rfl⟩
          go_wp2_with fail
          refine (Hh'.out _).mono ?_
          rintro e w' ⟨rfl, rfl⟩
          go_wp2_with fail
          refine (sum_any _ _ _ _).mono ?_
          rw [S4.out]
          rintro e w2 ⟨rfl, hb2⟩
          have b2 : Below w.heap.size w w2 := bl2 hb2 (by repeat (first | assumption | exact Below.refl _ _ | refine Below.setCell ?_ (by first | exact Nat.le_refl _ | (simp; done) | (simp; omega) | omega) _ | refine Below.alloc ?_ (by first | exact Nat.le_refl _ | (simp; done) | (simp; omega) | omega) _ | refine Below.drew ?_ | exact Nat.le_refl _))
          have z2 := hb2.size
          try simp at z2
          clear hb2
          go_wp2_with fail
          refine (sum_any _ _ _ _).mono ?_
          rintro e w3 ⟨rfl, hb3⟩
          have b3 : Below w.heap.size w w3 := bl2 hb3 (by repeat (first | assumption | exact Below.refl _ _ | refine Below.setCell ?_ (by first | exact Nat.le_refl _ | (simp; done) | (simp; omega) | omega) _ | refine Below.alloc ?_ (by first | exact Nat.le_refl _ | (simp; done) | (simp; omega) | omega) _ | refine Below.drew ?_ | exact Nat.le_refl _))
          have z3 := hb3.size
          try simp at z3
          clear hb3
          go_wp2_with fail
          refine (lives_any _).mono ?_
          rintro e w4 ⟨rfl, hb4⟩
          have b4 : Below w.heap.size w w4 := bl2 hb4 (by repeat (first | assumption | exact Below.refl _ _ | refine Below.setCell ?_ (by first | exact Nat.le_refl _ | (simp; done) | (simp; omega) | omega) _ | refine Below.alloc ?_ (by first | exact Nat.le_refl _ | (simp; done) | (simp; omega) | omega) _ | refine Below.drew ?_ | exact Nat.le_refl _))
          have z4 := hb4.size
          try simp at z4
          clear hb4
          go_wp2_with fail
          go_ret
          exact ⟨rfl, b4⟩
    · have H := Lib.hid h
      have H' := Lib.hid h'
      clear h h'
      go_enter Try.func9, Try.ntmps9
      go_wp2_with fail
      refine (rday_yes _ _ _ _ H.out).mono ?_
      rintro e w' ⟨rfl, rfl⟩
      go_wp2_with fail
      refine (rday_no _ _ _ _ H'.out).mono ?_
      rintro e w' ⟨rfl, rfl⟩
      go_wp2_with fail
      refine (lives_any _).mono ?_
      rintro e w4 ⟨rfl, hb4⟩
      have b4 : Below w.heap.size w w4 := bl2 hb4 (by repeat (first | assumption | exact Below.refl _ _ | refine Below.setCell ?_ (by first | exact Nat.le_refl _ | (simp; done) | (simp; omega) | omega) _ | refine Below.alloc ?_ (by first | exact Nat.le_refl _ | (simp; done) | (simp; omega) | omega) _ | refine Below.drew ?_ | exact Nat.le_refl _))
      have z4 := hb4.size
      try simp at z4
      clear hb4
      go_wp2_with fail
      go_ret
      exact ⟨rfl, b4⟩
  · have H := Lib.hid h
    clear h
    go_enter Try.func9, Try.ntmps9
    go_wp2_with fail
    refine (rday_no _ _ _ _ H.out).mono ?_
    rintro e w' ⟨rfl, rfl⟩
    go_wp2_with fail
    refine (rday_some _ _ _ _).mono ?_
    rintro e w' ⟨n1, n2, rfl, rfl⟩
    go_wp2_with fail
    refine (lives_any _).mono ?_
    rintro e w4 ⟨rfl, hb4⟩
    have b4 : Below w.heap.size w w4 := bl2 hb4 (by repeat (first | assumption | exact Below.refl _ _ | refine Below.setCell ?_ (by first | exact Nat.le_refl _ | (simp; done) | (simp; omega) | omega) _ | refine Below.alloc ?_ (by first | exact Nat.le_refl _ | (simp; done) | (simp; omega) | omega) _ | refine Below.drew ?_ | exact Nat.le_refl _))
    have z4 := hb4.size
    try simp at z4
    clear hb4
    go_wp2_with fail
    go_ret
    exact ⟨rfl, b4⟩
end Go.Proofs.Ytjhhjpcljcnkaaa.Dt
