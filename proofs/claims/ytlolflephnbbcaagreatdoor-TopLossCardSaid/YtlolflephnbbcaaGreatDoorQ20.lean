/-
  Parts of the proof: Cal, Dcm.
-/
namespace Go.Proofs.YtlolflephnbbcaaGreatDoor.Cal

def lp (y : Int) : Int := if y % 4 = 0 ∧ (y % 100 ≠ 0 ∨ y % 400 = 0) then 1 else 0
def begin_ (y : Int) : Int := 365 * (y - 2000) + (y - 1997) / 4 - (if 2100 < y then 1 else 0)
def cum (y m : Int) : Int := if m ≤ 2 then 31 * (m - 1) else (153 * m - 457) / 5 + 59 + lp y
def mlen (y m : Int) : Int := cum y (m + 1) - cum y m

theorem lp_01 (y : Int) : lp y = 0 ∨ lp y = 1 := by unfold lp; split <;> simp
theorem lp_bd (y : Int) : 0 ≤ lp y ∧ lp y ≤ 1 := by rcases lp_01 y with h | h <;> omega

theorem begin_succ (y : Int) (h0 : 2000 ≤ y) (h1 : y ≤ 2199) : begin_ (y + 1) = begin_ y + 365 + lp y := by
 unfold begin_ lp; split <;> split <;> split <;> omega
theorem begin_mono (a b : Int) (h0 : 2000 ≤ a) (h : a ≤ b) : begin_ a ≤ begin_ b := by
 unfold begin_; split <;> split <;> omega
theorem begin_0 : begin_ 2000 = 0 := by decide
theorem begin_200 : begin_ 2200 = 73049 := by decide
theorem begin_bd (y : Int) (h0 : 2000 ≤ y) (h1 : y ≤ 2200) : 0 ≤ begin_ y ∧ begin_ y ≤ 73049 := by
 have a := begin_mono 2000 y (by omega) h0
 have b := begin_mono y 2200 h0 h1
 rw [begin_0] at a; rw [begin_200] at b; exact ⟨a, b⟩

theorem cum_1 (y : Int) : cum y 1 = 0 := by simp [cum]
theorem cum_13 (y : Int) : cum y 13 = 365 + lp y := by simp [cum]
theorem cum_mono (y a b : Int) (h0 : 1 ≤ a) (h : a ≤ b) : cum y a ≤ cum y b := by
 have := lp_bd y
 unfold cum; split <;> split <;> omega
theorem cum_succ (y m : Int) : cum y (m + 1) = cum y m + mlen y m := by unfold mlen; omega
theorem cum_bd (y m : Int) (h0 : 1 ≤ m) (h1 : m ≤ 13) : 0 ≤ cum y m ∧ cum y m ≤ 366 := by
 have a := cum_mono y 1 m (by omega) h0
 have b := cum_mono y m 13 h0 h1
 have := lp_bd y
 rw [cum_1] at a; rw [cum_13] at b; omega
theorem mlen_bd (y m : Int) (h0 : 1 ≤ m) (h1 : m ≤ 12) : 28 ≤ mlen y m ∧ mlen y m ≤ 31 := by
 have := lp_bd y
 unfold mlen cum; split <;> split <;> omega
theorem mlen_2 (y : Int) : mlen y 2 = 28 + lp y := by
 simp [mlen, cum]; omega
theorem mlen_30 (y m : Int) (h : m = 4 ∨ m = 6 ∨ m = 9 ∨ m = 11) : mlen y m = 30 := by
 rcases h with h | h | h | h <;> subst h <;> simp [mlen, cum] <;> omega
theorem mlen_31 (y m : Int) (h : m = 1 ∨ m = 3 ∨ m = 5 ∨ m = 7 ∨ m = 8 ∨ m = 10 ∨ m = 12) : mlen y m = 31 := by
 rcases h with h | h | h | h | h | h | h <;> subst h <;> simp [mlen, cum] <;> omega

structure IsCivil (d y m k : Int) : Prop where
 y0 : 2000 ≤ y
 y1 : y ≤ 2199
 m0 : 1 ≤ m
 m1 : m ≤ 12
 k0 : 1 ≤ k
 k1 : k ≤ mlen y m
 at_ : d = begin_ y + cum y m + k - 1

theorem IsCivil.year {d y m k : Int} (h : IsCivil d y m k) : begin_ y ≤ d ∧ d < begin_ (y + 1) := by
 have a := cum_bd y m h.m0 (by have := h.m1; omega)
 have b := cum_succ y m
 have c := cum_mono y (m + 1) 13 (by have := h.m0; omega) (by have := h.m1; omega)
 have e := begin_succ y h.y0 h.y1
 rw [cum_13] at c
 have := h.at_; have := h.k0; have := h.k1
 omega
theorem IsCivil.month {d y m k : Int} (h : IsCivil d y m k) : cum y m ≤ d - begin_ y ∧ d - begin_ y < cum y (m + 1) := by
 have b := cum_succ y m
 have := h.at_; have := h.k0; have := h.k1
 omega
theorem IsCivil.valid {d y m k : Int} (h : IsCivil d y m k) : 0 ≤ d ∧ d ≤ 73048 := by
 have a := h.year
 have b := begin_bd y h.y0 (by have := h.y1; omega)
 have c := begin_bd (y + 1) (by have := h.y0; omega) (by have := h.y1; omega)
 omega
theorem year_uniq {d y y' : Int} (h0 : 2000 ≤ y) (h0' : 2000 ≤ y') (h : begin_ y ≤ d ∧ d < begin_ (y + 1)) (h' : begin_ y' ≤ d ∧ d < begin_ (y' + 1)) : y = y' := by
 rcases Int.lt_trichotomy y y' with c | c | c
 ·have := begin_mono (y + 1) y' (by omega) (by omega); omega
 ·exact c
 ·have := begin_mono (y' + 1) y (by omega) (by omega); omega
theorem month_uniq {x y m m' : Int} (h0 : 1 ≤ m) (h0' : 1 ≤ m') (h : cum y m ≤ x ∧ x < cum y (m + 1)) (h' : cum y m' ≤ x ∧ x < cum y (m' + 1)) : m = m' := by
 rcases Int.lt_trichotomy m m' with c | c | c
 ·have := cum_mono y (m + 1) m' (by omega) (by omega); omega
 ·exact c
 ·have := cum_mono y (m' + 1) m (by omega) (by omega); omega
theorem IsCivil.uniq {d y m k y' m' k' : Int} (h : IsCivil d y m k) (h' : IsCivil d y' m' k') : y = y' ∧ m = m' ∧ k = k' := by
 have ey := year_uniq h.y0 h'.y0 h.year h'.year
 subst ey
 have em := month_uniq h.m0 h'.m0 h.month h'.month
 subst em
 have := h.at_; have := h'.at_
 refine ⟨rfl, rfl, by omega⟩
theorem IsCivil.next {d y m k : Int} (h : IsCivil d y m k) (hd : d + 1 ≤ 73048) :
  (k + 1 ≤ mlen y m ∧ IsCivil (d + 1) y m (k + 1)) ∨ (k = mlen y m ∧ m + 1 ≤ 12 ∧ IsCivil (d + 1) y (m + 1) 1) ∨ (k = mlen y m ∧ m = 12 ∧ y + 1 ≤ 2199 ∧ IsCivil (d + 1) (y + 1) 1 1) := by
 obtain ⟨a, b, c, e, f, g, r⟩ := h
 by_cases hk : k + 1 ≤ mlen y m
 ·exact .inl ⟨hk, a, b, c, e, by omega, hk, by omega⟩
 ·have hk' : k = mlen y m := by omega
  by_cases hm : m + 1 ≤ 12
  ·have u := cum_succ y m
   have v := mlen_bd y (m + 1) (by omega) hm
   exact .inr (.inl ⟨hk', hm, a, b, by omega, hm, by omega, by omega, by omega⟩)
  ·have hm' : m = 12 := by omega
   subst hm'
   have u := cum_succ y 12
   have u' := cum_13 y
   have e' := begin_succ y a b
   have w1 := cum_1 (y + 1)
   have v := mlen_bd (y + 1) 1 (by omega) (by omega)
   have hy : y + 1 ≤ 2199 := by
    by_cases q : y = 2199
    ·subst q
     have z := begin_200
     simp only [show (2199 : Int) + 1 = 2200 from rfl, show (12 : Int) + 1 = 13 from rfl] at *
     omega
    ·omega
   simp only [show (12 : Int) + 1 = 13 from rfl] at *
   exact .inr (.inr ⟨hk', trivial, hy, by omega, hy, by omega, by omega, by omega, by omega, by omega⟩)
theorem civil_0 : IsCivil 0 2000 1 1 := ⟨by decide, by decide, by decide, by decide, by decide, by decide, by decide⟩
theorem civil_ex (n : Nat) (h : n ≤ 73048) : ∃ y m k : Int, IsCivil n y m k := by
 induction n with
 | zero => exact ⟨_, _, _, civil_0⟩
 | succ n ih =>
  obtain ⟨y, m, k, hc⟩ := ih (by omega)
  rcases hc.next (by omega) with ⟨_, r⟩ | ⟨_, _, r⟩ | ⟨_, _, _, r⟩
  ·exact ⟨_, _, _, r⟩
  ·exact ⟨_, _, _, r⟩
  ·exact ⟨_, _, _, r⟩
theorem civil_of (d : Int) (h0 : 0 ≤ d) (h1 : d ≤ 73048) : ∃ t : Int × Int × Int, IsCivil d t.1 t.2.1 t.2.2 := by
 obtain ⟨n, rfl⟩ := Int.eq_ofNat_of_zero_le h0
 obtain ⟨y, m, k, hc⟩ := civil_ex n (by omega)
 exact ⟨(y, m, k), hc⟩

open Classical in
noncomputable def civ (d : Int) : Int × Int × Int := if h : ∃ t : Int × Int × Int, IsCivil d t.1 t.2.1 t.2.2 then choose h else (0, 0, 0)
noncomputable def cy (d : Int) : Int := (civ d).1
noncomputable def cm (d : Int) : Int := (civ d).2.1
noncomputable def ck (d : Int) : Int := (civ d).2.2
theorem civ_spec (d : Int) (h0 : 0 ≤ d) (h1 : d ≤ 73048) : IsCivil d (cy d) (cm d) (ck d) := by
 have h := civil_of d h0 h1
 have e : civ d = Classical.choose h := by unfold civ; rw [dif_pos h]
 unfold cy cm ck
 rw [e]; exact Classical.choose_spec h
theorem civ_eq {d y m k : Int} (h : IsCivil d y m k) : cy d = y ∧ cm d = m ∧ ck d = k :=
 (civ_spec d h.valid.1 h.valid.2).uniq h

noncomputable def u30 (d : Int) : Int := 360 * cy d + 30 * cm d + min (ck d) 30
def wt (y : Int) : Int := 4392 - 12 * lp y
noncomputable def act (d : Int) : Int := 1603080 * (cy d - 2000) + (d - begin_ (cy d)) * wt (cy d)
noncomputable def cw (b d : Int) : Int := if b = 1 then 4453 * d else if b = 2 then 4392 * d else if b = 3 then act d else 4453 * u30 d

theorem wt_01 (y : Int) : (lp y = 1 ∧ wt y = 4380) ∨ (lp y = 0 ∧ wt y = 4392) := by
 rcases lp_01 y with h | h
 ·exact .inr ⟨h, by unfold wt; omega⟩
 ·exact .inl ⟨h, by unfold wt; omega⟩
noncomputable def wgt (b d : Int) : Int := if b = 1 then 4453 else if b = 2 then 4392 else if b = 3 then wt (cy d) else if b = 4 then (if d + 1 ≤ 73048 then 4453 * (u30 (d + 1) - u30 d) else 0) else 0
theorem wt_bd (y : Int) : 4380 ≤ wt y ∧ wt y ≤ 4392 := by rcases wt_01 y with ⟨_, g⟩ | ⟨_, g⟩ <;> omega
noncomputable def sumv (b f t : Int) : Int := if (1 ≤ b ∧ b ≤ 4) ∧ 0 ≤ f ∧ f ≤ t ∧ t ≤ 73048 then cw b t - cw b f else 0
noncomputable def thi (f t : Int) : Int := if (0 ≤ f ∧ f ≤ 73048) ∧ (0 ≤ t ∧ t ≤ 73048) then u30 t - u30 f else 0
noncomputable def wei (b d : Int) : Int := if 0 ≤ d ∧ d ≤ 73048 then wgt b d else 0
theorem wei_in {b d : Int} (h0 : 0 ≤ d) (h1 : d ≤ 73048) : wei b d = wgt b d := if_pos ⟨h0, h1⟩
theorem wei_out {b d : Int} (h : d < 0 ∨ 73048 < d) : wei b d = 0 := if_neg (by omega)
end Go.Proofs.YtlolflephnbbcaaGreatDoor.Cal
