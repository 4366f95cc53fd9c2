/-
  Parts of the proof: Cal.
-/
namespace Go.Proofs.YtjhpiclnpmdjnaaGreatDoor.Cal

def lp (y : Int) : Int := if y % 4 = 0 ∧ (y % 100 ≠ 0 ∨ y % 400 = 0) then 1 else 0
def begin_ (y : Int) : Int := 365 * (y - 2000) + (y - 1997) / 4 - (if 2100 < y then 1 else 0)
def cum (y m : Int) : Int := if m ≤ 2 then 31 * (m - 1) else (153 * m - 457) / 5 + 59 + lp y
def mlen (y m : Int) : Int := cum y (m + 1) - cum y m

theorem lp_01 (y : Int) : lp y = 0 ∨ lp y = 1 := by unfold lp; split <;> simp
theorem lp_bd (y : Int) : 0 ≤ lp y ∧ lp y ≤ 1 := by rcases lp_01 y with h | h <;> omega

theorem begin_succ (y : Int) (h0 : 2000 ≤ y) (h1 : y ≤ 2199) : begin_ (y + 1) = begin_ y + 365 + lp y := by
 unfold begin_ lp; split <;> split <;> split <;> omega
theorem begin_mono (a b : Int) (h0 : 2000 ≤ a) (h : a ≤ b) : begin_ a ≤ begin_ b := by
 unfold begin_; split <;> split <;> omega
theorem begin_0 : begin_ 2000 = 0 := by decide
theorem begin_200 : begin_ 2200 = 73049 := by decide
theorem begin_bd (y : Int) (h0 : 2000 ≤ y) (h1 : y ≤ 2200) : 0 ≤ begin_ y ∧ begin_ y ≤ 73049 := by
 have a := begin_mono 2000 y (by omega) h0
 have b := begin_mono y 2200 h0 h1
 rw [begin_0] at a; rw [begin_200] at b; exact ⟨a, b⟩

theorem cum_1 (y : Int) : cum y 1 = 0 := by simp [cum]
theorem cum_13 (y : Int) : cum y 13 = 365 + lp y := by simp [cum]
theorem cum_mono (y a b : Int) (h0 : 1 ≤ a) (h : a ≤ b) : cum y a ≤ cum y b := by
 have := lp_bd y
 unfold cum; split <;> split <;> omega
theorem cum_succ (y m : Int) : cum y (m + 1) = cum y m + mlen y m := by unfold mlen; omega
theorem cum_bd (y m : Int) (h0 : 1 ≤ m) (h1 : m ≤ 13) : 0 ≤ cum y m ∧ cum y m ≤ 366 := by
 have a := cum_mono y 1 m (by omega) h0
 have b := cum_mono y m 13 h0 h1
 have := lp_bd y
 rw [cum_1] at a; rw [cum_13] at b; omega
theorem mlen_bd (y m : Int) (h0 : 1 ≤ m) (h1 : m ≤ 12) : 28 ≤ mlen y m ∧ mlen y m ≤ 31 := by
 have := lp_bd y
 unfold mlen cum; split <;> split <;> omega
structure IsCivil (d y m k : Int) : Prop where
 y0 : 2000 ≤ y
 y1 : y ≤ 2199
 m0 : 1 ≤ m
 m1 : m ≤ 12
 k0 : 1 ≤ k
 k1 : k ≤ mlen y m
 at_ : d = begin_ y + cum y m + k - 1

theorem IsCivil.year {d y m k : Int} (h : IsCivil d y m k) : begin_ y ≤ d ∧ d < begin_ (y + 1) := by
 have a := cum_bd y m h.m0 (by have := h.m1; omega)
 have b := cum_succ y m
 have c := cum_mono y (m + 1) 13 (by have := h.m0; omega) (by have := h.m1; omega)
 have e := begin_succ y h.y0 h.y1
 rw [cum_13] at c
 have := h.at_; have := h.k0; have := h.k1
 omega
theorem IsCivil.month {d y m k : Int} (h : IsCivil d y m k) : cum y m ≤ d - begin_ y ∧ d - begin_ y < cum y (m + 1) := by
 have b := cum_succ y m
 have := h.at_; have := h.k0; have := h.k1
 omega
theorem IsCivil.valid {d y m k : Int} (h : IsCivil d y m k) : 0 ≤ d ∧ d ≤ 73048 := by
 have a := h.year
 have b := begin_bd y h.y0 (by have := h.y1; omega)
 have c := begin_bd (y + 1) (by have := h.y0; omega) (by have := h.y1; omega)
 omega
theorem IsCivil.next {d y m k : Int} (h : IsCivil d y m k) (hd : d + 1 ≤ 73048) :
  (k + 1 ≤ mlen y m ∧ IsCivil (d + 1) y m (k + 1)) ∨ (k = mlen y m ∧ m + 1 ≤ 12 ∧ IsCivil (d + 1) y (m + 1) 1) ∨ (k = mlen y m ∧ m = 12 ∧ y + 1 ≤ 2199 ∧ IsCivil (d + 1) (y + 1) 1 1) := by
 obtain ⟨a, b, c, e, f, g, r⟩ := h
 by_cases hk : k + 1 ≤ mlen y m
 ·exact .inl ⟨hk, a, b, c, e, by omega, hk, by omega⟩
 ·have hk' : k = mlen y m := by omega
  by_cases hm : m + 1 ≤ 12
  ·have u := cum_succ y m
   have v := mlen_bd y (m + 1) (by omega) hm
   exact .inr (.inl ⟨hk', hm, a, b, by omega, hm, by omega, by omega, by omega⟩)
  ·have hm' : m = 12 := by omega
   subst hm'
   have u := cum_succ y 12
   have u' := cum_13 y
   have e' := begin_succ y a b
   have w1 := cum_1 (y + 1)
   have v := mlen_bd (y + 1) 1 (by omega) (by omega)
   have hy : y + 1 ≤ 2199 := by
    by_cases q : y = 2199
    ·subst q
     have z := begin_200
     simp only [show (2199 : Int) + 1 = 2200 from rfl, show (12 : Int) + 1 = 13 from rfl] at *
     omega
    ·omega
   simp only [show (12 : Int) + 1 = 13 from rfl] at *
   exact .inr (.inr ⟨hk', trivial, hy, by omega, hy, by omega, by omega, by omega, by omega, by omega⟩)
open Classical in
noncomputable def civ (d : Int) : Int × Int × Int := if h : ∃ t : Int × Int × Int, IsCivil d t.1 t.2.1 t.2.2 then choose h else (0, 0, 0)
noncomputable def cy (d : Int) : Int := (civ d).1
noncomputable def cm (d : Int) : Int := (civ d).2.1
noncomputable def ck (d : Int) : Int := (civ d).2.2
end Go.Proofs.YtjhpiclnpmdjnaaGreatDoor.Cal
