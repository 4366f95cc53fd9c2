/-
 Plain mathematics of annuities: interest, what is left, the least payment; no Go in sight.
-/
import Derived.Test.YtaanicginfjgdaaGreatDoorRf
namespace Go.Proofs.YtaanicginfjgdaaGreatDoor.An
open Go.Proofs.YtaanicginfjgdaaGreatDoor.Wm
open Go.Proofs.YtaanicginfjgdaaGreatDoor.Wt
open Go.Proofs.YtaanicginfjgdaaGreatDoor.Rd

def Ok (p ppm ev m : Int) : Prop := (0 ≤ p ∧ p ≤ 1000000000000) ∧ (0 ≤ ppm ∧ ppm ≤ 1000000) ∧ (1 ≤ ev ∧ ev ≤ 12) ∧ (1 ≤ m ∧ m ≤ 6)
instance (p ppm ev m : Int) : Decidable (Ok p ppm ev m) := by unfold Ok; exact inferInstance
def Rate (c : Int) : Prop := 0 ≤ c ∧ c ≤ 12000000
theorem Ok.rate {p ppm ev m : Int} (h : Ok p ppm ev m) : Rate (ppm * ev) := by
 obtain ⟨_, ⟨a, b⟩, ⟨c, d⟩, _⟩ := h
 have h1 : 0 ≤ ppm * ev := Int.mul_nonneg a (by omega)
 have h2 : ppm * ev ≤ 1000000 * 12 := Int.mul_le_mul b d (by omega) (by omega)
 exact ⟨h1, by omega⟩
def intr (c m p : Int) : Int := rd (p * c) 12000000 m
theorem prod_bd {c p : Int} (hc : Rate c) (h0 : 0 ≤ p) (h1 : p ≤ 1000000000000) : 0 ≤ p * c ∧ p * c ≤ 12000000000000000000 := by
 have a : 0 ≤ p * c := Int.mul_nonneg h0 hc.1
 have b : p * c ≤ 1000000000000 * 12000000 := Int.mul_le_mul h1 hc.2 hc.1 (by omega)
 exact ⟨a, by omega⟩
theorem rd_lo {x n m : Int} (_ : 0 ≤ x) (_ : 1 ≤ n) : x / n ≤ rd x n m ∧ rd x n m ≤ x / n + 1 ∧ (x % n = 0 → rd x n m = x / n) := by
 unfold rd
 have h := moreI_bd (decide (x < 0)) (decide (x / n % 2 = 1)) (x % n) n m
 split
 ·exact ⟨by omega, by omega, fun e => by omega⟩
 ·exact ⟨by omega, by omega, fun _ => by omega⟩
theorem upB_mono {odd : Bool} {r r' n m : Int} (h : r ≤ r') (h1 : upB false odd r n m = true) : upB false odd r' n m = true := by
 unfold upB at *
 split at h1
 ·cases h1
 ·rename_i m1
  rw [if_neg m1]
  split at h1
  ·rename_i m2; rw [if_pos m2]; rfl
  ·rename_i m2
   rw [if_neg m2]
   split at h1
   ·cases h1
   ·rename_i m3
    rw [if_neg m3]
    split at h1
    ·rename_i m4; rw [if_pos m4]
    ·rename_i m4
     rw [if_neg m4]
     split at h1
     ·rename_i e
      by_cases e' : r' = n - r'
      ·rw [if_pos e']
       exact h1
      ·rw [if_neg e']
       exact decide_eq_true (by omega)
     ·have := of_decide_eq_true h1
      rw [if_neg (by omega)]
      exact decide_eq_true (by omega)
theorem rd_mono {x y n m : Int} (hx : 0 ≤ x) (hxy : x ≤ y) (hn : 1 ≤ n) : rd x n m ≤ rd y n m := by
 have hy : 0 ≤ y := by omega
 have a := rd_lo (m := m) hx hn
 have b := rd_lo (m := m) hy hn
 have hq : x / n ≤ y / n := Int.ediv_le_ediv (by omega) hxy
 by_cases he : x / n = y / n
 ·have e1 := Int.mul_ediv_add_emod x n
  have e2 := Int.mul_ediv_add_emod y n
  rw [he] at e1
  by_cases h0 : x % n = 0
  ·have := a.2.2 h0; omega
  ·have h3 := Int.emod_nonneg x (show n ≠ 0 by omega)
   rw [rd_step (show 0 < x % n by omega), rd_step (show 0 < y % n by omega), he, decide_eq_false (show ¬ x < 0 by omega), decide_eq_false (show ¬ y < 0 by omega)]
   unfold moreI
   by_cases hu : upB false (decide (y / n % 2 = 1)) (x % n) n m = true
   ·rw [if_pos hu, if_pos (upB_mono (by omega) hu)]; omega
   ·rw [if_neg hu]; split <;> omega
 ·omega
theorem intr_bd {c m p : Int} (hc : Rate c) (h0 : 0 ≤ p) (h1 : p ≤ 1000000000000) : 0 ≤ intr c m p ∧ intr c m p ≤ 1000000000000 := by
 obtain ⟨a, b⟩ := prod_bd hc h0 h1
 have h := rd_lo (n := 12000000) (m := m) a (by omega)
 unfold intr
 omega
theorem intr_mono {c m p q : Int} (hc : Rate c) (h0 : 0 ≤ p) (h : p ≤ q) : intr c m p ≤ intr c m q :=
 rd_mono (Int.mul_nonneg h0 hc.1) (Int.mul_le_mul_of_nonneg_right h hc.1) (by omega)

def stepA (c m pay p : Int) : Int := if p + intr c m p - pay < 0 then 0 else p + intr c m p - pay
theorem stepA_bd {c m pay p : Int} (hc : Rate c) (hp : 0 ≤ pay) (h0 : 0 ≤ p) (h1 : p ≤ 1000000000000) : 0 ≤ stepA c m pay p ∧ stepA c m pay p ≤ 2000000000000 := by
 have := intr_bd (m := m) hc h0 h1
 unfold stepA; split <;> omega
theorem stepA_mono {c m pay pay' p q : Int} (hc : Rate c) (h0 : 0 ≤ p) (h : p ≤ q) (hp : pay' ≤ pay) : stepA c m pay p ≤ stepA c m pay' q := by
 have := intr_mono (m := m) hc h0 h
 unfold stepA; split <;> split <;> omega
def restA (c m pay : Int) : Nat → Int → Option Int
 | 0, p => some p
 | k + 1, p => if 1000000000000 < stepA c m pay p then none else restA c m pay k (stepA c m pay p)
theorem restA_add {c m pay : Int} : ∀ (k j : Nat) (p : Int), restA c m pay (k + j) p = (restA c m pay k p).bind (restA c m pay j)
 | 0, j, p => by rw [Nat.zero_add]; rfl
 | k + 1, j, p => by
  rw [show k + 1 + j = (k + j) + 1 by omega]
  unfold restA
  split
  ·rfl
  ·exact restA_add k j _
theorem restA_mono {c m pay pay' : Int} (hc : Rate c) (h0 : 0 ≤ pay') (hp : pay' ≤ pay) : ∀ (k : Nat) (p q n : Int), 0 ≤ p → p ≤ q → q ≤ 1000000000000 → restA c m pay' k q = some n → ∃ l, restA c m pay k p = some l ∧ l ≤ n
 | 0, p, q, n, a, b, d, h => by cases h; exact ⟨p, rfl, b⟩
 | k + 1, p, q, n, a, b, d, h => by
  unfold restA at h ⊢
  have s := stepA_mono (m := m) hc a b hp
  split at h
  ·cases h
  ·rw [if_neg (by omega)]
   exact restA_mono hc h0 hp k _ _ n (stepA_bd hc (by omega) a (by omega)).1 s (by omega) h
def enough (c m : Int) (k : Nat) (p bal pay : Int) : Bool := match restA c m pay k p with
 | none => false
 | some n => decide (n ≤ bal)
theorem enough_mono {c m p bal pay pay' : Int} {k : Nat} (hc : Rate c) (h0 : 0 ≤ p) (h1 : p ≤ 1000000000000) (hp0 : 0 ≤ pay') (hp : pay' ≤ pay) (h : enough c m k p bal pay' = true) : enough c m k p bal pay = true := by
 unfold enough at *
 cases hr : restA c m pay' k p with
 | none => rw [hr] at h; cases h
 | some n =>
  rw [hr] at h
  obtain ⟨l, e, hl⟩ := restA_mono hc hp0 hp k p p n h0 (by omega) h1 hr
  rw [e]
  have := of_decide_eq_true h
  exact decide_eq_true (by omega)
def Least (c m : Int) (k : Nat) (p bal x : Int) : Prop := (0 ≤ x ∧ x ≤ 1000000000000) ∧ enough c m k p bal x = true ∧ ∀ y, 0 ≤ y → y < x → enough c m k p bal y = false
theorem Least.unique {c m p bal x y : Int} {k : Nat} (hx : Least c m k p bal x) (hy : Least c m k p bal y) : x = y := by
 obtain ⟨⟨a, _⟩, b, d⟩ := hx
 obtain ⟨⟨a', _⟩, b', d'⟩ := hy
 rcases Classical.em (x = y) with h | h
 ·exact h
 ·rcases Classical.em (x < y) with h' | h'
  ·rw [d' x a h'] at b; cases b
  ·rw [d y a' (by omega)] at b'; cases b'
structure PayRel (c m : Int) (k : Nat) (p bal lo hi : Int) : Prop where
 l0 : 0 ≤ lo
 lh : lo ≤ hi
 below : ∀ y, 0 ≤ y → y < lo → enough c m k p bal y = false
theorem PayRel.up {c m p bal lo hi mid : Int} {k : Nat} (hc : Rate c) (h0 : 0 ≤ p) (h1 : p ≤ 1000000000000) (h : PayRel c m k p bal lo hi) (h2 : lo ≤ mid) (h3 : mid < hi) (he : enough c m k p bal mid = false) : PayRel c m k p bal (mid + 1) hi :=
 ⟨by have := h.l0; omega, by omega, fun y y0 hy => by
  cases hh : enough c m k p bal y
  ·rfl
  ·rw [enough_mono hc h0 h1 y0 (by omega) hh] at he; cases he⟩
theorem PayRel.down {c m p bal lo hi mid : Int} {k : Nat} (h : PayRel c m k p bal lo hi) (h2 : lo ≤ mid) : PayRel c m k p bal lo mid := ⟨h.l0, h2, h.below⟩
end Go.Proofs.YtaanicginfjgdaaGreatDoor.An
