/-
  The contract of the reference's shifted: twice a magnitude, modulo 2 to the 128; and the plain mathematics of its division bit by bit.
  The contract of the reference's Quotient.
-/
import Derived.Test.YtaanicginfjgdaaDoorRga
namespace Go.Proofs.YtaanicginfjgdaaDoor.Wt
open Go.RowKit
open Go.Proofs.YtaanicginfjgdaaDoor
open Go.Proofs.YtaanicginfjgdaaDoor.Wm

/-- Twice a magnitude, modulo 2 to the 128. -/
def dbl (m : Int) : Int := 2 * m % 340282366920938463463374607431768211456
theorem dbl_bd (m : Int) : U128 (dbl m) := by unfold U128 dbl; omega
/-- A magnitude that is known, and some bool. -/
def ShPost (w : World) (o : Int) (e : Ending) (w' : World) : Prop := ∃ f : Bool, e = .returned (.tuple #[.agg #[.int .u64 (hi o), .int .u64 (lo o)], .bool f]) ∧ Below w.heap.size w w'

/-! ### the division bit by bit -/
/-- Behind k rounds: the k highest bits of m are q times n plus r; mm are its other bits, at the top. -/
structure QRel (m n : Int) (k : Nat) (mm q r : Int) : Prop where
  le : k ≤ 128
  w : ∃ P E l : Int, 0 < P ∧ 0 < E ∧ P * E = 340282366920938463463374607431768211456 ∧ (k < 128 → ∃ P', P = 2 * P') ∧ (k = 128 → P = 1) ∧ P = 2 ^ (128 - k) ∧ m = (q * n + r) * P + l ∧ 0 ≤ l ∧ l < P ∧ mm = l * E ∧ q < E
  r0 : 0 ≤ r
  r1 : r < n
  q0 : 0 ≤ q
theorem QRel.start {m n : Int} (hm : U128 m) (hn : 0 < n) : QRel m n 0 m 0 0 :=
  ⟨by omega, ⟨340282366920938463463374607431768211456, 1, m, by omega, by omega, by omega, fun _ => ⟨170141183460469231731687303715884105728, by omega⟩, fun h => by omega, rfl, by omega, hm.1, by have := hm.2; omega, by omega, by omega⟩, by omega, hn, by omega⟩
theorem QRel.mmb {m n mm q r : Int} {k : Nat} (h : QRel m n k mm q r) : U128 mm ∧ (k < 128 → q < 170141183460469231731687303715884105728) := by
  obtain ⟨P, E, l, hP, hE, hPE, h2, h1, _, hm, l0, l1, e, qE⟩ := h.w
  constructor
  · rw [e]
    have a := Int.mul_nonneg l0 (show 0 ≤ E by omega)
    have b : l * E ≤ (P - 1) * E := Int.mul_le_mul_of_nonneg_right (by omega) (by omega)
    rw [Int.sub_mul, hPE, Int.one_mul] at b
    exact ⟨a, by omega⟩
  · intro hk
    obtain ⟨P', rfl⟩ := h2 hk
    have : 1 * E ≤ P' * E := Int.mul_le_mul_of_nonneg_right (by omega) (by omega)
    rw [Int.mul_assoc] at hPE
    omega
theorem QRel.step {m n mm q r : Int} {k : Nat} (h : QRel m n k mm q r) (hk : k < 128) (b : Int) (hb : b = if 170141183460469231731687303715884105728 ≤ mm then 1 else 0) :
    (2 * r + b < n → QRel m n (k + 1) (dbl mm) (2 * q) (2 * r + b)) ∧ (n ≤ 2 * r + b → QRel m n (k + 1) (dbl mm) (2 * q + 1) (2 * r + b - n)) := by
  obtain ⟨P, E, l, hP, hE, hPE, h2, h1, hpow, hm, l0, l1, e, qE⟩ := h.w
  obtain ⟨P', rfl⟩ := h2 hk
  have hPE' : P' * E = 170141183460469231731687303715884105728 := by rw [Int.mul_assoc] at hPE; omega
  have hb01 : (b = 0 ∧ l < P') ∨ (b = 1 ∧ P' ≤ l) := by
    rw [hb]
    split
    · rename_i hge
      refine .inr ⟨rfl, ?_⟩
      rw [e, ← hPE'] at hge
      exact Int.le_of_mul_le_mul_right hge hE
    · rename_i hlt
      refine .inl ⟨rfl, ?_⟩
      rw [e, ← hPE'] at hlt
      exact Int.lt_of_not_ge fun hge => hlt (Int.mul_le_mul_of_nonneg_right hge (by omega))
  have hbb : b * P' = 0 ∧ b = 0 ∨ b * P' = P' ∧ b = 1 := by rcases hb01 with ⟨rfl, _⟩ | ⟨rfl, _⟩ <;> omega
  have hd : dbl mm = (l - b * P') * (2 * E) := by
    have e1 : (l - b * P') * (2 * E) = 2 * (l * E) - b * 340282366920938463463374607431768211456 := by
      rw [Int.sub_mul, Int.mul_left_comm l 2 E, Int.mul_assoc b P' (2 * E), Int.mul_left_comm P' 2 E, hPE']
      omega
    rw [e1, ← e]
    have hmm := h.mmb.1
    unfold U128 at hmm
    unfold dbl
    rw [hb]
    split <;> omega
  have hT : ∀ q' r' : Int, q' * n + r' = 2 * (q * n + r) + b → m = (q' * n + r') * P' + (l - b * P') := fun q' r' h' => by
    rw [h', Int.add_mul, hm, Int.mul_assoc 2, ← Int.mul_assoc (q * n + r) 2 P', Int.mul_comm (q * n + r) 2, Int.mul_assoc 2]
    omega
  have hpow' : P' = 2 ^ (128 - (k + 1)) := by
    have : 128 - k = (128 - (k + 1)) + 1 := by omega
    rw [this, Int.pow_succ] at hpow
    omega
  clear h2 h1
  have := h.r0
  have := h.r1
  have := h.q0
  have a1 : 0 < P' := by omega
  have a2 : 0 < 2 * E := by omega
  have a3 : P' * (2 * E) = 340282366920938463463374607431768211456 := by rw [Int.mul_left_comm]; omega
  have a4 : 0 ≤ l - b * P' := by omega
  have a5 : l - b * P' < P' := by omega
  have a6 : 2 * q < 2 * E := by omega
  have a7 : 2 * q + 1 < 2 * E := by omega
  have a8 : 0 ≤ 2 * r + b := by omega
  have a9 : n ≤ 2 * r + b → 0 ≤ 2 * r + b - n := by omega
  have a10 : 2 * r + b - n < n := by omega
  have a11 : 0 ≤ 2 * q := by omega
  have a12 : 0 ≤ 2 * q + 1 := by omega
  have a13 : k + 1 ≤ 128 := by omega
  have t1 : 2 * q * n + (2 * r + b) = 2 * (q * n + r) + b := by rw [Int.mul_assoc]; omega
  have t2 : (2 * q + 1) * n + (2 * r + b - n) = 2 * (q * n + r) + b := by rw [Int.add_mul, Int.mul_assoc]; omega
  have heven : k + 1 < 128 → ∃ P'', P' = 2 * P'' := fun hk' => ⟨2 ^ (128 - (k + 1) - 1), by
    rw [hpow']
    have : 128 - (k + 1) = (128 - (k + 1) - 1) + 1 := by omega
    conv => lhs; rw [this]
    rw [Int.pow_succ, Int.mul_comm]⟩
  have hone : k + 1 = 128 → P' = 1 := fun hk' => by rw [hpow', hk']; rfl
  exact ⟨fun hlt => ⟨a13, ⟨P', 2 * E, l - b * P', a1, a2, a3, heven, hone, hpow', hT _ _ t1, a4, a5, hd, a6⟩, a8, hlt, a11⟩,
    fun hge => ⟨a13, ⟨P', 2 * E, l - b * P', a1, a2, a3, heven, hone, hpow', hT _ _ t2, a4, a5, hd, a7⟩, a9 hge, a10, a12⟩⟩
theorem QRel.end_ {m n mm q r : Int} (h : QRel m n 128 mm q r) : q = m / n ∧ r = m % n := by
  obtain ⟨P, E, l, hP, hE, hPE, h2, h1, _, hm, l0, l1, e, qE⟩ := h.w
  have hp := h1 rfl
  subst hp
  have hl : l = 0 := by omega
  subst hl
  have e2 : m = n * q + r := by rw [hm, Int.mul_comm n q]; omega
  have r0 := h.r0
  have r1 := h.r1
  have := (Int.ediv_emod_unique (show 0 < n by omega)).2 ⟨(show r + n * q = m by omega), r0, r1⟩
  exact ⟨this.1.symm, this.2.symm⟩
end Go.Proofs.YtaanicginfjgdaaDoor.Wt

namespace Go.Proofs.YtaanicginfjgdaaDoor.Wt
open Go.RowKit
open Go.Proofs.YtaanicginfjgdaaDoor
open Go.Proofs.YtaanicginfjgdaaDoor.Wm

/-- The loop's own relation. -/
def QLoop (w : World) (m n : Int) (vr vi : Value) (wr : World) : Prop := ∃ (k : Nat) (mm q r : Int), QRel m n k mm q r ∧ vr = .int .u64 r ∧ vi = .int .i64 k ∧
  Two wr w.heap.size (.int .u64 (hi mm)) (.int .u64 (lo mm)) ∧ Two wr (w.heap.size + 1) (.int .u64 0) (.int .u64 0) ∧ Two wr (w.heap.size + 2) (.int .u64 (hi q)) (.int .u64 (lo q)) ∧ Below w.heap.size w wr
theorem lo_even (q : Int) : IntKind.u64.wrap (lo (2 * q) + 1) = lo (2 * q + 1) ∧ hi (2 * q) = hi (2 * q + 1) := by
  rw [IntKind.wrap_u64]; unfold lo hi; omega

end Go.Proofs.YtaanicginfjgdaaDoor.Wt
