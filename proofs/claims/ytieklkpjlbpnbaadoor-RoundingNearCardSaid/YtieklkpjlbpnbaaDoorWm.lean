/-
  Plain mathematics of numbers of two words: a number is its upper word times 2 to the 64 plus its lower word; no Go in sight.
-/
namespace Go.Proofs.YtieklkpjlbpnbaaDoor.Wm

/-- The upper word. -/
def hi (x : Int) : Int := x / 18446744073709551616
/-- The lower word. -/
def lo (x : Int) : Int := x % 18446744073709551616
/-- The number of two words. -/
def val (h l : Int) : Int := h * 18446744073709551616 + l
/-- A word without a sign. -/
def U64 (x : Int) : Prop := 0 ≤ x ∧ x < 18446744073709551616
/-- A word with a sign. -/
def I64 (x : Int) : Prop := -9223372036854775808 ≤ x ∧ x ≤ 9223372036854775807
/-- A number of two words with a sign. -/
def I128 (x : Int) : Prop := -170141183460469231731687303715884105728 ≤ x ∧ x ≤ 170141183460469231731687303715884105727
/-- A number of two words without a sign. -/
def U128 (x : Int) : Prop := 0 ≤ x ∧ x ≤ 340282366920938463463374607431768211455

theorem lo_bd (x : Int) : U64 (lo x) := by unfold U64 lo; omega
theorem hi_bd {x : Int} (h : I128 x) : I64 (hi x) := by unfold I128 at h; unfold I64 hi; omega
theorem hi_bdu {x : Int} (h : U128 x) : U64 (hi x) := by unfold U128 at h; unfold U64 hi; omega
theorem hi_lo (x : Int) : hi x * 18446744073709551616 + lo x = x := by unfold hi lo; omega
theorem hi_val {h l : Int} (hl : U64 l) : hi (val h l) = h := by unfold U64 at hl; unfold hi val; omega
theorem lo_val {h l : Int} (hl : U64 l) : lo (val h l) = l := by unfold U64 at hl; unfold lo val; omega
theorem val_bd {h l : Int} (hh : I64 h) (hl : U64 l) : I128 (val h l) := by unfold I64 at hh; unfold U64 at hl; unfold I128 val; omega
theorem val_bdu {h l : Int} (hh : U64 h) (hl : U64 l) : U128 (val h l) := by unfold U64 at hh hl; unfold U128 val; omega
theorem hi_neg (x : Int) : hi x < 0 ↔ x < 0 := by unfold hi; omega
theorem hl_inj {x y : Int} (h : hi x = hi y) (l : lo x = lo y) : x = y := by rw [← hi_lo x, ← hi_lo y, h, l]
theorem hi_0 : hi 0 = 0 := by decide
theorem lo_0 : lo 0 = 0 := by decide

/-- The absolute value. -/
def ab (n : Int) : Int := if n < 0 then -n else n
theorem ab_neg {n : Int} (h : n < 0) : ab n = -n := if_pos h
theorem ab_pos {n : Int} (h : 0 ≤ n) : ab n = n := if_neg (by omega)
theorem ab_bd {n : Int} (h : I64 n) : 0 ≤ ab n ∧ ab n ≤ 9223372036854775808 := by unfold I64 at h; unfold ab; split <;> omega
/-- The opposite number modulo 2 to the 128, as a number with a sign. -/
def nw (x : Int) : Int := if x = -170141183460469231731687303715884105728 then x else -x

/-! ### products -/
theorem word_mul {a b : Int} (ha : U64 a) (hb : U64 b) : 0 ≤ a * b ∧ a * b ≤ 340282366920938463426481119284349108225 := by
  unfold U64 at ha hb
  have h1 : 0 ≤ a * b := Int.mul_nonneg ha.1 hb.1
  have h2 : a * b ≤ 18446744073709551615 * 18446744073709551615 := Int.mul_le_mul (by omega) (by omega) hb.1 (by omega)
  exact ⟨h1, by omega⟩
theorem split_mul (m n : Int) : m * n = hi m * n * 18446744073709551616 + lo m * n := by
  have h := hi_lo m
  have e : (hi m * 18446744073709551616 + lo m) * n = hi m * n * 18446744073709551616 + lo m * n := by rw [Int.add_mul, Int.mul_assoc, Int.mul_assoc, Int.mul_comm 18446744073709551616 n]
  rw [h] at e; exact e
/-- The upper word of the sum that 'times' forms. -/
def tsum (m n r : Int) : Int := hi (lo m * n) + hi (lo (lo m * n) + r)
theorem tsum_bd {m n r : Int} (hn : U64 n) (hr : U64 r) : 0 ≤ tsum m n r ∧ tsum m n r ≤ 18446744073709551615 := by
  have ha := word_mul (lo_bd m) hn
  unfold U64 at hr; unfold tsum hi lo at *
  generalize m % 18446744073709551616 * n = A at *
  omega
theorem times_eq {m n r : Int} (hm : U128 m) (hn : U64 n) (hr : U64 r) :
    (hi (hi m * n) + hi (lo (hi m * n) + tsum m n r)) * 340282366920938463463374607431768211456 + lo (lo (hi m * n) + tsum m n r) * 18446744073709551616 + lo (lo (lo m * n) + r) = m * n + r ∧
    0 ≤ hi (hi m * n) ∧ 0 ≤ hi (lo (hi m * n) + tsum m n r) := by
  have ha := word_mul (lo_bd m) hn
  have hb := word_mul (hi_bdu hm) hn
  have e := split_mul m n
  have ht := tsum_bd (m := m) hn hr
  unfold U64 at hr; unfold tsum at *
  generalize lo m * n = A at *
  generalize hi m * n = C at *
  rw [e]
  unfold hi lo at *
  omega
theorem times_ok {m n r : Int} (hm : U128 m) (hn : U64 n) (hr : U64 r) (h : m * n + r ≤ 340282366920938463463374607431768211455) :
    hi (hi m * n) = 0 ∧ hi (lo (hi m * n) + tsum m n r) = 0 ∧ lo (lo (hi m * n) + tsum m n r) = hi (m * n + r) ∧ lo (lo (lo m * n) + r) = lo (m * n + r) := by
  obtain ⟨e, h1, h2⟩ := times_eq hm hn hr
  have b1 := lo_bd (lo (hi m * n) + tsum m n r)
  have b2 := lo_bd (lo (lo m * n) + r)
  unfold U64 at b1 b2
  generalize lo (lo (hi m * n) + tsum m n r) = L1 at *
  generalize lo (lo (lo m * n) + r) = L0 at *
  generalize hi (hi m * n) = c1 at *
  generalize hi (lo (hi m * n) + tsum m n r) = c2 at *
  generalize m * n + r = t at *
  unfold hi lo
  omega
theorem times_no {m n r : Int} (hm : U128 m) (hn : U64 n) (hr : U64 r) (h : 340282366920938463463374607431768211455 < m * n + r) :
    hi (hi m * n) ≠ 0 ∨ hi (lo (hi m * n) + tsum m n r) ≠ 0 := by
  obtain ⟨e, h1, h2⟩ := times_eq hm hn hr
  have b1 := lo_bd (lo (hi m * n) + tsum m n r)
  have b2 := lo_bd (lo (lo m * n) + r)
  unfold U64 at b1 b2
  omega

end Go.Proofs.YtieklkpjlbpnbaaDoor.Wm
