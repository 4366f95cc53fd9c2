/-
  Plain mathematics of decimal texts: a number is found again from its text, and a decimal form is the text of its number; no Go in sight.
-/
import Derived.Test.YtmdomlfkehhleaaTx
namespace Go.Proofs.Ytmdomlfkehhleaa.Tx
open Go.Proofs.Ytmdomlfkehhleaa.Wm

theorem dch_nat {r : Nat} (h : r < 10) : (dch (r : Int)).toNat = 48 + r := by
  unfold dch
  simp
  omega
theorem dch_dig {r : Nat} (h : r < 10) : isDig (dch (r : Int)) = true := by
  unfold isDig
  rw [dch_nat h]
  simp
  omega
theorem dch_of {c : UInt8} {r : Nat} (h : c.toNat = 48 + r) (hr : r < 10) : dch (r : Int) = c := by
  apply UInt8.toNat_inj.1
  rw [dch_nat hr, h]
theorem dg_spec : ∀ n : Nat, (dg n).all isDig = true ∧ val10 (dg n) = n ∧ (n ≠ 0 → (dg n).head? ≠ some 48 ∧ dg n ≠ [])
  | n => by
    by_cases h : n = 0
    · subst h
      rw [dg_zero]
      exact ⟨rfl, rfl, fun h => absurd rfl h⟩
    · obtain ⟨h1, h2, h3⟩ := dg_spec (n / 10)
      rw [dg_step h]
      refine ⟨by rw [List.all_append, h1, List.all_cons, dch_dig (show n % 10 < 10 by omega)]; rfl, ?_, fun _ => ⟨?_, by simp⟩⟩
      · rw [val10_snoc, h2, dch_nat (by omega)]
        omega
      · by_cases h0 : n / 10 = 0
        · rw [h0, dg_zero]
          simp only [List.nil_append, List.head?_cons, ne_eq, Option.some.injEq]
          intro e
          have := congrArg UInt8.toNat e
          rw [dch_nat (by omega)] at this
          have : (48 : UInt8).toNat = 48 := rfl
          omega
        · obtain ⟨h4, h5⟩ := h3 h0
          cases hd : dg (n / 10) with
          | nil => exact absurd hd h5
          | cons a l => rw [hd] at h4; simpa using h4
termination_by n => n
decreasing_by omega
theorem full_spec (n : Nat) : numB (full n) = true ∧ val10 (full n) = n ∧ (n ≠ 0 → (full n).head? ≠ some 48) := by
  by_cases h : n = 0
  · subst h
    unfold full
    rw [show (0 : Nat) / 10 = 0 from rfl, dg_zero]
    exact ⟨by decide, by decide, fun h => absurd rfl h⟩
  · rw [full_pos h]
    obtain ⟨h1, h2, h3⟩ := dg_spec n
    obtain ⟨h4, h5⟩ := h3 h
    refine ⟨?_, h2, fun _ => h4⟩
    unfold numB
    rw [h1]
    cases hd : dg n with
    | nil => exact absurd hd h5
    | cons a l =>
      rw [hd] at h4
      have : a ≠ 48 := by simpa using h4
      simp [this]
theorem head_dig {l : List UInt8} (h : numB l = true) : ∃ c t, l = c :: t ∧ c ≠ 45 := by
  cases l with
  | nil => simp [numB] at h
  | cons c t =>
    refine ⟨c, t, rfl, fun e => ?_⟩
    subst e
    rw [numB_minus] at h
    cases h
theorem valid_pos {c : UInt8} {t : List UInt8} (h : ¬ c = 45) : valid (c :: t) = numB (c :: t) ∧ num (c :: t) = val10 (c :: t) := by
  simp only [valid, num, if_neg h]
  exact ⟨trivial, trivial⟩
theorem txt_spec (x : Int) : valid (txt x) = true ∧ num (txt x) = x := by
  obtain ⟨h1, h2, h3⟩ := full_spec (ab x).toNat
  unfold txt
  by_cases hx : x < 0
  · rw [if_pos hx]
    rw [ab_neg hx] at *
    have h4 := h3 (by omega)
    refine ⟨?_, ?_⟩
    · show (numB (full (-x).toNat) && (full (-x).toNat).head? != some 48) = true
      rw [h1]
      simpa using h4
    · show -val10 (full (-x).toNat) = x
      rw [h2]
      omega
  · rw [if_neg hx, List.nil_append]
    rw [ab_pos (by omega)] at *
    obtain ⟨c, t, e, hc⟩ := head_dig h1
    rw [e] at h1 h2 ⊢
    refine ⟨?_, ?_⟩
    · rw [(valid_pos hc).1]; exact h1
    · rw [(valid_pos hc).2, h2]; omega
/-- Digits without a leading 0 are those of their number. -/
theorem dg_of_aux : ∀ (k : Nat) (l : List UInt8), l.length = k → l.all isDig = true → l.head? ≠ some 48 → dg (val10 l).toNat = l
  | 0, l, hk, _, _ => by
    have : l = [] := List.length_eq_zero_iff.1 hk
    subst this
    exact dg_zero
  | k + 1, l, hk, hd, hh => by
    obtain ⟨l', c, rfl⟩ : ∃ l' c, l = l' ++ [c] := by
      have hne : l ≠ [] := by intro e; rw [e] at hk; simp at hk
      exact ⟨l.dropLast, l.getLast hne, (List.dropLast_concat_getLast hne).symm⟩
    rw [List.all_append, Bool.and_eq_true] at hd
    have hc : isDig c = true := by simpa using hd.2
    have hb := isDig_bd hc
    have hv := val10_nonneg hd.1
    have hlen : l'.length = k := by simpa using hk
    rw [val10_snoc]
    obtain ⟨r, hr⟩ : ∃ r : Nat, c.toNat = 48 + r := ⟨c.toNat - 48, by omega⟩
    have hr10 : r < 10 := by omega
    have e1 : (val10 l' * 10 + ((c.toNat : Int) - 48)).toNat = 10 * (val10 l').toNat + r := by omega
    rw [e1]
    cases l' with
    | nil =>
      have hne : c ≠ 48 := by simpa using hh
      have hr0 : r ≠ 0 := by
        intro e
        apply hne
        apply UInt8.toNat_inj.1
        rw [hr, e]
        rfl
      rw [show val10 [] = 0 from rfl, show 10 * (0 : Int).toNat + r = r by simp, dg_step hr0, show r / 10 = 0 by omega, dg_zero, show r % 10 = r by omega, dch_of hr hr10]
    | cons a u =>
      have ih := dg_of_aux k (a :: u) hlen hd.1 (by simpa using hh)
      have hvne : (val10 (a :: u)).toNat ≠ 0 := by
        intro e
        rw [e, dg_zero] at ih
        cases ih
      rw [dg_step (by omega), show (10 * (val10 (a :: u)).toNat + r) / 10 = (val10 (a :: u)).toNat by omega, ih, show (10 * (val10 (a :: u)).toNat + r) % 10 = r by omega, dch_of hr hr10]
theorem full_of {l : List UInt8} (h : numB l = true) : full (val10 l).toNat = l ∧ 0 ≤ val10 l ∧ (l.head? ≠ some 48 → val10 l ≠ 0) := by
  unfold numB at h
  simp only [Bool.and_eq_true, Bool.or_eq_true, beq_iff_eq] at h
  obtain ⟨hd, h⟩ := h
  have hv := val10_nonneg hd
  by_cases h48 : l.head? = some 48
  · have : l = [48] := by
      rcases h with h | ⟨_, h⟩
      · exact h
      · rw [h48] at h; simp at h
    subst this
    refine ⟨?_, hv, fun h => absurd rfl h⟩
    show full 0 = [48]
    unfold full
    rw [show (0 : Nat) / 10 = 0 from rfl, dg_zero]
    decide
  · have hne : l ≠ [] := by
      rcases h with h | ⟨h, _⟩
      · rw [h]; simp
      · intro e; rw [e] at h; simp at h
    have e := dg_of_aux l.length l rfl hd h48
    have h0 : (val10 l).toNat ≠ 0 := by
      intro e0
      rw [e0, dg_zero] at e
      exact hne e.symm
    exact ⟨by rw [full_pos h0]; exact e, hv, fun _ => by omega⟩
theorem txt_num : ∀ {l : List UInt8}, valid l = true → txt (num l) = l
  | [], h => by cases h
  | c :: t, h => by
    by_cases hc : c = 45
    · subst hc
      change (numB t && t.head? != some 48) = true at h
      rw [Bool.and_eq_true] at h
      obtain ⟨h1, h2⟩ := h
      obtain ⟨e, h3, h4⟩ := full_of h1
      have h5 := h4 (by simpa using h2)
      show txt (-val10 t) = _
      unfold txt
      rw [if_pos (by omega), ab_neg (by omega), Int.neg_neg, e]
      rfl
    · rw [(valid_pos hc).1] at h
      obtain ⟨e, h3, _⟩ := full_of h
      rw [(valid_pos hc).2]
      unfold txt
      rw [if_neg (by omega), ab_pos h3, e]
      rfl
end Go.Proofs.Ytmdomlfkehhleaa.Tx
