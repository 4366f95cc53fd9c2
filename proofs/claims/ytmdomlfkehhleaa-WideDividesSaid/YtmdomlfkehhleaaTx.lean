/-
  Plain mathematics of decimal texts; no Go in sight.
-/
import Derived.Test.YtmdomlfkehhleaaWm
namespace Go.Proofs.Ytmdomlfkehhleaa.Tx
open Go.Proofs.Ytmdomlfkehhleaa.Wm

/-- The text with these bytes. -/
def bs (l : List UInt8) : ByteArray := ⟨l.toArray⟩
/-- The digit of a number below 10. -/
def dch (r : Int) : UInt8 := UInt8.ofNat (48 + r.toNat)
/-- The digits of a number; none for 0. -/
def dg (n : Nat) : List UInt8 := if n = 0 then [] else dg (n / 10) ++ [dch (n % 10 : Nat)]
termination_by n
decreasing_by omega
theorem dg_zero : dg 0 = [] := by unfold dg; rfl
theorem dg_step {n : Nat} (h : n ≠ 0) : dg n = dg (n / 10) ++ [dch (n % 10 : Nat)] := by rw [dg, if_neg h]
/-- The digits of a number, one at least. -/
def full (n : Nat) : List UInt8 := dg (n / 10) ++ [dch (n % 10 : Nat)]
theorem full_pos {n : Nat} (h : n ≠ 0) : full n = dg n := (dg_step h).symm
/-- The decimal form of a number. -/
def txt (x : Int) : List UInt8 := (if x < 0 then [45] else []) ++ full (ab x).toNat

theorem bs_append (a b : List UInt8) : bs a ++ bs b = bs (a ++ b) := by
  apply ByteArray.ext
  simp [bs]
theorem bs_size (a : List UInt8) : (bs a).size = a.length := by simp [bs, ByteArray.size]
theorem bs_inj {a b : List UInt8} (h : bs a = bs b) : a = b := by
  have := congrArg (fun x : ByteArray => x.data.toList) h
  simpa [bs] using this
theorem bs_nil : bs [] = ⟨#[]⟩ := rfl
theorem bs_of (b : ByteArray) : b = bs b.data.toList := by
  apply ByteArray.ext
  simp [bs]

/-- The piece of the ten digits. -/
theorem digit_at (r : Int) (h0 : 0 ≤ r) (h1 : r < 10) : (⟨#[48, 49, 50, 51, 52, 53, 54, 55, 56, 57]⟩ : ByteArray).extract r.toNat (r + 1).toNat = bs [dch r] := by
  have : r = 0 ∨ r = 1 ∨ r = 2 ∨ r = 3 ∨ r = 4 ∨ r = 5 ∨ r = 6 ∨ r = 7 ∨ r = 8 ∨ r = 9 := by omega
  rcases this with rfl | rfl | rfl | rfl | rfl | rfl | rfl | rfl | rfl | rfl <;> decide +kernel
/-- Where the loop that writes digits stands: s is still to be written, l is written, of m. -/
structure TRel (m s : Int) (l : List UInt8) : Prop where
  s0 : 0 ≤ s
  sm : s ≤ m
  eq : dg s.toNat ++ l = full m.toNat
theorem TRel.start {m : Int} (h : 0 ≤ m) : TRel m (m / 10) [dch (m % 10)] := by
  refine ⟨by omega, by omega, ?_⟩
  unfold full
  rw [show (m / 10).toNat = m.toNat / 10 by omega, show m % 10 = ((m.toNat % 10 : Nat) : Int) by omega]
theorem TRel.step {m s : Int} {l : List UInt8} (h : TRel m s l) (hs : s ≠ 0) : TRel m (s / 10) (dch (s % 10) :: l) := by
  have := h.s0
  have := h.sm
  refine ⟨by omega, by omega, ?_⟩
  rw [← h.eq, dg_step (n := s.toNat) (by omega), show (s / 10).toNat = s.toNat / 10 by omega, show s % 10 = ((s.toNat % 10 : Nat) : Int) by omega, List.append_assoc]
  rfl
theorem TRel.len {m s : Int} {l : List UInt8} (h : TRel m s l) (hs : s ≠ 0) : l.length < (full m.toNat).length := by
  rw [← h.eq, dg_step (n := s.toNat) (by have := h.s0; omega)]
  simp; omega
theorem TRel.end_ {m : Int} {l : List UInt8} (h : TRel m 0 l) : l = full m.toNat := by
  have := h.eq
  rw [show (0 : Int).toNat = 0 from rfl, dg_zero] at this
  exact this
/-- Where the reference's loop begins: nothing is written. -/
theorem full_len (n : Nat) : 0 < (full n).length := by unfold full; simp
theorem dg_len : ∀ (k n : Nat), n < 10 ^ k → (dg n).length ≤ k
  | 0, n, h => by
    have : n = 0 := by simpa using h
    rw [this, dg_zero]; exact Nat.le_refl _
  | k + 1, n, h => by
    by_cases h0 : n = 0
    · rw [h0, dg_zero]; exact Nat.zero_le _
    · rw [dg_step h0]
      have := dg_len k (n / 10) (by rw [Nat.pow_succ] at h; omega)
      simp; omega
theorem full_le {m : Int} (h : U128 m) : (full m.toNat).length ≤ 41 := by
  unfold full
  have := dg_len 40 (m.toNat / 10) (by unfold U128 at h; omega)
  simp; omega

/-! ### reading -/
/-- A digit. -/
def isDig (c : UInt8) : Bool := decide (48 ≤ c.toNat) && decide (c.toNat ≤ 57)
/-- The digits of a number. -/
def numB (l : List UInt8) : Bool := l.all isDig && (l == [48] || (!l.isEmpty && l.head? != some 48))
/-- What the reference's Decimal asks. -/
def decB : List UInt8 → Bool
  | [] => false
  | c :: t => if c = 45 then !(t == [48]) && (decB t && t.head? != some 45) else numB (c :: t)
/-- The decimal forms. -/
def valid : List UInt8 → Bool
  | [] => false
  | c :: t => if c = 45 then numB t && t.head? != some 48 else numB (c :: t)
/-- The number of some digits. -/
def val10 (l : List UInt8) : Int := l.foldl (fun n c => n * 10 + ((c.toNat : Int) - 48)) 0
/-- The number of a decimal form. -/
def num : List UInt8 → Int
  | [] => 0
  | c :: t => if c = 45 then -val10 t else val10 (c :: t)
theorem numB_minus (t : List UInt8) : numB (45 :: t) = false := by unfold numB; simp [isDig]
theorem decB_eq : ∀ l : List UInt8, decB l = valid l
  | [] => rfl
  | c :: t => by
    by_cases h : c = 45
    · simp only [decB, valid, if_pos h]
      cases t with
      | nil => simp [decB, numB]
      | cons d u =>
        by_cases hd : d = 45
        · subst hd
          rw [numB_minus]
          simp
        · rw [show decB (d :: u) = numB (d :: u) by unfold decB; rw [if_neg hd]]
          by_cases h48 : d = 48
          · subst h48
            cases u with
            | nil => simp
            | cons e v => simp [numB]
          · have e1 : (d == 48) = false := by simpa using h48
            have e2 : (some d != some 45) = true := by simpa using hd
            have e3 : (some d != some 48) = true := by simpa using h48
            simp [e1, e2, e3]
    · simp only [decB, valid, if_neg h]
theorem bs_get (l : List UInt8) (i : Nat) (h : i < (bs l).size) : (bs l)[i] = l[i]'(by rw [bs_size] at h; exact h) := by
  simp [bs, ByteArray.getElem_eq_getElem_data]
theorem bs_tail (c : UInt8) (l : List UInt8) : (bs (c :: l)).extract 1 (l.length + 1) = bs l := by
  apply ByteArray.ext
  simp [bs]

theorem val10_snoc (l : List UInt8) (c : UInt8) : val10 (l ++ [c]) = val10 l * 10 + ((c.toNat : Int) - 48) := by unfold val10; rw [List.foldl_append]; rfl
theorem isDig_bd {c : UInt8} (h : isDig c = true) : 0 ≤ (c.toNat : Int) - 48 ∧ (c.toNat : Int) - 48 ≤ 9 := by unfold isDig at h; simp at h; omega
theorem fold_nonneg : ∀ (l : List UInt8) (n : Int), 0 ≤ n → l.all isDig = true → n ≤ l.foldl (fun n c => n * 10 + ((c.toNat : Int) - 48)) n
  | [], n, _, _ => Int.le_refl _
  | c :: t, n, h0, h => by
    simp only [List.all_cons, Bool.and_eq_true] at h
    have := isDig_bd h.1
    have := fold_nonneg t (n * 10 + ((c.toNat : Int) - 48)) (by omega) h.2
    simp only [List.foldl_cons]
    omega
theorem val10_nonneg {l : List UInt8} (h : l.all isDig = true) : 0 ≤ val10 l := fold_nonneg l 0 (Int.le_refl _) h
theorem take_snoc {l : List UInt8} {k : Nat} (h : k < l.length) : l.take (k + 1) = l.take k ++ [l[k]] := by rw [List.take_add_one]; simp [h]

/-- Behind k digits of t: whether their number fits two words, and if so, it. -/
structure PRel (t : List UInt8) (k : Nat) (o : Int) (fb : Bool) : Prop where
  le : k ≤ t.length
  dig : (t.take k).all isDig = true
  om : U128 o
  fits : fb = decide (val10 (t.take k) ≤ 340282366920938463463374607431768211455)
  val : fb = true → o = val10 (t.take k)
theorem PRel.start (t : List UInt8) : PRel t 0 0 true := ⟨Nat.zero_le _, rfl, by unfold U128; omega, rfl, fun _ => rfl⟩
section
variable {t : List UInt8} {k : Nat} {o : Int} {fb : Bool}
theorem PRel.next (h : PRel t k o fb) (hk : k < t.length) (hd : isDig t[k] = true) : (t.take (k + 1)).all isDig = true ∧ val10 (t.take (k + 1)) = val10 (t.take k) * 10 + ((t[k].toNat : Int) - 48) := by
  rw [take_snoc hk, List.all_append, h.dig, val10_snoc]
  simp [hd]
theorem PRel.yes (h : PRel t k o true) (hk : k < t.length) (hd : isDig t[k] = true) (hf : o * 10 + ((t[k].toNat : Int) - 48) ≤ 340282366920938463463374607431768211455) : PRel t (k + 1) (o * 10 + ((t[k].toNat : Int) - 48)) true := by
  obtain ⟨a, b⟩ := h.next hk hd
  have ho := h.val rfl
  have := isDig_bd hd
  have := h.om.1
  exact ⟨hk, a, ⟨by omega, hf⟩, by rw [b, ← ho]; exact (decide_eq_true hf).symm, fun _ => by rw [b, ho]⟩
theorem PRel.no (h : PRel t k o true) (hk : k < t.length) (hd : isDig t[k] = true) (hf : 340282366920938463463374607431768211455 < o * 10 + ((t[k].toNat : Int) - 48)) {o' : Int} (ho' : U128 o') : PRel t (k + 1) o' false := by
  obtain ⟨a, b⟩ := h.next hk hd
  have ho := h.val rfl
  exact ⟨hk, a, ho', by rw [b, ← ho]; exact (decide_eq_false (by omega)).symm, fun e => by cases e⟩
theorem PRel.lost (h : PRel t k o false) (hk : k < t.length) (hd : isDig t[k] = true) {o' : Int} (ho' : U128 o') : PRel t (k + 1) o' false := by
  obtain ⟨a, b⟩ := h.next hk hd
  have hf := of_decide_eq_false h.fits.symm
  have := isDig_bd hd
  have := val10_nonneg h.dig
  exact ⟨hk, a, ho', by rw [b]; exact (decide_eq_false (by omega)).symm, fun e => by cases e⟩
theorem PRel.end_ (h : PRel t t.length o fb) : t.all isDig = true ∧ (fb = true → o = val10 t) ∧ fb = decide (val10 t ≤ 340282366920938463463374607431768211455) := by
  have a := h.dig
  have b := h.fits
  have c := h.val
  rw [List.take_length] at a b c
  exact ⟨a, c, b⟩
end
end Go.Proofs.Ytmdomlfkehhleaa.Tx
