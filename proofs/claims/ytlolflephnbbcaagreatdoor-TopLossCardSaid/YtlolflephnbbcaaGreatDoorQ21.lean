/-
  Parts of the proof: Km.
-/
import Derived.Test.YtlolflephnbbcaaGreatDoorQ20
import Derived.IntWalk
namespace Go.Proofs.YtlolflephnbbcaaGreatDoor.Kl
open Go.Proofs.YtlolflephnbbcaaGreatDoor.Cal

def upto (n : Nat) (p : Nat → Bool) : Bool := (List.range n).all p
theorem upto_yes {n : Nat} {p : Nat → Bool} (h : ∀ j, j < n → p j = true) : upto n p = true := by
 unfold upto
 rw [List.all_eq_true]
 exact fun x hx => h x (List.mem_range.1 hx)
theorem upto_no {n j : Nat} {p : Nat → Bool} (hj : j < n) (h : p j = false) : upto n p = false := by
 unfold upto
 rw [List.all_eq_false]
 exact ⟨j, List.mem_range.2 hj, by simp [h]⟩
theorem upto_iff {n : Nat} {p : Nat → Bool} : upto n p = true ↔ ∀ j, j < n → p j = true := by
 unfold upto
 rw [List.all_eq_true]
 exact ⟨fun h j hj => h j (List.mem_range.2 hj), fun h x hx => h x (List.mem_range.1 hx)⟩
def byt (s : ByteArray) (j : Nat) : Nat := (s.data.toList.getD j 0).toNat
theorem byt_get {s : ByteArray} {j : Nat} (h : j < s.size) : (s[j]'h).toNat = byt s j := by
 unfold byt
 have h' : j < s.data.toList.length := by rw [Array.length_toList]; exact h
 rw [List.getD_eq_getElem?_getD, List.getElem?_eq_getElem h', Option.getD_some, Array.getElem_toList]
 rfl
def upB (c : Nat) : Bool := decide (65 ≤ c ∧ c ≤ 90)
def codeB (s : ByteArray) : Bool := decide (s.size = 3) && upto s.size fun j => upB (byt s j)
def letB (c : Nat) : Bool := decide (97 ≤ c ∧ c ≤ 122)
def nmB (j c : Nat) : Bool := letB c || (!(j == 0) && (c == 95 || decide (48 ≤ c ∧ c ≤ 57)))
def nameB (s : ByteArray) : Bool := decide (1 ≤ s.size) && decide (s.size ≤ 16) && upto s.size fun j => nmB j (byt s j)
def risesB (l : List Int) : Bool := upto l.length fun j => (j == 0) || decide (l.getD (j - 1) 0 < l.getD j 0)
def inB (l : List Int) (a b : Int) : Bool := upto l.length fun j => decide (a ≤ l.getD j 0 ∧ l.getD j 0 ≤ b)
def hasB (l : List Int) (n : Int) : Bool := !upto l.length fun j => l.getD j 0 != n
structure Cl where
 (nm : ByteArray) (wk hol : List Int)
def clE (c : Cl) : Int :=
 if nameB c.nm = false then 4
 else if 7 ≤ c.wk.length ∨ inB c.wk 0 6 = false ∨ risesB c.wk = false then 1
 else if 400 < c.hol.length then 5
 else if inB c.hol 0 73048 = false then 1
 else if risesB c.hol = false then 10
 else 0
def dOk (d : Int) : Bool := decide (0 ≤ d ∧ d ≤ 73048)
theorem dOk_yes {d : Int} (h0 : 0 ≤ d) (h1 : d ≤ 73048) : dOk d = true := decide_eq_true ⟨h0, h1⟩
theorem dOk_no {d : Int} (h : ¬ (0 ≤ d ∧ d ≤ 73048)) : dOk d = false := decide_eq_false h
def openB (c : Cl) (d : Int) : Bool := dOk d && !hasB c.wk ((d + 5) % 7) && !hasB c.hol d
def up (f : Int → Bool) : Nat → Int → Option Int
 | 0, _ => none
 | n + 1, d => if f d then some d else up f n (d + 1)
def dn (f : Int → Bool) : Nat → Int → Option Int
 | 0, _ => none
 | n + 1, d => if f d then some d else dn f n (d - 1)
theorem up_bd {f : Int → Bool} {x : Int} : ∀ (n : Nat) (d : Int), up f n d = some x → d ≤ x ∧ x < d + n ∧ f x = true
 | 0, _, h => by cases h
 | n + 1, d, h => by
  unfold up at h
  split at h
  ·rename_i hf
   cases h
   exact ⟨by omega, by omega, hf⟩
  ·have := up_bd n (d + 1) h
   exact ⟨by omega, by omega, this.2.2⟩
theorem dn_bd {f : Int → Bool} {x : Int} : ∀ (n : Nat) (d : Int), dn f n d = some x → x ≤ d ∧ d < x + n ∧ f x = true
 | 0, _, h => by cases h
 | n + 1, d, h => by
  unfold dn at h
  split at h
  ·rename_i hf
   cases h
   exact ⟨by omega, by omega, hf⟩
  ·have := dn_bd n (d - 1) h
   exact ⟨by omega, by omega, this.2.2⟩
def nxt (c : Cl) (d : Int) : Option Int := up (openB c) (73049 - d).toNat d
def prv (c : Cl) (d : Int) : Option Int := dn (openB c) (d + 1).toNat d
theorem nxt_in {c : Cl} {d x : Int} (_ : 0 ≤ d) (h : nxt c d = some x) : d ≤ x ∧ x ≤ 73048 := by
 have := up_bd _ _ h
 omega
theorem prv_in {c : Cl} {d x : Int} (_ : d ≤ 73048) (h : prv c d = some x) : 0 ≤ x ∧ x ≤ d := by
 have := dn_bd _ _ h
 omega
def oV (o : Option Int) : Int := o.getD 0
def oE (o : Option Int) (e : Int) : Int := if o.isSome then 0 else e
noncomputable def mend (d : Int) : Int := d - ck d + mlen (cy d) (cm d)
theorem mend_bd {d : Int} (h0 : 0 ≤ d) (h1 : d ≤ 73048) : d ≤ mend d ∧ mend d ≤ 73048 := by
 have h := civ_spec d h0 h1
 have hy := h.year
 have hm := h.month
 have hc := h.at_
 have hcs := cum_succ (cy d) (cm d)
 have hcb := cum_mono (cy d) (cm d + 1) 13 (by have := h.m0; omega) (by have := h.m1; omega)
 have h13 := cum_13 (cy d)
 have hb := begin_succ (cy d) h.y0 h.y1
 have hbd := begin_mono (cy d + 1) 2200 (by have := h.y0; omega) (by have := h.y1; omega)
 have h2 := begin_200
 unfold mend
 omega
noncomputable def adj (c : Cl) (d : Int) : Option Int := match nxt c d with
 | some x => if x ≤ mend d then some x else prv c d
 | none => prv c d
theorem adj_in {c : Cl} {d x : Int} (h0 : 0 ≤ d) (h1 : d ≤ 73048) (h : adj c d = some x) : 0 ≤ x ∧ x ≤ 73048 := by
 unfold adj at h
 split at h
 ·rename_i y hy
  have := nxt_in h0 hy
  split at h
  ·cases h; omega
  ·have := prv_in h1 h; omega
 ·have := prv_in h1 h; omega
noncomputable def addM (d n a : Int) : Option Int :=
 if 24000 ≤ 12 * cy d + cm d - 1 + n ∧ 12 * cy d + cm d - 1 + n < 26400 then
  some (begin_ ((12 * cy d + cm d - 1 + n) / 12) + cum ((12 * cy d + cm d - 1 + n) / 12) ((12 * cy d + cm d - 1 + n) % 12 + 1) + min a (mlen ((12 * cy d + cm d - 1 + n) / 12) ((12 * cy d + cm d - 1 + n) % 12 + 1)) - 1)
 else none
theorem addM_ok {d n a : Int} (h : 24000 ≤ 12 * cy d + cm d - 1 + n ∧ 12 * cy d + cm d - 1 + n < 26400) : addM d n a = some (begin_ ((12 * cy d + cm d - 1 + n) / 12) + cum ((12 * cy d + cm d - 1 + n) / 12) ((12 * cy d + cm d - 1 + n) % 12 + 1) + min a (mlen ((12 * cy d + cm d - 1 + n) / 12) ((12 * cy d + cm d - 1 + n) % 12 + 1)) - 1) := if_pos h
theorem addM_no {d n a : Int} (h : ¬ (24000 ≤ 12 * cy d + cm d - 1 + n ∧ 12 * cy d + cm d - 1 + n < 26400)) : addM d n a = none := if_neg h
theorem addM_civ {d n a x : Int} (ha : 1 ≤ a) (h : addM d n a = some x) : 24000 ≤ 12 * cy d + cm d - 1 + n ∧ 12 * cy d + cm d - 1 + n < 26400 ∧ IsCivil x ((12 * cy d + cm d - 1 + n) / 12) ((12 * cy d + cm d - 1 + n) % 12 + 1) (min a (mlen ((12 * cy d + cm d - 1 + n) / 12) ((12 * cy d + cm d - 1 + n) % 12 + 1))) := by
 by_cases hM : 24000 ≤ 12 * cy d + cm d - 1 + n ∧ 12 * cy d + cm d - 1 + n < 26400
 ·rw [addM_ok hM] at h
  generalize hY : (12 * cy d + cm d - 1 + n) / 12 = Y at *
  generalize hQ : (12 * cy d + cm d - 1 + n) % 12 = Q at *
  have ml := mlen_bd Y (Q + 1) (by omega) (by omega)
  have := Option.some.inj h
  exact ⟨hM.1, hM.2, ⟨by omega, by omega, by omega, by omega, by omega, by omega, by omega⟩⟩
 ·rw [addM_no hM] at h
  cases h
theorem addM_in {d n a x : Int} (ha : 1 ≤ a) (h : addM d n a = some x) : 0 ≤ x ∧ x ≤ 73048 := (addM_civ ha h).2.2.valid
end Go.Proofs.YtlolflephnbbcaaGreatDoor.Kl
