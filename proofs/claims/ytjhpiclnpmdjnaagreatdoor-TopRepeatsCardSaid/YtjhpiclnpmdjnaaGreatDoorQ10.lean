/-
  Parts of the proof: Km.
-/
import Derived.Test.YtjhpiclnpmdjnaaGreatDoorQ09
import Derived.IntWalk
namespace Go.Proofs.YtjhpiclnpmdjnaaGreatDoor.Kl
open Go.Proofs.YtjhpiclnpmdjnaaGreatDoor.Cal

def upto (n : Nat) (p : Nat → Bool) : Bool := (List.range n).all p
theorem upto_yes {n : Nat} {p : Nat → Bool} (h : ∀ j, j < n → p j = true) : upto n p = true := by
 unfold upto
 rw [List.all_eq_true]
 exact fun x hx => h x (List.mem_range.1 hx)
theorem upto_no {n j : Nat} {p : Nat → Bool} (hj : j < n) (h : p j = false) : upto n p = false := by
 unfold upto
 rw [List.all_eq_false]
 exact ⟨j, List.mem_range.2 hj, by simp [h]⟩
theorem upto_iff {n : Nat} {p : Nat → Bool} : upto n p = true ↔ ∀ j, j < n → p j = true := by
 unfold upto
 rw [List.all_eq_true]
 exact ⟨fun h j hj => h j (List.mem_range.2 hj), fun h x hx => h x (List.mem_range.1 hx)⟩
def byt (s : ByteArray) (j : Nat) : Nat := (s.data.toList.getD j 0).toNat
theorem byt_get {s : ByteArray} {j : Nat} (h : j < s.size) : (s[j]'h).toNat = byt s j := by
 unfold byt
 have h' : j < s.data.toList.length := by rw [Array.length_toList]; exact h
 rw [List.getD_eq_getElem?_getD, List.getElem?_eq_getElem h', Option.getD_some, Array.getElem_toList]
 rfl
def upB (c : Nat) : Bool := decide (65 ≤ c ∧ c ≤ 90)
def codeB (s : ByteArray) : Bool := decide (s.size = 3) && upto s.size fun j => upB (byt s j)
def letB (c : Nat) : Bool := decide (97 ≤ c ∧ c ≤ 122)
def nmB (j c : Nat) : Bool := letB c || (!(j == 0) && (c == 95 || decide (48 ≤ c ∧ c ≤ 57)))
def nameB (s : ByteArray) : Bool := decide (1 ≤ s.size) && decide (s.size ≤ 16) && upto s.size fun j => nmB j (byt s j)
def risesB (l : List Int) : Bool := upto l.length fun j => (j == 0) || decide (l.getD (j - 1) 0 < l.getD j 0)
def inB (l : List Int) (a b : Int) : Bool := upto l.length fun j => decide (a ≤ l.getD j 0 ∧ l.getD j 0 ≤ b)
def hasB (l : List Int) (n : Int) : Bool := !upto l.length fun j => l.getD j 0 != n
structure Cl where
 (nm : ByteArray) (wk hol : List Int)
def clE (c : Cl) : Int :=
 if nameB c.nm = false then 4
 else if 7 ≤ c.wk.length ∨ inB c.wk 0 6 = false ∨ risesB c.wk = false then 1
 else if 400 < c.hol.length then 5
 else if inB c.hol 0 73048 = false then 1
 else if risesB c.hol = false then 10
 else 0
def dOk (d : Int) : Bool := decide (0 ≤ d ∧ d ≤ 73048)
def openB (c : Cl) (d : Int) : Bool := dOk d && !hasB c.wk ((d + 5) % 7) && !hasB c.hol d
def up (f : Int → Bool) : Nat → Int → Option Int
 | 0, _ => none
 | n + 1, d => if f d then some d else up f n (d + 1)
def dn (f : Int → Bool) : Nat → Int → Option Int
 | 0, _ => none
 | n + 1, d => if f d then some d else dn f n (d - 1)
def nxt (c : Cl) (d : Int) : Option Int := up (openB c) (73049 - d).toNat d
def prv (c : Cl) (d : Int) : Option Int := dn (openB c) (d + 1).toNat d
def oV (o : Option Int) : Int := o.getD 0
def oE (o : Option Int) (e : Int) : Int := if o.isSome then 0 else e
noncomputable def mend (d : Int) : Int := d - ck d + mlen (cy d) (cm d)
noncomputable def adj (c : Cl) (d : Int) : Option Int := match nxt c d with
 | some x => if x ≤ mend d then some x else prv c d
 | none => prv c d
noncomputable def addM (d n a : Int) : Option Int :=
 if 24000 ≤ 12 * cy d + cm d - 1 + n ∧ 12 * cy d + cm d - 1 + n < 26400 then
  some (begin_ ((12 * cy d + cm d - 1 + n) / 12) + cum ((12 * cy d + cm d - 1 + n) / 12) ((12 * cy d + cm d - 1 + n) % 12 + 1) + min a (mlen ((12 * cy d + cm d - 1 + n) / 12) ((12 * cy d + cm d - 1 + n) % 12 + 1)) - 1)
 else none
end Go.Proofs.YtjhpiclnpmdjnaaGreatDoor.Kl
