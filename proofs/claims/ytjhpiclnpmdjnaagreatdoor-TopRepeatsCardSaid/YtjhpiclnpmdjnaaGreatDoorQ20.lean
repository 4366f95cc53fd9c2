/-
  Parts of the proof: Ol, Olz.
-/
import Derived.Test.YtjhpiclnpmdjnaaGreatDoorQ06
import Derived.Test.YtjhpiclnpmdjnaaGreatDoorQ05
import Derived.ProofKit
import Derived.OpenShut
import Derived.ShutString
import Derived.ChangeOld
import Derived.ChangeSlices
import Derived.DataReads
import Derived.Deep.Slices
import Derived.Test.YtjhpiclnpmdjnaaGreatDoorQ03
namespace Go.Proofs.YtjhpiclnpmdjnaaGreatDoor.Ol
open Go Go.ChangeShapes Go.WideShapes Go.ChangeAt Go.RowKit
open Go.Proofs.YtjhpiclnpmdjnaaGreatDoor
open Go.Proofs.YtjhpiclnpmdjnaaGreatDoor.Ln
set_option maxRecDepth 100000

theorem list_of {α : Type} [Inhabited α] (p : Nat → α → Prop) : ∀ n : Nat, (∀ i, i < n → ∃ x, p i x) → ∃ xs : List α, xs.length = n ∧ ∀ i, i < n → p i xs[i]!
 | 0, _ => ⟨[], rfl, fun i h => absurd h (Nat.not_lt_zero _)⟩
 | n + 1, h => by
  obtain ⟨xs, hl, hx⟩ := list_of p n fun i hi => h i (by omega)
  obtain ⟨y, hy⟩ := h n (Nat.lt_succ_self _)
  refine ⟨xs ++ [y], by simp [hl], fun i hi => ?_⟩
  by_cases hin : i < n
  ·rw [getElem!_pos _ i (by simp; omega), List.getElem_append_left (by omega)]
   have := hx i hin
   rwa [getElem!_pos xs i (by omega)] at this
  ·have : i = n := by omega
   subst this
   rw [getElem!_pos _ i (by simp; omega), List.getElem_append_right (by omega)]
   simpa [hl] using hy
section
variable {H : Type} {ec : TypeId × Value → H} {P : Program} {w : World} {base : Nat} {spare : Nat → Bool} {held : Bool}
theorem open_row {α : Type} [Inhabited α] {enc : α → List Value} {k : Nat} {Q : α → Prop} {t e : TypeId} {fuel : Nat} {cs : List Value} {x : DataW H × List MemPlace} (hk : ∀ x, (enc x).length = k) (k0 : 0 < k) (hC : P.cellsOf e = k)
  (hel : ∀ (m : Nat) (cs : List Value) (y : DataW H × List MemPlace), DataW.trod ec P w base spare held m e cs = some y → ∃ x, cs = enc x ∧ Q x) (ht : P.underlying t = some (.slice e)) (h : DataW.trod ec P w base spare held fuel t cs = some x) :
  ∃ (a : Option Addr) (cap : Nat) (xs : List α), cs = [.slice a xs.length cap] ∧ xs.length ≤ maxLen ∧ RowIn enc w a xs ∧ ∀ x ∈ xs, Q x := by
 rcases Deep.open_slice ht h with ⟨rfl, _⟩ | ⟨a, len, cap, m, n, D, Pl, rfl, _, hl, hcm, hm, _, hi⟩
 ·exact ⟨none, 0, [], rfl, Nat.zero_le _, fun h => absurd h (Nat.not_lt_zero _), fun x hx => by cases hx⟩
 ·have hmm : len ≤ m := by rw [hm]; split <;> omega
  obtain ⟨xs, hxl, hx⟩ := list_of (fun i (x : α) => (∀ j, j < k → w.cell? (a.add (i * k + j)) = (enc x)[j]?) ∧ Q x) len fun i hil => by
   obtain ⟨cs', hc, hd⟩ := hi i (by omega)
   obtain ⟨y, rfl, hq⟩ := hel _ _ _ hd
   rw [hC] at hc
   obtain ⟨_, _, hcell⟩ := World.cells?_some hc
   exact ⟨y, fun j hj => by rw [← Deep.add_add]; exact hcell j hj, hq⟩
  refine ⟨some a, cap, xs, by rw [hxl], by omega, fun h0 => ?_, fun y hy => ?_⟩
  ·obtain ⟨b, off, spot⟩ := a
   have hspot : spot = none := by
    have hv : (enc xs[0]!)[0]? = some ((enc xs[0]!)[0]'(by rw [hk]; exact k0)) := List.getElem?_eq_getElem _
    have := ((hx 0 (by omega)).1 0 k0).trans hv
    simpa [Addr.add] using World.cell?_spot this
   subst hspot
   refine ⟨b, off, rfl, fun j u hj => ?_⟩
   have hlt : j < xs.length * k := by
    have := (List.getElem?_eq_some_iff.1 hj).1
    rwa [flat_len hk] at this
   have e : j / k * k + j % k = j := by rw [Nat.mul_comm]; exact Nat.div_add_mod j k
   have hjk : j / k < xs.length := (Nat.div_lt_iff_lt_mul k0).2 hlt
   rw [← e, flat_get hk xs _ _ hjk (Nat.mod_lt _ k0)] at hj
   have := (hx (j / k) (by omega)).1 (j % k) (Nat.mod_lt _ k0)
   rw [add_plain, e] at this
   exact this.trans hj
  ·obtain ⟨i, hil, rfl⟩ := List.mem_iff_getElem.1 hy
   have := (hx i (by omega)).2
   rwa [getElem!_pos xs i hil] at this
end
theorem wf_bd {a : Int} (h : (Lit.int .i64 a).wf = true) : -9223372036854775808 ≤ a ∧ a ≤ 9223372036854775807 := by
 simp [Lit.wf, IntKind.min, IntKind.max, IntKind.signed, IntKind.bits] at h
 omega
section
variable {H : Type} {ec : TypeId × Value → H} {w : World} {base : Nat} {spare : Nat → Bool} {held : Bool} {m : Nat} {x : DataW H × List MemPlace}
theorem cI : Tryz.prog.cellsOf 3 = 1 := by kernel_rfl
theorem cS : Tryz.prog.cellsOf 9 = 1 := by kernel_rfl
theorem fI {c : Value} (h : DataW.trod ec Tryz.prog w base spare held m 3 [c] = some x) : ∃ a, c = .int .i64 a ∧ -9223372036854775808 ≤ a ∧ a ≤ 9223372036854775807 := by
 obtain ⟨a, e, _, hw⟩ := DataW.trod_int Tryz.underlying3 h
 exact ⟨a, by simpa using e, wf_bd hw⟩
theorem fS {c : Value} (h : DataW.trod ec Tryz.prog w base spare held m 9 [c] = some x) : ∃ a, c = .string a ∧ a.size ≤ maxLen := by
 obtain ⟨a, e, _, hw⟩ := DataW.trod_string Tryz.underlying9 h
 exact ⟨a, by simpa using e, hw⟩
end
end Go.Proofs.YtjhpiclnpmdjnaaGreatDoor.Ol
namespace Go.Proofs.YtjhpiclnpmdjnaaGreatDoor.Ol
open Go Go.ChangeShapes Go.WideShapes Go.ChangeAt Go.RowKit
open Go.Proofs.YtjhpiclnpmdjnaaGreatDoor
open Go.Proofs.YtjhpiclnpmdjnaaGreatDoor.Ln
open Go.Proofs.YtjhpiclnpmdjnaaGreatDoor.Kl (Cl CalIn)
set_option maxRecDepth 100000
set_option linter.unusedVariables false

section
variable {H : Type} {ec : TypeId × Value → H} {w : World} {base : Nat} {spare : Nat → Bool} {held : Bool} {m : Nat} {x : DataW H × List MemPlace}
def ienc (n : Int) : List Value := [.int .i64 n]
theorem ienc_len (n : Int) : (ienc n).length = 1 := rfl
theorem flat_ienc : ∀ xs : List Int, flat ienc xs = xs.map (Value.int .i64)
 | [] => rfl
 | x :: xs => by
  have ih := flat_ienc xs
  unfold flat at ih ⊢
  simp [ienc] at ih ⊢
  exact ih
theorem ints_of_row {W : World} {a : Option Addr} {xs : List Int} (h : RowIn ienc W a xs) (hl : xs.length ≤ maxLen) : Bk.IntsIn W a xs := by
 refine ⟨by unfold maxLen at hl; omega, fun h0 => ?_⟩
 obtain ⟨b, off, ha, hc⟩ := h h0
 refine ⟨b, off, ha, fun j hj => hc j _ ?_⟩
 rw [flat_ienc]
 simp [List.getD_eq_getElem?_getD, hj]
theorem int_cells {cs : List Value} (h : DataW.trod ec Tryz.prog w base spare held m 3 cs = some x) : ∃ n : Int, cs = ienc n ∧ True := by
 obtain ⟨a, e, _, _⟩ := DataW.trod_int Tryz.underlying3 h
 exact ⟨a, e, trivial⟩
theorem cW : Tryz.prog.cellsOf 53 = 1 := by kernel_rfl
theorem cK : Tryz.prog.cellsOf 55 = 3 := by kernel_rfl
theorem cal_cells {cs : List Value} (h : DataW.trod ec Tryz.prog w base spare held m 55 cs = some x) : ∃ (c : Cl) (wa ha : Option Addr) (wc hc : Nat), cs = [.string c.nm, .slice wa c.wk.length wc, .slice ha c.hol.length hc] ∧ CalIn w c wa ha := by
 obtain ⟨xs, n, _, _, hl, hxl, hf⟩ := DataW.trod_struct Tryz.underlying55 h
 rw [cK] at hl
 match cs, hl, xs, hxl with
 | [c0, c1, c2], _, [x0, x1, x2], _ =>
  clear h hl hxl
  have h0 := hf 0 _ rfl
  simp [cS] at h0
  have h1 := hf 1 _ rfl
  simp [cW] at h1
  have h2 := hf 2 _ rfl
  simp [cW] at h2
  clear hf
  obtain ⟨a0, rfl, w0⟩ := fS h0
  obtain ⟨p1, k1, l1, e1, z1, r1, _⟩ := open_row (Q := fun _ => True) ienc_len (by decide) cI (fun _ _ _ h => int_cells h) Tryz.underlying53 h1
  obtain ⟨p2, k2, l2, e2, z2, r2, _⟩ := open_row (Q := fun _ => True) ienc_len (by decide) cI (fun _ _ _ h => int_cells h) Tryz.underlying53 h2
  simp only [List.cons.injEq, and_true] at e1 e2
  subst e1 e2
  exact ⟨⟨a0, l1, l2⟩, p1, p2, k1, k2, rfl, ⟨ints_of_row r1 z1, ints_of_row r2 z2, w0⟩⟩
end
end Go.Proofs.YtjhpiclnpmdjnaaGreatDoor.Ol

namespace Go.Proofs.YtjhpiclnpmdjnaaGreatDoor.Ol
open Go Go.ChangeShapes Go.WideShapes Go.ChangeAt Go.RowKit
open Go.Proofs.YtjhpiclnpmdjnaaGreatDoor
open Go.Proofs.YtjhpiclnpmdjnaaGreatDoor.Ln
set_option maxRecDepth 100000
set_option linter.unusedVariables false

section
variable {H : Type} {ec : TypeId × Value → H} {w : World} {base : Nat} {spare : Nat → Bool} {held : Bool} {m : Nat} {x : DataW H × List MemPlace}
end
end Go.Proofs.YtjhpiclnpmdjnaaGreatDoor.Ol
