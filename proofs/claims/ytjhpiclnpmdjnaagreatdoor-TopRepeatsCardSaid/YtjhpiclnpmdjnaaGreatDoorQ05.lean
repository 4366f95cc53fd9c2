/-
  Parts of the proof: La, Lb, Sr.
-/
import Derived.Test.YtjhpiclnpmdjnaaGreatDoorQ04
import Derived.Test.YtjhpiclnpmdjnaaGreatDoorQ02
import Derived.Deep.LoopGhost
import Derived.Test.YtjhpiclnpmdjnaaGreatDoorChecked
import Derived.Lib.Hide
import Derived.ProofKit
import Derived.Laws.AppendOwn
import Derived.Laws.OwnMore
import Derived.Lib.SliceRun
import Derived.Shelf.Abstract
import Derived.Laws.Rows
import Derived.Laws.Tables
import Derived.BigFrame
import Derived.Test.YtjhpiclnpmdjnaaGreatDoorQ03
import Derived.Maps.AppendAt
namespace Go.Proofs.YtjhpiclnpmdjnaaGreatDoor.Ln
open Go.RowKit
open Go.Proofs.YtjhpiclnpmdjnaaGreatDoor


def DuesIn (W : World) (a : Option Addr) (ds : List Du) : Prop := ds.length ≤ 2305843009213693951 ∧ (0 < ds.length → ∃ b off, a = some ⟨b, off, none⟩ ∧ ∀ j, j < ds.length →
 W.cell? ⟨b, off + j * 4, none⟩ = some (.int .i64 ds[j]!.no) ∧ W.cell? ⟨b, off + j * 4 + 1, none⟩ = some (.int .i64 ds[j]!.day) ∧ W.cell? ⟨b, off + j * 4 + 2, none⟩ = some (.int .i64 ds[j]!.pr) ∧ W.cell? ⟨b, off + j * 4 + 3, none⟩ = some (.int .i64 ds[j]!.it))
theorem DuesIn.later {W w1 : World} {a : Option Addr} {ds : List Du} (hb : Below W.heap.size W w1) (h : DuesIn W a ds) : DuesIn w1 a ds :=
 ⟨h.1, fun h0 => by
  obtain ⟨b, off, ha, hc⟩ := h.2 h0
  exact ⟨b, off, ha, fun j hj => ⟨cell_later hb (hc j hj).1, cell_later hb (hc j hj).2.1, cell_later hb (hc j hj).2.2.1, cell_later hb (hc j hj).2.2.2⟩⟩⟩
theorem bl2 {w W w1 : World} (hb : Below W.heap.size W w1) (h : Below w.heap.size w W) : Below w.heap.size w w1 := h.trans (hb.mono h.size)

def SR (w : World) (ds : List Du) (g : Nat) (s4 s5 s10 : Value) (W : World) : Prop := ∃ k : Nat, k + g = ds.length ∧ s10 = .int .i64 k ∧ s4 = .int .i64 (P (ds.take k)) ∧ s5 = .int .i64 (I (ds.take k)) ∧ Below w.heap.size w W
end Go.Proofs.YtjhpiclnpmdjnaaGreatDoor.Ln

namespace Go.Proofs.YtjhpiclnpmdjnaaGreatDoor.Ln
open Go.RowKit
open Go.Proofs.YtjhpiclnpmdjnaaGreatDoor

section
variable {α : Type} (enc : α → List Value) (k : Nat)
def flat (xs : List α) : List Value := xs.flatMap enc
variable {enc k}
theorem flat_len (hk : ∀ x, (enc x).length = k) : ∀ xs : List α, (flat enc xs).length = xs.length * k
 | [] => by simp [flat]
 | x :: xs => by
  have := flat_len hk xs
  unfold flat at *
  rw [List.flatMap_cons, List.length_append, this, hk, List.length_cons, Nat.add_mul, Nat.one_mul, Nat.add_comm]
theorem flat_get [Inhabited α] (hk : ∀ x, (enc x).length = k) : ∀ (xs : List α) (j i : Nat), j < xs.length → i < k → (flat enc xs)[j * k + i]? = (enc xs[j]!)[i]?
 | [], j, i, h, _ => absurd h (Nat.not_lt_zero _)
 | x :: xs, 0, i, _, hi => by
  unfold flat
  rw [List.flatMap_cons, Nat.zero_mul, Nat.zero_add, List.getElem?_append_left (by rw [hk]; exact hi)]
  rfl
 | x :: xs, j + 1, i, h, hi => by
  have ih := flat_get hk xs j i (by simpa using h) hi
  unfold flat at *
  rw [List.flatMap_cons, List.getElem?_append_right (by rw [hk, Nat.add_mul]; omega), hk, show (j + 1) * k + i - k = j * k + i by rw [Nat.add_mul]; omega, ih]
  simp
theorem flat_mem {Q : Value → Prop} (h : ∀ x, ∀ u ∈ enc x, Q u) : ∀ (xs : List α), ∀ u ∈ flat enc xs, Q u := by
 intro xs u hu
 unfold flat at hu
 obtain ⟨x, _, hx⟩ := List.mem_flatMap.1 hu
 exact h x u hx
def RowIn (enc : α → List Value) (W : World) (a : Option Addr) (xs : List α) : Prop := 0 < xs.length → ∃ b off, a = some ⟨b, off, none⟩ ∧ ∀ j u, (flat enc xs)[j]? = some u → W.cell? ⟨b, off + j, none⟩ = some u
theorem RowIn.later {W w1 : World} {a : Option Addr} {xs : List α} (hb : Below W.heap.size W w1) (h : RowIn enc W a xs) : RowIn enc w1 a xs := fun h0 => by
 obtain ⟨b, off, ha, hc⟩ := h h0
 exact ⟨b, off, ha, fun j u hj => cell_later hb (hc j u hj)⟩
def OwnR (enc : α → List Value) (k : Nat) (e : TypeId) (W : World) (B g c : Nat) (xs : List α) : Prop := B ≤ g ∧ c ≤ maxLen ∧ ∃ X : List Value, xs.length * k + X.length = c * k ∧ Bk.Blk W g ((flat enc xs ++ X).toArray) e
theorem OwnR.lt {e : TypeId} {W : World} {B g c : Nat} {xs : List α} (h : OwnR enc k e W B g c xs) : g < W.heap.size := h.2.2.elim fun _ h => h.2.lt
theorem OwnR.later {e : TypeId} {W w1 : World} {B g c : Nat} {xs : List α} (hb : Below W.heap.size W w1) (h : OwnR enc k e W B g c xs) : OwnR enc k e w1 B g c xs := by
 obtain ⟨h1, h2, X, h3, h4⟩ := h
 exact ⟨h1, h2, X, h3, h4.later hb⟩
theorem OwnR.row {e : TypeId} {W : World} {B g c : Nat} {xs : List α} (h : OwnR enc k e W B g c xs) : RowIn enc W (some ⟨g, 0, none⟩) xs := fun _ => by
 obtain ⟨_, _, X, _, h4⟩ := h
 refine ⟨g, 0, rfl, fun j u hj => ?_⟩
 rw [Nat.zero_add, h4.cell]
 have := (List.getElem?_eq_some_iff.1 hj).1
 simp [List.getElem?_append_left this, hj]
theorem OwnR.of {e : TypeId} {W : World} {B : Nat} {v : Value} {xs : List α} (h : W.ownsRow B e k v xs.length (flat enc xs)) (hv : v ≠ .slice none 0 0) : ∃ g c, v = .slice (some ⟨g, 0, none⟩) xs.length c ∧ OwnR enc k e W B g c xs := by
 obtain ⟨_, h | ⟨g, c, cur, h1, h2, h3, h4, h5, h6, h7⟩⟩ := h
 ·exact absurd h.1 hv
 ·refine ⟨g, c, h1, h2, h5, cur.toList.drop (xs.length * k), ?_, ?_⟩
  ·have : xs.length * k ≤ c * k := Nat.mul_le_mul_right k h4
   simp only [List.length_drop, Array.length_toList, h6]; omega
  ·rw [← h7, List.take_append_drop]
   exact h3
end

/-! ### installments -/
def denc (d : Du) : List Value := [.int .i64 d.no, .int .i64 d.day, .int .i64 d.pr, .int .i64 d.it]
theorem denc_len (d : Du) : (denc d).length = 4 := rfl
theorem denc_one (d : Du) : ∀ u ∈ denc d, u.oneCell' = true := by
 intro u hu
 simp only [denc, List.mem_cons, List.not_mem_nil, or_false] at hu
 rcases hu with rfl | rfl | rfl | rfl <;> rfl
theorem DuesIn.row {W : World} {a : Option Addr} {ds : List Du} (h : DuesIn W a ds) : RowIn denc W a ds := fun h0 => by
 obtain ⟨b, off, ha, hc⟩ := h.2 h0
 refine ⟨b, off, ha, fun m u hm => ?_⟩
 have hlt : m < ds.length * 4 := by
  have := (List.getElem?_eq_some_iff.1 hm).1
  rwa [flat_len denc_len] at this
 have hj : m / 4 < ds.length := by omega
 have hi : m % 4 < 4 := Nat.mod_lt _ (by omega)
 have e : m / 4 * 4 + m % 4 = m := by omega
 rw [← e, flat_get denc_len ds _ _ hj hi] at hm
 obtain ⟨c0, c1, c2, c3⟩ := hc (m / 4) hj
 rw [← e]
 generalize m / 4 = j at *
 generalize m % 4 = i at *
 have : i = 0 ∨ i = 1 ∨ i = 2 ∨ i = 3 := by omega
 rcases this with rfl | rfl | rfl | rfl
 ·simp [denc] at hm; rw [← hm]; simpa using c0
 ·simp [denc] at hm; rw [← hm]; simpa [Nat.add_assoc] using c1
 ·simp [denc] at hm; rw [← hm]; simpa [Nat.add_assoc] using c2
 ·simp [denc] at hm; rw [← hm]; simpa [Nat.add_assoc] using c3
end Go.Proofs.YtjhpiclnpmdjnaaGreatDoor.Ln

namespace Go.Proofs.YtjhpiclnpmdjnaaGreatDoor.Ln
open Go.RowKit
open Go.Proofs.YtjhpiclnpmdjnaaGreatDoor

def OR (w : World) (ds : List Du) (g : Nat) (s7 : Value) (W : World) : Prop := ∃ k : Nat, k + g = ds.length ∧ s7 = .int .i64 k ∧ (∀ i, i < k → ds[i]!.no = (i : Int) + 1 ∧ (i = 0 ∨ ds[i - 1]!.day ≤ ds[i]!.day)) ∧ Below w.heap.size w W
end Go.Proofs.YtjhpiclnpmdjnaaGreatDoor.Ln

namespace Go.Proofs.YtjhpiclnpmdjnaaGreatDoor.Ln
open Go.RowKit
open Go.Proofs.YtjhpiclnpmdjnaaGreatDoor

def dv (d : Du) : Value := .agg #[.int .i64 d.no, .int .i64 d.day, .int .i64 d.pr, .int .i64 d.it]
def Idx {α : Type} [Inhabited α] (p : α → Bool) (l : List α) (r : Int) : Prop := (r = -1 ∧ ∀ j, j < l.length → p l[j]! = false) ∨ ∃ k : Nat, k < l.length ∧ r = k ∧ p l[k]! = true ∧ ∀ j, j < k → p l[j]! = false
def Pred (g : Nat) (lb : Array Value) (p : Du → Bool) (w : World) : Prop := ∀ (d : Du) (W : World), Below w.heap.size w W → Calls Tryz.prog g (#[dv d] ++ lb) W fun e w' => e = .returned (.bool (p d)) ∧ Below W.heap.size W w'
def XR (w : World) (p : Du → Bool) (ds : List Du) (g : Nat) (s8 : Value) (W : World) : Prop := ∃ k : Nat, k + g = ds.length ∧ s8 = .int .i64 k ∧ (∀ j, j < k → p ds[j]! = false) ∧ Below w.heap.size w W
def am4 (l : Lo) : List Int := [l.fee, l.pen, l.prov, l.loss]
def NR (l : Lo) (W0 : World) (g : Nat) (s83 : Value) (W : World) : Prop := ∃ k : Nat, k + g = 4 ∧ s83 = .int .i64 k ∧ (∀ j, j < k → amt (am4 l)[j]! = true) ∧ W = W0
end Go.Proofs.YtjhpiclnpmdjnaaGreatDoor.Ln

namespace Go.Proofs.YtjhpiclnpmdjnaaGreatDoor.Ln
open Go.RowKit
open Go.Proofs.YtjhpiclnpmdjnaaGreatDoor

theorem load_guarded {P : Program} {ops : Array Oper} {rest : List Oper} {o : Oper} {a : Act} {w : World} {Q : Exit → Act → World → Prop} (ty : TypeId) (x : Operand) (ho : o.op = .load ty x) (hw : Region.wanted o (yielded ops a.tmps) = true)
  (g : Nat) (hx : a.eval x = .pointer (some ⟨g, 0, none⟩)) (t : TypeId) (cs : Array Value) (fr : Nat × Nat) (d : TypeDesc) (hg : w.heap[g]? = some (.cells cs t fr))
  (hu : P.underlying ty = some d) (hd : (match d with | .struct _ | .array _ _ => true | _ => false) = true) (hi : (P.info? ty).map (·.size) = some cs.size)
  (h : wpList P ops Q rest (a.put o.dst (.agg cs)) w) : wpList P ops Q (o :: rest) a w :=
 BigFrame.wpList_want hw fun _ hK => wp_load_row ty x ho g hx t cs fr d hg hu hd hi (hK _ _ h)
inductive Way (pp p pi i rcv loss pr st : Int) (n : Nat) (f : Bool) : Int → Prop where
 | a : p < pp → Way pp p pi i rcv loss pr st n f 25
 | b : pp ≤ p → i < pi → Way pp p pi i rcv loss pr st n f 25
 | c : pp ≤ p → pi ≤ i → loss < rcv → Way pp p pi i rcv loss pr st n f 25
 | d : pp ≤ p → pi ≤ i → rcv ≤ loss → n = 0 → p ≠ pr → Way pp p pi i rcv loss pr st n f 25
 | e : pp ≤ p → pi ≤ i → rcv ≤ loss → (n = 0 ∧ p = pr) ∨ n ≠ 0 → (st = 2 ∧ f = true) ∨ (st = 1 ∧ f = false) → Way pp p pi i rcv loss pr st n f 25
 | g : pp ≤ p → pi ≤ i → rcv ≤ loss → (n = 0 ∧ p = pr) ∨ n ≠ 0 → (st = 2 ∧ f = false) ∨ (st = 1 ∧ f = true) → (loss ≠ 0) ∨ (loss = 0 ∧ rcv ≠ 0) → Way pp p pi i rcv loss pr st n f 25
 | k : pp ≤ p → pi ≤ i → rcv ≤ loss → (n = 0 ∧ p = pr) ∨ n ≠ 0 → (st = 2 ∧ f = false) ∨ (st = 1 ∧ f = true) → loss = 0 → rcv = 0 → Way pp p pi i rcv loss pr st n f 0
 | m : pp ≤ p → pi ≤ i → rcv ≤ loss → (n = 0 ∧ p = pr) ∨ n ≠ 0 → st = 3 → Way pp p pi i rcv loss pr st n f 0
end Go.Proofs.YtjhpiclnpmdjnaaGreatDoor.Ln
namespace Go.Proofs.YtjhpiclnpmdjnaaGreatDoor.Ln
open Go.RowKit
open Go.Proofs.YtjhpiclnpmdjnaaGreatDoor

def Dok (ds : List Du) : Prop := ∀ d ∈ ds, d.day ≤ 9223372036854775807
def rprinR (W0 : World) (ds : List Du) (day : Int) (g : Nat) (s5 s6 : Value) (W : World) : Prop := ∃ k : Nat, k + g = ds.length ∧ s6 = .int .i64 k ∧ s5 = .int .i64 (P (due (ds.take k) day)) ∧ W = W0
def rintR (W0 : World) (ds : List Du) (day : Int) (g : Nat) (s5 s6 : Value) (W : World) : Prop := ∃ k : Nat, k + g = ds.length ∧ s6 = .int .i64 k ∧ s5 = .int .i64 (I (due (ds.take k) day)) ∧ W = W0
end Go.Proofs.YtjhpiclnpmdjnaaGreatDoor.Ln

namespace Go.Proofs.YtjhpiclnpmdjnaaGreatDoor.Ln
open Go.RowKit
open Go.Proofs.YtjhpiclnpmdjnaaGreatDoor

def greatB (l : Lo) : Bool := decide (300 < l.ds.length) || decide (100 < l.cs.length)
end Go.Proofs.YtjhpiclnpmdjnaaGreatDoor.Ln
namespace Go.Proofs.YtjhpiclnpmdjnaaGreatDoor.Sr
open Go Go.RowKit
open Go.Proofs.YtjhpiclnpmdjnaaGreatDoor
open Go.Proofs.YtjhpiclnpmdjnaaGreatDoor.Ln (flat flat_len flat_get RowIn OwnR Du denc denc_one denc_len)

section
variable {α : Type} {enc : α → List Value} {k : Nat} {T : TypeId}
def GV (enc : α → List Value) (k : Nat) (T : TypeId) (W : World) (B : Nat) (v : Value) (xs : List α) : Prop := W.ownsRow B T k v xs.length (flat enc xs) ∧ ∃ a c, v = .slice a xs.length c
theorem GV.nil (W : World) (B : Nat) : GV enc k T W B (.slice none 0 0) [] := ⟨⟨by simp [flat], .inl ⟨rfl, rfl⟩⟩, none, 0, rfl⟩
theorem GV.row {W : World} {B : Nat} {v : Value} {xs : List α} (h : GV enc k T W B v xs) : ∃ a c, v = .slice a xs.length c ∧ RowIn enc W a xs ∧ (∀ ad, a = some ad → B ≤ ad.block) := by
 obtain ⟨ho, a, c, rfl⟩ := h
 by_cases hn : (Value.slice a xs.length c) = .slice none 0 0
 ·obtain ⟨rfl, h0, rfl⟩ := by simpa using hn
  exact ⟨none, 0, rfl, fun h => by simp [h0] at h, fun ad h => by cases h⟩
 ·obtain ⟨g, c', he, hr⟩ := OwnR.of ho hn
  obtain ⟨rfl, _, rfl⟩ := by simpa using he
  exact ⟨_, _, rfl, hr.row, fun ad h => by cases h; exact hr.1⟩
theorem GV.later {W w1 : World} {B : Nat} {v : Value} {xs : List α} (hb : Below W.heap.size W w1) (h : GV enc k T W B v xs) : GV enc k T w1 B v xs := by
 obtain ⟨⟨hl, ho⟩, hs⟩ := h
 refine ⟨⟨hl, ?_⟩, hs⟩
 rcases ho with ho | ⟨g, cap, cur, h1, h2, h3, h4⟩
 ·exact .inl ho
 ·exact .inr ⟨g, cap, cur, h1, h2, Bk.Blk.later hb h3, h4⟩
theorem GV.lt {W : World} {B : Nat} {v : Value} {xs : List α} (h : GV enc k T W B v xs) : ∀ j, v.ownBlock = some j → j < W.heap.size ∧ B ≤ j := by
 obtain ⟨⟨hl, ho⟩, hs⟩ := h
 rcases ho with ho | ⟨g, cap, cur, rfl, h2, h3, h4⟩
 ·intro j hj; rw [ho.1] at hj; cases hj
 ·intro j hj
  obtain rfl : g = j := by simpa [Value.ownBlock] using hj
  exact ⟨Bk.Blk.lt h3, h2⟩
theorem GV.len {W : World} {B : Nat} {v : Value} {xs : List α} (h : GV enc k T W B v xs) : ∃ a c, v = .slice a xs.length c := h.2
theorem OwnR.gv {W : World} {B g c : Nat} {xs : List α} (hk : ∀ x, (enc x).length = k) (k0 : 0 < k) (h : OwnR enc k T W B g c xs) : GV enc k T W B (.slice (some ⟨g, 0, none⟩) xs.length c) xs := by
 obtain ⟨h1, h2, X, h3, h4⟩ := h
 have hc : xs.length ≤ c := by
  apply Classical.byContradiction
  intro hn
  have : (c + 1) * k ≤ xs.length * k := Nat.mul_le_mul_right k (by omega)
  rw [Nat.add_mul] at this
  omega
 refine ⟨⟨flat_len hk xs, .inr ⟨g, c, _, rfl, h1, h4, hc, h2, ?_, ?_⟩⟩, _, _, rfl⟩
 ·simp only [List.size_toArray, List.length_append, flat_len hk xs]; exact h3
 ·simp only []
  rw [List.take_append_of_le_length (by rw [flat_len hk]; exact Nat.le_refl _), List.take_of_length_le (by rw [flat_len hk]; exact Nat.le_refl _)]
theorem app_gv {ST : TypeId} {z : Value} {bytes : Nat} (hk : ∀ x, (enc x).length = k) (he : ∀ x, ∀ u ∈ enc x, u.oneCell' = true) (k0 : 0 < k) (kb : bytes ≤ 1024) (hzs : z.cells.size = k)
  (hinfo : (Tryz.prog.info? T).map (fun i => (i.zero, i.size, i.bytes)) = some (some z, k, bytes)) (hu : Tryz.prog.underlying ST = some (.slice T))
  {ops : Array Oper} {rest : List Oper} {o : Oper} {a : Act} {Q : Exit → Act → World → Prop} {W : World} {B : Nat} {v : Value} {xs : List α} (x : α) (hgd : o.guard = none) (s y : Operand)
  (ho : o.op = .call { callee := .builtin .append, args := #[s, y], argTypes := #[ST, ST] }) (hs : a.eval s = v) (hr : GV enc k T W B v xs)
  (hy : a.eval y = .slice (some ⟨W.heap.size, 0, none⟩) 1 1) (hl : xs.length ≤ 1000000) (hB : B ≤ W.heap.size)
  (h : ∀ v' w', GV enc k T w' B v' (xs ++ [x]) → (W.alloc (.cells (enc x).toArray T)).grownBy w' v.ownBlock → (v'.ownBlock = v.ownBlock ∨ v'.ownBlock = some (W.heap.size + 1)) → wpList Tryz.prog ops Q rest (a.put o.dst v') w') :
  wpList Tryz.prog ops Q (o :: rest) a (W.alloc (.cells (enc x).toArray T)) := by
 obtain ⟨i, hi, hzz⟩ := Option.map_eq_some_iff.1 hinfo
 simp only [Prod.mk.injEq] at hzz
 obtain ⟨hz, hsz, hby⟩ := hzz
 refine wpList_append_own_at _ hgd s y ST ho B T i z k bytes hu hi hz hsz hby hzs k0 v xs.length (flat enc xs) hs (hr.1.alloc _) ⟨W.heap.size, 0, none⟩ 1 1 (enc x) hy (by rw [hk, Nat.one_mul]) ?_ (he x) (by unfold maxLen; omega) ?_ (by simp; omega) ?_
 ·intro j u hj
  rw [show (⟨W.heap.size, 0, none⟩ : Addr).add j = ⟨W.heap.size, 0 + j, none⟩ from Go.WideShapes.add_plain .., Nat.zero_add]
  have hk := Bk.Blk.nw10 (W := W) (cs := (enc x).toArray) (t := T)
  rw [hk.cell]
  simpa using hj
 ·calc (xs.length + 1) * bytes ≤ 1000001 * 1024 := Nat.mul_le_mul (by omega) kb
   _ ≤ 140737488355328 := by decide
 ·intro v' w' hown hgr hnil hat
  refine h v' w' ?_ hgr (by simpa using hat)
  have e : flat enc xs ++ enc x = flat enc (xs ++ [x]) := by simp [flat]
  rw [e, show xs.length + 1 = (xs ++ [x]).length by simp] at hown
  refine ⟨hown, ?_⟩
  have hn : v' ≠ .slice none 0 0 := fun hv => by have := (hnil.1 hv).2; omega
  obtain ⟨g, c, rfl, _⟩ := OwnR.of hown hn
  exact ⟨_, _, rfl⟩
theorem grown_below {W w1 : World} {v : Value} {xs : List α} {w : World} {cs : Array Value} (hb : Below w.heap.size w W) (hr : GV enc k T W w.heap.size v xs) (hg : (W.alloc (.cells cs T)).grownBy w1 v.ownBlock) : Below w.heap.size w w1 :=
 (hb.alloc hb.size _).grown hg (by have := hb.size; simp; omega) (fun j hj => (hr.lt j hj).2)
theorem grown_blk {W w1 : World} {v : Value} {g : Nat} {cs ds : Array Value} {t : TypeId} (hk : Bk.Blk W g ds t) (hg : (W.alloc (.cells cs T)).grownBy w1 v.ownBlock) (hne : v.ownBlock ≠ some g) : Bk.Blk w1 g ds t :=
 (hg.block _ (by have := Bk.Blk.lt hk; simp; omega) (Ne.symm hne)).trans hk.alloc
end
/-! ### numbers -/
def ienc (n : Int) : List Value := [.int .i64 n]
theorem ienc_len (n : Int) : (ienc n).length = 1 := rfl
theorem ienc_one (n : Int) : ∀ u ∈ ienc n, u.oneCell' = true := by
 intro u hu
 simp only [ienc, List.mem_cons, List.not_mem_nil, or_false] at hu
 subst hu; rfl
theorem flat_ienc (l : List Int) : flat ienc l = l.map (Value.int .i64) := by
 induction l with
 | nil => rfl
 | cons x l ih =>
  unfold flat at ih ⊢
  rw [List.flatMap_cons, ih]
  rfl
theorem ints_of_row {W : World} {a : Option Addr} {l : List Int} (hn : l.length ≤ 9223372036854775807) (h : RowIn ienc W a l) : Bk.IntsIn W a l := ⟨hn, fun h0 => by
 obtain ⟨b, off, ha, hc⟩ := h h0
 refine ⟨b, off, ha, fun j hj => hc j _ ?_⟩
 rw [flat_ienc]
 simp [hj, List.getD_eq_getElem?_getD]⟩
theorem int_info : (Tryz.prog.info? 3).map (fun i => (i.zero, i.size, i.bytes)) = some (some (.int .i64 0), 1, 8) := by kernel_rfl
abbrev IV (W : World) (B : Nat) (v : Value) (l : List Int) : Prop := GV ienc 1 3 W B v l
theorem app_int {ops : Array Oper} {rest : List Oper} {o : Oper} {a : Act} {Q : Exit → Act → World → Prop} {W : World} {B : Nat} {v : Value} {xs : List Int} (x : Int) (hgd : o.guard = none) (s y : Operand)
  (ho : o.op = .call { callee := .builtin .append, args := #[s, y], argTypes := #[53, 53] }) (hs : a.eval s = v) (hr : IV W B v xs)
  (hy : a.eval y = .slice (some ⟨W.heap.size, 0, none⟩) 1 1) (hl : xs.length ≤ 1000000) (hB : B ≤ W.heap.size)
  (h : ∀ v' w', IV w' B v' (xs ++ [x]) → (W.alloc (.cells #[.int .i64 x] 3)).grownBy w' v.ownBlock → (v'.ownBlock = v.ownBlock ∨ v'.ownBlock = some (W.heap.size + 1)) → wpList Tryz.prog ops Q rest (a.put o.dst v') w') :
  wpList Tryz.prog ops Q (o :: rest) a (W.alloc (.cells #[.int .i64 x] 3)) :=
 app_gv ienc_len ienc_one (by decide) (by decide) rfl int_info Tryz.underlying53 x hgd s y ho hs hr hy hl hB h
end Go.Proofs.YtjhpiclnpmdjnaaGreatDoor.Sr
