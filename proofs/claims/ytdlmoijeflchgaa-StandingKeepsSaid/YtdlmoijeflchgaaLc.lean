/-
  slices.Clone at changes of loans.
  slices.DeleteFunc at installments, over a row of the call's own, whatever the predicate; due of package loan.
  slices.IndexFunc and DeleteFunc at parts, whatever the predicate.
  Owed of package loan.
  The reference's SameParts, SameDues: equal lists are the same.
  The reference's Owed.
  Whole blocks stored; the reference's Apply.
  Whole blocks loaded and stored in a region that draws its order: step by step.
  Calls in a region that draws its order, one by one or two in either order.
  Two operations of which either may come up; a block made in a region that draws its order.
  Functions that return a loan: the loan's block and the result's; slices.Clone in one form; a result behind 'return l, ..'.
-/
import Derived.Test.YtdlmoijeflchgaaLa
import Derived.Lib.LazyBuf
import Derived.Laws.IdiomCopy
import Derived.Test.YtdlmoijeflchgaaLb
import Derived.Maps.AppendAt
import Derived.Deep.Cut
import Derived.Deep.RegionHeld3
import Derived.Laws.Rows
import Derived.Laws.Tables
namespace Go.Proofs.Ytdlmoijeflchgaa.Ln
open Go.RowKit
open Go.Proofs.Ytdlmoijeflchgaa

/-- A change in memory. -/
def tenc (t : Tm) : List Value := [.int .i64 (t).me, .int .i64 (t).pr, .int .i64 (t).ppm, .int .i64 (t).stt, .int .i64 (t).ev, .int .i64 (t).ct, .int .i64 (t).ba, .int .i64 (t).mo, .int .i64 (t).pen, .int .i64 (t).fe, .string (t).cal, .string (t).cur]
def cenc (c : Ch) : List Value := .int .i64 c.day :: .int .i64 c.amt :: tenc c.old
theorem cenc_len (d : Ch) : (cenc d).length = 14 := rfl
theorem cenc_one (d : Ch) : ∀ u ∈ cenc d, u.oneCell' = true := by
  intro u hu
  simp only [cenc, tenc, List.mem_cons, List.not_mem_nil, or_false] at hu
  rcases hu with rfl | rfl | rfl | rfl | rfl | rfl | rfl | rfl | rfl | rfl | rfl | rfl | rfl | rfl <;> rfl
end Go.Proofs.Ytdlmoijeflchgaa.Ln

namespace Go.Proofs.Ytdlmoijeflchgaa.Ln
open Go.RowKit
open Go.Proofs.Ytdlmoijeflchgaa

/-- What DeleteFunc has done: the first i places hold what of the first j elements is kept; from j on all is as it was. -/
structure DelInv {α : Type} [Inhabited α] (p : α → Bool) (xs ys : List α) (i j : Nat) : Prop where
  len : ys.length = xs.length
  lt : i < j
  le : j ≤ xs.length
  done : ys.take i = (xs.take j).filter fun x => !p x
  rest : ∀ m, j ≤ m → m < xs.length → ys[m]! = xs[m]!
theorem filter_none {α : Type} {p : α → Bool} {l : List α} (h : ∀ x ∈ l, p x = false) : (l.filter fun x => !p x) = l := by
  rw [List.filter_eq_self]; intro x hx; simp [h x hx]
section
variable {α : Type} [Inhabited α] {p : α → Bool} {xs ys : List α} {i j : Nat}
theorem take_succ' {l : List α} {k : Nat} (h : k < l.length) : l.take (k + 1) = l.take k ++ [l[k]!] := by
  rw [List.take_add_one, List.getElem?_eq_getElem h, getElem!_pos l k h]; rfl
theorem DelInv.start {k : Nat} (hk : k < xs.length) (ht : p xs[k]! = true) (hall : ∀ j, j < k → p xs[j]! = false) : DelInv p xs xs k (k + 1) := by
  refine ⟨rfl, by omega, hk, ?_, fun _ _ _ => rfl⟩
  rw [take_succ' hk, List.filter_append, filter_none (p := p) (l := xs.take k)]
  · generalize xs[k]! = y at *
    simp [ht]
  · intro x hx
    obtain ⟨m, hm, rfl⟩ := List.mem_iff_getElem.1 hx
    have hm' : m < k := by simp at hm; omega
    have := hall m hm'
    rw [getElem!_pos xs m (by omega)] at this
    simpa using this
theorem DelInv.keep (h : DelInv p xs ys i j) (hj : j < xs.length) (hp : p xs[j]! = false) : DelInv p xs (ys.set i xs[j]!) (i + 1) (j + 1) := by
  have hl := h.len
  have hlt := h.lt
  refine ⟨by simpa using hl, by omega, hj, ?_, fun m hm hm' => ?_⟩
  · rw [take_succ' hj, List.filter_append, ← h.done, take_succ' (by simp; omega), List.take_set_of_le (Nat.le_refl i)]
    have hg : (ys.set i xs[j]!)[i]! = xs[j]! := by rw [getElem!_pos _ i (by simp; omega)]; simp
    rw [hg]
    generalize xs[j]! = y at *
    simp [hp]
  · have := h.rest m (by omega) hm'
    rw [← this]
    simp [List.getElem!_eq_getElem?_getD, List.getElem?_set_ne (show i ≠ m by omega)]
theorem DelInv.skip (h : DelInv p xs ys i j) (hj : j < xs.length) (hp : p xs[j]! = true) : DelInv p xs ys i (j + 1) := by
  refine ⟨h.len, by have := h.lt; omega, hj, ?_, fun m hm hm' => h.rest m (by omega) hm'⟩
  rw [take_succ' hj, List.filter_append, ← h.done]
  generalize xs[j]! = y at *
  simp [hp]
theorem DelInv.fin (h : DelInv p xs ys i xs.length) : ys.take i = (xs.filter fun x => !p x) ∧ (xs.filter fun x => !p x).length = i := by
  have hd := h.done
  rw [List.take_length] at hd
  refine ⟨hd, ?_⟩
  rw [← hd, List.length_take, h.len]
  have := h.lt; omega
end
/-- 'clear(s)' of n elements of several cells. -/
theorem run_clear_k {P : Program} (w : World) (t e ty : TypeId) (z : Value) (ht : P.underlying t = some (.slice e)) (hv : ∀ w, (zeroValue e).run P w = .ok z w) (hz : 0 < z.cells.size) (h1 : ∀ u ∈ z.cells.toList, u.oneCell' = true) (b o n c : Nat) (hn : 0 < n)
    (hc : ∀ j, j < n * z.cells.size → (w.cell? ⟨b, o + j, none⟩).isSome = true) (hf : ∀ j, j < n * z.cells.size → w.frozen? ⟨b, o + j, none⟩ = false) :
    (Builtin.clear_ #[t] ty #[.slice (some ⟨b, o, none⟩) n c]).run P w = .ok (.tuple #[]) (w.setCells b o (Builtin.zeroCells z.cells n).toList) := by
  have hlen : (Builtin.zeroCells z.cells n).toList.length = n * z.cells.size := by simp [Builtin.zeroCells]
  have hst := run_storeCells_cells (P := P) b o (Builtin.zeroCells z.cells n).toList 0 w (by rw [hlen]; simpa using hc) (by rw [hlen]; simpa using hf) (by
    intro v hv'
    simp only [Builtin.zeroCells, Array.toList_map, List.mem_map] at hv'
    obtain ⟨i, _, rfl⟩ := hv'
    have hi : i % z.cells.size < z.cells.size := Nat.mod_lt _ hz
    rw [getElem!_pos z.cells _ hi]
    exact h1 _ (by simp))
  simp only [Nat.add_zero] at hst
  obtain ⟨m, rfl⟩ : ∃ m, n = m + 1 := ⟨n - 1, by omega⟩
  simp [Builtin.clear_, run_underlying ht, hv, hst]
/-- One element of a flat row is stored. -/
theorem flat_take {α : Type} {enc : α → List Value} {k : Nat} (hk : ∀ x, (enc x).length = k) : ∀ (xs : List α) (i m : Nat), m < i * k → i ≤ xs.length → (flat enc (xs.take i))[m]? = (flat enc xs)[m]?
  | [], i, m, h, hi => by simp at hi; subst hi; simp at h
  | x :: xs, 0, m, h, _ => by simp at h
  | x :: xs, i + 1, m, h, hi => by
    unfold flat
    rw [List.take_succ_cons, List.flatMap_cons, List.flatMap_cons]
    rcases Nat.lt_or_ge m k with hm | hm
    · rw [List.getElem?_append_left (by rw [hk]; exact hm), List.getElem?_append_left (by rw [hk]; exact hm)]
    · rw [List.getElem?_append_right (by rw [hk]; exact hm), List.getElem?_append_right (by rw [hk]; exact hm), hk]
      exact flat_take hk xs i (m - k) (by rw [Nat.add_mul] at h; omega) (by simpa using hi)

theorem dflat_set (v : Du) (X : List Value) : ∀ (ys : List Du) (i : Nat), i < ys.length → (((((flat denc ys ++ X).toArray.setIfInBounds (i * 4) (.int .i64 v.no)).setIfInBounds (i * 4 + 1) (.int .i64 v.day)).setIfInBounds (i * 4 + 2) (.int .i64 v.pr)).setIfInBounds (i * 4 + 3) (.int .i64 v.it)) = (flat denc (ys.set i v) ++ X).toArray := by
  intro ys i h
  simp only [List.setIfInBounds_toArray]
  congr 1
  induction ys generalizing i with
  | nil => simp at h
  | cons y ys ih =>
    cases i with
    | zero => simp [flat, denc]
    | succ i =>
      have := ih i (by simpa using h)
      simp only [flat, List.flatMap_cons, denc, List.set_cons_succ, List.cons_append, List.nil_append] at this ⊢
      rw [show (i + 1) * 4 = i * 4 + 4 by omega]
      simp only [show ∀ a b : Nat, a + 4 + b = a + b + 4 from fun a b => by omega, List.set_cons_succ]
      simpa using this
/-- The cells of an element of a row that is known whole. -/
theorem dblk_cells {W : World} {g : Nat} {ys : List Du} {X : List Value} {bt : TypeId} (h : Bk.Blk W g ((flat denc ys ++ X).toArray) bt) {j : Nat} (hj : j < ys.length) :
    W.cell? ⟨g, j * 4, none⟩ = some (.int .i64 ys[j]!.no) ∧ W.cell? ⟨g, j * 4 + 1, none⟩ = some (.int .i64 ys[j]!.day) ∧ W.cell? ⟨g, j * 4 + 2, none⟩ = some (.int .i64 ys[j]!.pr) ∧ W.cell? ⟨g, j * 4 + 3, none⟩ = some (.int .i64 ys[j]!.it) := by
  have c : ∀ i, i < 4 → W.cell? ⟨g, j * 4 + i, none⟩ = (denc ys[j]!)[i]? := fun i hi => by
    rw [h.cell]
    have hg := flat_get denc_len ys j i hj hi
    have hl := flat_len denc_len ys
    rw [← hg]
    simp [List.getElem?_append_left (show j * 4 + i < (flat denc ys).length by rw [hl]; omega)]
  exact ⟨by simpa [denc] using c 0 (by omega), by simpa [denc] using c 1 (by omega), by simpa [denc] using c 2 (by omega), by simpa [denc] using c 3 (by omega)⟩
/-- Where DeleteFunc stands. -/
def dDR (bt : TypeId) (w : World) (B g : Nat) (X : List Value) (p : Du → Bool) (xs : List Du) (gg : Nat) (s5 s6 : Value) (W : World) : Prop := ∃ (i j : Nat) (ys : List Du), j + gg = xs.length ∧ s5 = .int .i64 i ∧ s6 = .int .i64 j ∧ DelInv p xs ys i j ∧ Bk.Blk W g ((flat denc ys ++ X).toArray) bt ∧ Below B w W
/-- A predicate that is called answers p, in every world that is as w was below B. -/
def dPred (g0 : Nat) (lb : Array Value) (p : Du → Bool) (B : Nat) (w : World) : Prop := ∀ (d : Du) (W : World), Below B w W → Calls Try.prog g0 (#[.agg #[.int .i64 d.no, .int .i64 d.day, .int .i64 d.pr, .int .i64 d.it]] ++ lb) W fun e w' => e = .returned (.bool (p d)) ∧ Below W.heap.size W w'

theorem due_filter (ds : List Du) (on : Int) : (ds.filter fun d => !decide (on < d.day)) = due ds on := by
  unfold due
  apply List.filter_congr
  intro d _
  by_cases h : on < d.day
  · rw [decide_eq_true h, decide_eq_false (by omega)]; rfl
  · rw [decide_eq_false h, decide_eq_true (by omega)]; rfl
theorem due_len (ds : List Du) (on : Int) : (due ds on).length ≤ ds.length := List.length_filter_le ..
end Go.Proofs.Ytdlmoijeflchgaa.Ln

namespace Go.Proofs.Ytdlmoijeflchgaa.Ln
open Go.RowKit
open Go.Proofs.Ytdlmoijeflchgaa

/-- A part of a payment. -/
structure Pa where
  (kd am : Int)
instance : Inhabited Pa := ⟨⟨0, 0⟩⟩
def penc (p : Pa) : List Value := [.int .i64 p.kd, .int .i64 p.am]
theorem penc_len (p : Pa) : (penc p).length = 2 := rfl
theorem penc_one (p : Pa) : ∀ u ∈ penc p, u.oneCell' = true := by
  intro u hu
  simp only [penc, List.mem_cons, List.not_mem_nil, or_false] at hu
  rcases hu with rfl | rfl <;> rfl
/-- Parts without those that are empty; what is owed; the parts of a distribution. -/
def pparts (l : List Pa) : List Pa := l.filter fun p => decide (0 < p.am)
def powed (l : Lo) (day : Int) : List Pa := pparts [⟨1, l.fee⟩, ⟨2, l.pen⟩, ⟨3, oI l day⟩, ⟨4, oP l day⟩]
def Dist.pps (x : Dist) : List Pa := pparts [⟨1, x.a⟩, ⟨2, x.b⟩, ⟨3, x.c⟩, ⟨4, x.d⟩, ⟨5, x.r⟩]
/-- The cells of parts that are read. -/
theorem RowIn.parts {W : World} {a : Option Addr} {xs : List Pa} (h : RowIn penc W a xs) (h0 : 0 < xs.length) : ∃ b off, a = some ⟨b, off, none⟩ ∧ ∀ j, j < xs.length → W.cell? ⟨b, off + j * 2, none⟩ = some (.int .i64 xs[j]!.kd) ∧ W.cell? ⟨b, off + j * 2 + 1, none⟩ = some (.int .i64 xs[j]!.am) := by
  obtain ⟨b, off, ha, hc⟩ := h h0
  refine ⟨b, off, ha, fun j hj => ?_⟩
  have c : ∀ i, i < 2 → W.cell? ⟨b, off + (j * 2 + i), none⟩ = (penc xs[j]!)[i]? := fun i hi => by
    have hg := flat_get penc_len xs j i hj hi
    have : i < (penc xs[j]!).length := hi
    rw [List.getElem?_eq_getElem this] at hg ⊢
    exact hc _ _ hg
  have c0 := c 0 (by omega)
  have c1 := c 1 (by omega)
  simp only [penc, ← Nat.add_assoc] at c0 c1
  exact ⟨by simpa using c0, by simpa using c1⟩

theorem pflat_set (v : Pa) (X : List Value) : ∀ (ys : List Pa) (i : Nat), i < ys.length → (((flat penc ys ++ X).toArray.setIfInBounds (i * 2) (.int .i64 v.kd)).setIfInBounds (i * 2 + 1) (.int .i64 v.am)) = (flat penc (ys.set i v) ++ X).toArray := by
  intro ys i h
  simp only [List.setIfInBounds_toArray]
  congr 1
  induction ys generalizing i with
  | nil => simp at h
  | cons y ys ih =>
    cases i with
    | zero => simp [flat, penc]
    | succ i =>
      have := ih i (by simpa using h)
      simp only [flat, List.flatMap_cons, penc, List.set_cons_succ, List.cons_append, List.nil_append] at this ⊢
      rw [show (i + 1) * 2 = i * 2 + 2 by omega]
      simp only [show ∀ a b : Nat, a + 2 + b = a + b + 2 from fun a b => by omega, List.set_cons_succ]
      simpa using this
/-- The cells of an element of a row that is known whole. -/
theorem pblk_cells {W : World} {g : Nat} {ys : List Pa} {X : List Value} {bt : TypeId} (h : Bk.Blk W g ((flat penc ys ++ X).toArray) bt) {j : Nat} (hj : j < ys.length) :
    W.cell? ⟨g, j * 2, none⟩ = some (.int .i64 ys[j]!.kd) ∧ W.cell? ⟨g, j * 2 + 1, none⟩ = some (.int .i64 ys[j]!.am) := by
  have c : ∀ i, i < 2 → W.cell? ⟨g, j * 2 + i, none⟩ = (penc ys[j]!)[i]? := fun i hi => by
    rw [h.cell]
    have hg := flat_get penc_len ys j i hj hi
    have hl := flat_len penc_len ys
    rw [← hg]
    simp [List.getElem?_append_left (show j * 2 + i < (flat penc ys).length by rw [hl]; omega)]
  exact ⟨by simpa [penc] using c 0 (by omega), by simpa [penc] using c 1 (by omega)⟩
/-- Where DeleteFunc stands. -/
def pDR (bt : TypeId) (w : World) (B g : Nat) (X : List Value) (p : Pa → Bool) (xs : List Pa) (gg : Nat) (s5 s6 : Value) (W : World) : Prop := ∃ (i j : Nat) (ys : List Pa), j + gg = xs.length ∧ s5 = .int .i64 i ∧ s6 = .int .i64 j ∧ DelInv p xs ys i j ∧ Bk.Blk W g ((flat penc ys ++ X).toArray) bt ∧ Below B w W
/-- A predicate that is called answers p, in every world that is as w was below B. -/
def pPred (g0 : Nat) (lb : Array Value) (p : Pa → Bool) (B : Nat) (w : World) : Prop := ∀ (d : Pa) (W : World), Below B w W → Calls Try.prog g0 (#[.agg #[.int .i64 d.kd, .int .i64 d.am]] ++ lb) W fun e w' => e = .returned (.bool (p d)) ∧ Below W.heap.size W w'

/-- Where IndexFunc stands. -/
def pXR (w : World) (p : Pa → Bool) (xs : List Pa) (g : Nat) (s8 : Value) (W : World) : Prop := ∃ k : Nat, k + g = xs.length ∧ s8 = .int .i64 k ∧ (∀ j, j < k → p xs[j]! = false) ∧ Below w.heap.size w W
theorem owed_filter (l : List Pa) : (l.filter fun p => !decide (p.am ≤ 0)) = pparts l := by
  unfold pparts
  apply List.filter_congr
  intro d _
  by_cases h : d.am ≤ 0
  · rw [decide_eq_true h, decide_eq_false (by omega)]; rfl
  · rw [decide_eq_false h, decide_eq_true (by omega)]; rfl
end Go.Proofs.Ytdlmoijeflchgaa.Ln

namespace Go.Proofs.Ytdlmoijeflchgaa.Ln
open Go.RowKit
open Go.Proofs.Ytdlmoijeflchgaa

theorem pparts_len (l : List Pa) : (pparts l).length ≤ l.length := List.length_filter_le ..
end Go.Proofs.Ytdlmoijeflchgaa.Ln

namespace Go.Proofs.Ytdlmoijeflchgaa.Ln
open Go.RowKit
open Go.Proofs.Ytdlmoijeflchgaa

theorem RowIn.dues {W : World} {a : Option Addr} {xs : List Du} (h : RowIn denc W a xs) (hn : xs.length ≤ 100000) (h0 : 0 < xs.length) : ∃ b off, a = some ⟨b, off, none⟩ ∧ ∀ j, j < xs.length → W.cell? ⟨b, off + j * 4, none⟩ = some (.int .i64 xs[j]!.no) ∧ W.cell? ⟨b, off + j * 4 + 1, none⟩ = some (.int .i64 xs[j]!.day) ∧ W.cell? ⟨b, off + j * 4 + 2, none⟩ = some (.int .i64 xs[j]!.pr) ∧ W.cell? ⟨b, off + j * 4 + 3, none⟩ = some (.int .i64 xs[j]!.it) :=
  (dues_of_row (by omega) h).2 h0

/-- Where the loop stands. -/
def samepartsR (w : World) (n : Nat) (g : Nat) (s5 : Value) (W : World) : Prop := ∃ k : Nat, k + g = n ∧ s5 = .int .i64 k ∧ Below w.heap.size w W
/-- Where the loop stands. -/
def sameduesR (w : World) (n : Nat) (g : Nat) (s5 : Value) (W : World) : Prop := ∃ k : Nat, k + g = n ∧ s5 = .int .i64 k ∧ Below w.heap.size w W
end Go.Proofs.Ytdlmoijeflchgaa.Ln

namespace Go.Proofs.Ytdlmoijeflchgaa.Ln
open Go.RowKit
open Go.Proofs.Ytdlmoijeflchgaa

theorem pparts_succ {l : List Pa} {k : Nat} (h : k < l.length) : pparts (l.take (k + 1)) = pparts (l.take k) ++ (if 0 < l[k]!.am then [l[k]!] else []) := by
  unfold pparts
  rw [take_succ' h, List.filter_append]
  congr 1
  simp only [List.filter_cons, List.filter_nil]
  split <;> rename_i hh <;> simp at hh <;> simp [hh]
end Go.Proofs.Ytdlmoijeflchgaa.Ln

namespace Go.Proofs.Ytdlmoijeflchgaa.Ln
open Go.RowKit
open Go.Proofs.Ytdlmoijeflchgaa

theorem Blk_setRow_same {W : World} {g : Nat} {old cs : Array Value} {t : TypeId} (h : Bk.Blk W g old t) : Bk.Blk (W.setRow g cs) g cs t := setRow_heap W g old cs t (0, 0) h
theorem Blk_setRow_ne {W : World} {g g' : Nat} {cs cs' : Array Value} {t : TypeId} (h : Bk.Blk W g cs t) (hne : g ≠ g') : Bk.Blk (W.setRow g' cs') g cs t := (setRow_other W g' g cs' hne).trans h
theorem Below_setRow {B g : Nat} {w0 w : World} (hb : Below B w0 w) (h : B ≤ g) (cs : Array Value) : Below B w0 (w.setRow g cs) :=
  ⟨hb.os, hb.tape, hb.output, by rw [size_setRow]; exact hb.size, fun k hk => (setRow_other w g k cs (by omega)).trans (hb.block k hk)⟩
/-- Three results, of which the first lies in a block known whole. -/
theorem results3_cell {P : Program} {fn : Func} {p u v : Tmp} {ty : TypeId} (h : fn.results = #[.cell p ty, .tmp u, .tmp v]) (tmps : Array Value) (w : World) (g : Nat) (t : TypeId) (cs : Array Value) (fr : Nat × Nat) (d : TypeDesc)
    (hp : tmps.getD p undef = .pointer (some ⟨g, 0, none⟩)) (hg : w.heap[g]? = some (.cells cs t fr))
    (hu : P.underlying ty = some d) (hd : (match d with | .struct _ | .array _ _ => true | _ => false) = true) (hi : (P.info? ty).map (·.size) = some cs.size) :
    (results fn tmps).run P w = .ok (.tuple #[.agg cs, tmps.getD u undef, tmps.getD v undef]) w := by
  have hp' : tmps[p]?.getD undef = .pointer (some ⟨g, 0, none⟩) := by simpa using hp
  simp [results, h, hp', asAddr, run_loadVar_row w g t ty cs fr d hg hu hd hi]
theorem one25 (a0 a1 a2 a3 a4 a5 a6 a7 a8 a9 a10 a11 a12 a13 a14 a15 a16 a17 a18 a19 a20 : Int) (s u : ByteArray) (x y : Option Addr) (n m p q : Nat) : (#[.int .i64 a0, .int .i64 a1, .int .i64 a2, .int .i64 a3, .int .i64 a4, .int .i64 a5, .int .i64 a6, .int .i64 a7, .int .i64 a8, .int .i64 a9, .int .i64 a10, .int .i64 a11, .int .i64 a12, .int .i64 a13, .int .i64 a14, .int .i64 a15, .int .i64 a16, .int .i64 a17, .int .i64 a18, .int .i64 a19, .int .i64 a20, .string s, .string u, .slice x n p, .slice y m q] : Array Value).all (·.oneCell') = true := by
  simp [Value.oneCell']
/-- The loan behind a part. -/
def Lo.app (l : Lo) (p : Pa) : Lo := if p.kd = 1 then { l with fee := l.fee - p.am } else if p.kd = 2 then { l with pen := l.pen - p.am } else if p.kd = 3 then { l with pi := l.pi + p.am } else { l with pp := l.pp + p.am }

end Go.Proofs.Ytdlmoijeflchgaa.Ln

namespace Go.Proofs.Ytdlmoijeflchgaa.Ln
open Go.RowKit
open Go.Proofs.Ytdlmoijeflchgaa

/-- A whole block loaded: it may be taken first. -/
theorem yields_load_row {P : Program} {ops : Array Oper} {S : World → Prop} {a : Act} {o : Oper} (hw : Region.wanted o (yielded ops a.tmps) = true) (ty : TypeId) (x : Operand) (ho : o.op = .load ty x)
    (g : Nat) (hx : a.eval x = .pointer (some ⟨g, 0, none⟩)) (t : TypeId) (cs : Array Value) (fr : Nat × Nat) (d : TypeDesc) (hg : ∀ w, S w → w.heap[g]? = some (.cells cs t fr))
    (hu : P.underlying ty = some d) (hd : (match d with | .struct _ | .array _ _ => true | _ => false) = true) (hi : (P.info? ty).map (·.size) = some cs.size) : YieldsIf P ops S o (.agg cs) a :=
  .inl ⟨hw, fun w hw => by
    unfold execOp
    simp only [ho, hx, Instr.loadAt, Instr.sureAddr, Sem.run_bind, Sem.run_pure, Result.andThen_ok, run_loadVar_row w g t ty cs fr d (hg w hw) hu hd hi]⟩
section
variable {P : Program} {md : Region.Mode} {l : List Oper} {Q : Exit → Act → World → Prop} {S : World → Prop} {fuel : Nat} {listed : Array Bool} {a : Act} {w : World}
/-- Operation i is taken first. -/
theorem take_at (i : Nat) (hi : i < l.length) {v : Value} (hs : Region.noSelect l.toArray = true) (hf : Region.free md l.toArray listed i = true) (hr : (Region.ready md l.toArray listed).contains i = true)
    (hQ : ∀ c a w, Q (.panic c) (a.put l[i].dst v) w → Q (.panic c) a w) (hS : S w) (hy : YieldsIf P l.toArray S l[i] v a)
    (h : wpAnyH P md l.toArray Q S fuel (listed.setIfInBounds i true) (a.put l[i].dst v) w) : wpAnyH P md l.toArray Q S (fuel + 1) listed a w :=
  wpAnyH_take (oi := l[i]) (by simp [hi]) hs hf hr hQ hy hS h
/-- Operation i alone may come up. -/
theorem one_at (i : Nat) (hi : i < l.length) (hr : Region.ready md l.toArray listed = [i]) (hw : Region.wanted l[i] (yielded l.toArray a.tmps) = true)
    (h : ∀ K' : Act → World → Prop, Shut (∀ a w, S w → (S w → wpAnyH P md l.toArray Q S fuel (listed.setIfInBounds i true) a w) → K' a w) → Oper.wp P l[i] a w K' Q) : wpAnyH P md l.toArray Q S (fuel + 1) listed a w :=
  wpAnyH_ready hr (by simp) (AllReadyH.cons (o := l[i]) (by simp [hi]) (fun K hK => by rw [if_pos hw]; exact h K hK) AllReadyH.nil)
end
end Go.Proofs.Ytdlmoijeflchgaa.Ln

namespace Go.Proofs.Ytdlmoijeflchgaa.Ln
open Go.RowKit
open Go.Proofs.Ytdlmoijeflchgaa

section
variable {P : Program} {md : Region.Mode} {l : List Oper} {Q : Exit → Act → World → Prop} {S : World → Prop} {fuel : Nat} {listed : Array Bool} {a : Act} {w : World}
/-- A call met. -/
theorem call_wp {o : Oper} {K : Act → World → Prop} {f : FuncId} {args : Array Value} (hrun : (execOp a.eval o).run P w = .ok (.enter f args) w)
    (hc : Calls P f args w fun e w' => ∃ v, e = .returned v ∧ K (a.put o.dst v) w') : Oper.wp P o a w K Q := by
  unfold Oper.wp
  rw [hrun, Oper.upon_enter]
  exact hc.mono (by rintro e w' ⟨v, rfl, hk⟩; exact hk)
/-- A call that alone may come up. -/
theorem call_at (i : Nat) (hi : i < l.length) {Pi : Value → World → Prop} {f : FuncId} {args : Array Value} (hr : Region.ready md l.toArray listed = [i]) (hw : Region.wanted l[i] (yielded l.toArray a.tmps) = true)
    (he : (execOp a.eval l[i]).run P w = .ok (.enter f args) w) (hc : Calls P f args w fun e w' => ∃ v, e = .returned v ∧ Pi v w' ∧ S w')
    (h : ∀ W u, S W → Pi u W → wpAnyH P md l.toArray Q S fuel (listed.setIfInBounds i true) (a.put l[i].dst u) W) : wpAnyH P md l.toArray Q S (fuel + 1) listed a w :=
  one_at i hi hr hw fun K hK => call_wp he (hc.mono (by rintro e w' ⟨v, rfl, hp, hs⟩; exact ⟨v, rfl, hK.out _ _ hs (fun _ => h w' v hs hp)⟩))
/-- Two calls that may come up in either order. -/
theorem pair_at (i j : Nat) (hi : i < l.length) (hj : j < l.length) (hij : i ≠ j) {Pi Pj : Value → World → Prop} {fi fj : FuncId} {ai aj : Array Value} (hS : S w)
    (hr : Region.ready md l.toArray listed = [i, j]) (hri : Region.ready md l.toArray (listed.setIfInBounds i true) = [j]) (hrj : Region.ready md l.toArray (listed.setIfInBounds j true) = [i])
    (wi : Region.wanted l[i] (yielded l.toArray a.tmps) = true) (wj : Region.wanted l[j] (yielded l.toArray a.tmps) = true)
    (wi' : ∀ v, Region.wanted l[i] (yielded l.toArray (a.put l[j].dst v).tmps) = true) (wj' : ∀ v, Region.wanted l[j] (yielded l.toArray (a.put l[i].dst v).tmps) = true)
    (ei : ∀ W, (execOp a.eval l[i]).run P W = .ok (.enter fi ai) W) (ej : ∀ W, (execOp a.eval l[j]).run P W = .ok (.enter fj aj) W)
    (ei' : ∀ v W, (execOp (a.put l[j].dst v).eval l[i]).run P W = .ok (.enter fi ai) W) (ej' : ∀ v W, (execOp (a.put l[i].dst v).eval l[j]).run P W = .ok (.enter fj aj) W)
    (ci : ∀ W, S W → Calls P fi ai W fun e w' => ∃ v, e = .returned v ∧ Pi v w' ∧ S w' ∧ ∀ u, Pj u W → Pj u w')
    (cj : ∀ W, S W → Calls P fj aj W fun e w' => ∃ v, e = .returned v ∧ Pj v w' ∧ S w' ∧ ∀ u, Pi u W → Pi u w')
    (hd : ∀ u v, (a.put l[i].dst u).put l[j].dst v = (a.put l[j].dst v).put l[i].dst u)
    (h : ∀ W u v, S W → Pi u W → Pj v W → wpAnyH P md l.toArray Q S fuel ((listed.setIfInBounds i true).setIfInBounds j true) ((a.put l[i].dst u).put l[j].dst v) W) : wpAnyH P md l.toArray Q S (fuel + 1 + 1) listed a w := by
  refine wpAnyH_ready hr (by simp) (AllReadyH.cons (o := l[i]) (by simp [hi]) (fun K hK => ?_) (AllReadyH.cons (o := l[j]) (by simp [hj]) (fun K hK => ?_) AllReadyH.nil))
  · rw [if_pos wi]
    refine call_wp (ei w) ((ci w hS).mono ?_)
    rintro e w1 ⟨u, rfl, hu, hs1, _⟩
    refine ⟨u, rfl, hK.out _ _ hs1 (fun _ => ?_)⟩
    refine one_at j hj hri (wj' u) fun K2 hK2 => call_wp (ej' u w1) ((cj w1 hs1).mono ?_)
    rintro e w2 ⟨v, rfl, hv, hs2, hkeep⟩
    exact ⟨v, rfl, hK2.out _ _ hs2 (fun _ => h w2 u v hs2 (hkeep u hu) hv)⟩
  · rw [if_pos wj]
    refine call_wp (ej w) ((cj w hS).mono ?_)
    rintro e w1 ⟨v, rfl, hv, hs1, _⟩
    refine ⟨v, rfl, hK.out _ _ hs1 (fun _ => ?_)⟩
    refine one_at i hi hrj (wi' v) fun K2 hK2 => call_wp (ei' v w1) ((ci w1 hs1).mono ?_)
    rintro e w2 ⟨u, rfl, hu, hs2, hkeep⟩
    refine ⟨u, rfl, hK2.out _ _ hs2 (fun _ => ?_)⟩
    rw [← hd u v, Array.setIfInBounds_comm _ _ (Ne.symm hij)]
    exact h w2 u v hs2 hu (hkeep v hv)
/-- A contract, as the laws for regions want it. -/
theorem call_of {S : World → Prop} {Pi Pj : Value → World → Prop} {f : FuncId} {args : Array Value} {W : World} (hm : ∀ W W', S W → Below W.heap.size W W' → S W') (hp : ∀ u W W', Below W.heap.size W W' → Pj u W → Pj u W') (hS : S W)
    (h : Calls P f args W fun e w' => ∃ v, e = .returned v ∧ Pi v w' ∧ Below W.heap.size W w') : Calls P f args W fun e w' => ∃ v, e = .returned v ∧ Pi v w' ∧ S w' ∧ ∀ u, Pj u W → Pj u w' :=
  h.mono fun _ _ ⟨v, he, hv, hb⟩ => ⟨v, he, hv, hm _ _ hS hb, fun u => hp u _ _ hb⟩
theorem call_cst {S : World → Prop} {c : Value} {Pj : Value → World → Prop} {f : FuncId} {args : Array Value} {W : World} (hm : ∀ W W', S W → Below W.heap.size W W' → S W') (hp : ∀ u W W', Below W.heap.size W W' → Pj u W → Pj u W') (hS : S W)
    (h : Calls P f args W fun e w' => e = .returned c ∧ Below W.heap.size W w') : Calls P f args W fun e w' => ∃ v, e = .returned v ∧ v = c ∧ S w' ∧ ∀ u, Pj u W → Pj u w' :=
  h.mono fun _ _ ⟨he, hb⟩ => ⟨c, he, rfl, hm _ _ hS hb, fun u => hp u _ _ hb⟩
theorem call_pv {S : World → Prop} {Pi : Value → World → Prop} {f : FuncId} {args : Array Value} {W : World} (hm : ∀ W W', S W → Below W.heap.size W W' → S W') (hS : S W)
    (h : Calls P f args W fun e w' => ∃ v, e = .returned v ∧ Pi v w' ∧ Below W.heap.size W w') : Calls P f args W fun e w' => ∃ v, e = .returned v ∧ Pi v w' ∧ S w' :=
  h.mono fun _ _ ⟨v, he, hv, hb⟩ => ⟨v, he, hv, hm _ _ hS hb⟩
theorem call_pk {S : World → Prop} {Pi Pj : Value → World → Prop} {u : Value} {f : FuncId} {args : Array Value} {W : World} (hm : ∀ W W', S W → Below W.heap.size W W' → S W') (hp : ∀ u W W', Below W.heap.size W W' → Pj u W → Pj u W') (hS : S W) (hu : Pj u W)
    (h : Calls P f args W fun e w' => ∃ v, e = .returned v ∧ Pi v w' ∧ Below W.heap.size W w') : Calls P f args W fun e w' => ∃ v, e = .returned v ∧ (Pi v w' ∧ Pj u w') ∧ S w' :=
  h.mono fun _ _ ⟨v, he, hv, hb⟩ => ⟨v, he, ⟨hv, hp _ _ _ hb hu⟩, hm _ _ hS hb⟩
theorem call_keep {S : World → Prop} {c : Value} {f : FuncId} {args : Array Value} {W : World} (hS : S W) (h : Calls P f args W fun e w' => e = .returned c ∧ W = w') : Calls P f args W fun e w' => ∃ v, e = .returned v ∧ v = c ∧ S w' :=
  h.mono fun _ _ ⟨he, hb⟩ => ⟨c, he, rfl, hb ▸ hS⟩
theorem call_one {S : World → Prop} {c : Value} {f : FuncId} {args : Array Value} {W : World} (hm : ∀ W W', S W → Below W.heap.size W W' → S W') (hS : S W)
    (h : Calls P f args W fun e w' => e = .returned c ∧ Below W.heap.size W w') : Calls P f args W fun e w' => ∃ v, e = .returned v ∧ v = c ∧ S w' :=
  h.mono fun _ _ ⟨he, hb⟩ => ⟨c, he, rfl, hm _ _ hS hb⟩
end
/-- A block is known, and old memory is as it was. -/
def SQ (w0 : World) (g : Nat) (cs : Array Value) (t : TypeId) (W : World) : Prop := Bk.Blk W g cs t ∧ Below w0.heap.size w0 W
theorem SQ.mono {w0 : World} {g : Nat} {cs : Array Value} {t : TypeId} : ∀ W W', SQ w0 g cs t W → Below W.heap.size W W' → SQ w0 g cs t W' := fun _ _ h hb => ⟨h.1.later hb, bl2 hb h.2⟩
/-- Two blocks are known, and old memory is as it was. -/
def SQ2 (w0 : World) (g : Nat) (cs : Array Value) (g' : Nat) (cs' : Array Value) (t : TypeId) (W : World) : Prop := (Bk.Blk W g cs t ∧ Bk.Blk W g' cs' t) ∧ Below w0.heap.size w0 W
theorem SQ2.mono {w0 : World} {g g' : Nat} {cs cs' : Array Value} {t : TypeId} : ∀ W W', SQ2 w0 g cs g' cs' t W → Below W.heap.size W W' → SQ2 w0 g cs g' cs' t W' := fun _ _ h hb => ⟨⟨h.1.1.later hb, h.1.2.later hb⟩, bl2 hb h.2⟩
/-- Parts that a call has returned. -/
def PartsV (ps : List Pa) (v : Value) (W : World) : Prop := ∃ a c, v = .slice a ps.length c ∧ RowIn penc W a ps
theorem PartsV.mono {ps : List Pa} : ∀ u W W', Below W.heap.size W W' → PartsV ps u W → PartsV ps u W' := fun _ _ _ hb ⟨a, c, he, hr⟩ => ⟨a, c, he, hr.later hb⟩
end Go.Proofs.Ytdlmoijeflchgaa.Ln

namespace Go.Proofs.Ytdlmoijeflchgaa.Ln
open Go.RowKit
open Go.Proofs.Ytdlmoijeflchgaa

section
variable {P : Program} {md : Region.Mode} {l : List Oper} {Q : Exit → Act → World → Prop} {S : World → Prop} {fuel : Nat} {listed : Array Bool} {a : Act} {w : World}
/-- Operations i and j may come up. -/
theorem two_at (i j : Nat) (hi : i < l.length) (hj : j < l.length) (hr : Region.ready md l.toArray listed = [i, j]) (wi : Region.wanted l[i] (yielded l.toArray a.tmps) = true) (wj : Region.wanted l[j] (yielded l.toArray a.tmps) = true)
    (h1 : ∀ K' : Act → World → Prop, Shut (∀ a w, S w → (S w → wpAnyH P md l.toArray Q S fuel (listed.setIfInBounds i true) a w) → K' a w) → Oper.wp P l[i] a w K' Q)
    (h2 : ∀ K' : Act → World → Prop, Shut (∀ a w, S w → (S w → wpAnyH P md l.toArray Q S fuel (listed.setIfInBounds j true) a w) → K' a w) → Oper.wp P l[j] a w K' Q) : wpAnyH P md l.toArray Q S (fuel + 1) listed a w :=
  wpAnyH_ready hr (by simp) (AllReadyH.cons (o := l[i]) (by simp [hi]) (fun K hK => by rw [if_pos wi]; exact h1 K hK) (AllReadyH.cons (o := l[j]) (by simp [hj]) (fun K hK => by rw [if_pos wj]; exact h2 K hK) AllReadyH.nil))
/-- An operation that leaves a value and another world: a block made. -/
theorem value_wp {o : Oper} {K : Act → World → Prop} {v : Value} {w' : World} (hrun : (execOp a.eval o).run P w = .ok (.value v) w') (h : K (a.put o.dst v) w') : Oper.wp P o a w K Q := by
  unfold Oper.wp
  rw [hrun]
  simp only [Oper.upon]
  exact h
end
theorem RowIn.blk {α : Type} {enc : α → List Value} {W W' : World} {a : Option Addr} {xs : List α} (h : RowIn enc W a xs) (hb : ∀ ad, a = some ad → W'.heap[ad.block]? = W.heap[ad.block]?) : RowIn enc W' a xs := fun h0 => by
  obtain ⟨b, off, ha, hc⟩ := h h0
  refine ⟨b, off, ha, fun j u hj => ?_⟩
  have := hb _ ha
  exact (World.cell?_of_block (a := ⟨b, off + j, none⟩) this).trans (hc j u hj)
/-- Old memory is as it was. -/
def SB (w0 : World) (W : World) : Prop := Below w0.heap.size w0 W
theorem SB.mono {w0 : World} : ∀ W W', SB w0 W → Below W.heap.size W W' → SB w0 W' := fun _ _ h hb => bl2 hb h
end Go.Proofs.Ytdlmoijeflchgaa.Ln

namespace Go.Proofs.Ytdlmoijeflchgaa.Ln
open Go.RowKit
open Go.Proofs.Ytdlmoijeflchgaa

/-- Nothing, in a result that was just made. -/
def Zc : Array Value := #[.int .i64 0, .int .i64 0, .int .i64 0, .int .i64 0, .int .i64 0, .int .i64 0, .int .i64 0, .int .i64 0, .int .i64 0, .int .i64 0, .int .i64 0, .int .i64 0, .int .i64 0, .int .i64 0, .int .i64 0, .int .i64 0, .int .i64 0, .int .i64 0, .int .i64 0, .int .i64 0, .int .i64 0, .string { data := #[] }, .string { data := #[] }, .slice none 0 0, .slice none 0 0]
section
variable {w W : World} {zc : Array Value} {L : Lo} {da ca : Option Addr} {dk ck : Nat}
end
theorem row_put {α : Type} {enc : α → List Value} {W : World} {a : Option Addr} {xs : List α} {ad0 : Addr} {u : Value} (h : RowIn enc W a xs) (hne : ∀ ad, a = some ad → ad.block ≠ ad0.block) : RowIn enc (W.setCell ad0 u) a xs := fun h0 => by
  obtain ⟨b, off, ha, hc⟩ := h h0
  have e : (W.setCell ad0 u).heap[b]? = W.heap[b]? := Below.heap_setCell _ _ _ _ (hne _ ha)
  exact ⟨b, off, ha, fun j v hj => (World.cell?_of_block (a := ⟨b, off + j, none⟩) e).trans (hc j v hj)⟩
theorem row_row {α : Type} {enc : α → List Value} {W : World} {a : Option Addr} {xs : List α} {g : Nat} {cs : Array Value} (h : RowIn enc W a xs) (hne : ∀ ad, a = some ad → ad.block ≠ g) : RowIn enc (W.setRow g cs) a xs := fun h0 => by
  obtain ⟨b, off, ha, hc⟩ := h h0
  have e : (W.setRow g cs).heap[b]? = W.heap[b]? := setRow_other _ _ _ _ (hne _ ha)
  exact ⟨b, off, ha, fun j v hj => (World.cell?_of_block (a := ⟨b, off + j, none⟩) e).trans (hc j v hj)⟩
end Go.Proofs.Ytdlmoijeflchgaa.Ln
