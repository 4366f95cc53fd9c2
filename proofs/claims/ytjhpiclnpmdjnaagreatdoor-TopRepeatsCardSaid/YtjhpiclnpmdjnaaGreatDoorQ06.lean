/-
  Parts of the proof: Lc, Zl, B1, Ls1, Tkb.
-/
import Derived.Test.YtjhpiclnpmdjnaaGreatDoorQ05
import Derived.Lib.LazyBuf
import Derived.Laws.IdiomCopy
import Derived.Maps.AppendAt
import Derived.Deep.Cut
import Derived.Deep.RegionHeld3
import Derived.Laws.Rows
import Derived.Laws.Tables
import Derived.Deep.MidRow
import Derived.Test.YtjhpiclnpmdjnaaGreatDoorQ03
namespace Go.Proofs.YtjhpiclnpmdjnaaGreatDoor.Ln
open Go.RowKit
open Go.Proofs.YtjhpiclnpmdjnaaGreatDoor

def tenc (t : Tm) : List Value := [.int .i64 (t).me, .int .i64 (t).pr, .int .i64 (t).ppm, .int .i64 (t).stt, .int .i64 (t).ev, .int .i64 (t).ct, .int .i64 (t).ba, .int .i64 (t).mo, .int .i64 (t).pen, .int .i64 (t).fe, .string (t).cal, .string (t).cur]
def cenc (c : Ch) : List Value := .int .i64 c.day :: .int .i64 c.amt :: tenc c.old
end Go.Proofs.YtjhpiclnpmdjnaaGreatDoor.Ln

namespace Go.Proofs.YtjhpiclnpmdjnaaGreatDoor.Ln
open Go.RowKit
open Go.Proofs.YtjhpiclnpmdjnaaGreatDoor

structure DelInv {α : Type} [Inhabited α] (p : α → Bool) (xs ys : List α) (i j : Nat) : Prop where
 len : ys.length = xs.length
 lt : i < j
 le : j ≤ xs.length
 done : ys.take i = (xs.take j).filter fun x => !p x
 rest : ∀ m, j ≤ m → m < xs.length → ys[m]! = xs[m]!
section
variable {α : Type} [Inhabited α] {p : α → Bool} {xs ys : List α} {i j : Nat}
theorem take_succ' {l : List α} {k : Nat} (h : k < l.length) : l.take (k + 1) = l.take k ++ [l[k]!] := by
 rw [List.take_add_one, List.getElem?_eq_getElem h, getElem!_pos l k h]; rfl
theorem DelInv.skip (h : DelInv p xs ys i j) (hj : j < xs.length) (hp : p xs[j]! = true) : DelInv p xs ys i (j + 1) := by
 refine ⟨h.len, by have := h.lt; omega, hj, ?_, fun m hm hm' => h.rest m (by omega) hm'⟩
 rw [take_succ' hj, List.filter_append, ← h.done]
 generalize xs[j]! = y at *
 simp [hp]
theorem DelInv.fin (h : DelInv p xs ys i xs.length) : ys.take i = (xs.filter fun x => !p x) ∧ (xs.filter fun x => !p x).length = i := by
 have hd := h.done
 rw [List.take_length] at hd
 refine ⟨hd, ?_⟩
 rw [← hd, List.length_take, h.len]
 have := h.lt; omega
end
def dDR (bt : TypeId) (w : World) (B g : Nat) (X : List Value) (p : Du → Bool) (xs : List Du) (gg : Nat) (s5 s6 : Value) (W : World) : Prop := ∃ (i j : Nat) (ys : List Du), j + gg = xs.length ∧ s5 = .int .i64 i ∧ s6 = .int .i64 j ∧ DelInv p xs ys i j ∧ Bk.Blk W g ((flat denc ys ++ X).toArray) bt ∧ Below B w W
def dPred (g0 : Nat) (lb : Array Value) (p : Du → Bool) (B : Nat) (w : World) : Prop := ∀ (d : Du) (W : World), Below B w W → Calls Tryz.prog g0 (#[.agg #[.int .i64 d.no, .int .i64 d.day, .int .i64 d.pr, .int .i64 d.it]] ++ lb) W fun e w' => e = .returned (.bool (p d)) ∧ Below W.heap.size W w'

end Go.Proofs.YtjhpiclnpmdjnaaGreatDoor.Ln

namespace Go.Proofs.YtjhpiclnpmdjnaaGreatDoor.Ln
open Go.RowKit
open Go.Proofs.YtjhpiclnpmdjnaaGreatDoor

structure Pa where
 (kd am : Int)
instance : Inhabited Pa := ⟨⟨0, 0⟩⟩
def penc (p : Pa) : List Value := [.int .i64 p.kd, .int .i64 p.am]
theorem penc_len (p : Pa) : (penc p).length = 2 := rfl
def pparts (l : List Pa) : List Pa := l.filter fun p => decide (0 < p.am)
def powed (l : Lo) (day : Int) : List Pa := pparts [⟨1, l.fee⟩, ⟨2, l.pen⟩, ⟨3, oI l day⟩, ⟨4, oP l day⟩]
def Dist.pps (x : Dist) : List Pa := pparts [⟨1, x.a⟩, ⟨2, x.b⟩, ⟨3, x.c⟩, ⟨4, x.d⟩, ⟨5, x.r⟩]
theorem RowIn.parts {W : World} {a : Option Addr} {xs : List Pa} (h : RowIn penc W a xs) (h0 : 0 < xs.length) : ∃ b off, a = some ⟨b, off, none⟩ ∧ ∀ j, j < xs.length → W.cell? ⟨b, off + j * 2, none⟩ = some (.int .i64 xs[j]!.kd) ∧ W.cell? ⟨b, off + j * 2 + 1, none⟩ = some (.int .i64 xs[j]!.am) := by
 obtain ⟨b, off, ha, hc⟩ := h h0
 refine ⟨b, off, ha, fun j hj => ?_⟩
 have c : ∀ i, i < 2 → W.cell? ⟨b, off + (j * 2 + i), none⟩ = (penc xs[j]!)[i]? := fun i hi => by
  have hg := flat_get penc_len xs j i hj hi
  have : i < (penc xs[j]!).length := hi
  rw [List.getElem?_eq_getElem this] at hg ⊢
  exact hc _ _ hg
 have c0 := c 0 (by omega)
 have c1 := c 1 (by omega)
 simp only [penc, ← Nat.add_assoc] at c0 c1
 exact ⟨by simpa using c0, by simpa using c1⟩

def pDR (bt : TypeId) (w : World) (B g : Nat) (X : List Value) (p : Pa → Bool) (xs : List Pa) (gg : Nat) (s5 s6 : Value) (W : World) : Prop := ∃ (i j : Nat) (ys : List Pa), j + gg = xs.length ∧ s5 = .int .i64 i ∧ s6 = .int .i64 j ∧ DelInv p xs ys i j ∧ Bk.Blk W g ((flat penc ys ++ X).toArray) bt ∧ Below B w W
def pPred (g0 : Nat) (lb : Array Value) (p : Pa → Bool) (B : Nat) (w : World) : Prop := ∀ (d : Pa) (W : World), Below B w W → Calls Tryz.prog g0 (#[.agg #[.int .i64 d.kd, .int .i64 d.am]] ++ lb) W fun e w' => e = .returned (.bool (p d)) ∧ Below W.heap.size W w'

def pXR (w : World) (p : Pa → Bool) (xs : List Pa) (g : Nat) (s8 : Value) (W : World) : Prop := ∃ k : Nat, k + g = xs.length ∧ s8 = .int .i64 k ∧ (∀ j, j < k → p xs[j]! = false) ∧ Below w.heap.size w W
end Go.Proofs.YtjhpiclnpmdjnaaGreatDoor.Ln

namespace Go.Proofs.YtjhpiclnpmdjnaaGreatDoor.Ln
open Go.RowKit
open Go.Proofs.YtjhpiclnpmdjnaaGreatDoor

end Go.Proofs.YtjhpiclnpmdjnaaGreatDoor.Ln

namespace Go.Proofs.YtjhpiclnpmdjnaaGreatDoor.Ln
open Go.RowKit
open Go.Proofs.YtjhpiclnpmdjnaaGreatDoor

def samepartsR (w : World) (n : Nat) (g : Nat) (s5 : Value) (W : World) : Prop := ∃ k : Nat, k + g = n ∧ s5 = .int .i64 k ∧ Below w.heap.size w W
def sameduesR (w : World) (n : Nat) (g : Nat) (s5 : Value) (W : World) : Prop := ∃ k : Nat, k + g = n ∧ s5 = .int .i64 k ∧ Below w.heap.size w W
end Go.Proofs.YtjhpiclnpmdjnaaGreatDoor.Ln

namespace Go.Proofs.YtjhpiclnpmdjnaaGreatDoor.Ln
open Go.RowKit
open Go.Proofs.YtjhpiclnpmdjnaaGreatDoor

end Go.Proofs.YtjhpiclnpmdjnaaGreatDoor.Ln

namespace Go.Proofs.YtjhpiclnpmdjnaaGreatDoor.Ln
open Go.RowKit
open Go.Proofs.YtjhpiclnpmdjnaaGreatDoor

theorem Blk_setRow_same {W : World} {g : Nat} {old cs : Array Value} {t : TypeId} (h : Bk.Blk W g old t) : Bk.Blk (W.setRow g cs) g cs t := setRow_heap W g old cs t (0, 0) h
theorem Blk_setRow_ne {W : World} {g g' : Nat} {cs cs' : Array Value} {t : TypeId} (h : Bk.Blk W g cs t) (hne : g ≠ g') : Bk.Blk (W.setRow g' cs') g cs t := (setRow_other W g' g cs' hne).trans h
theorem Below_setRow {B g : Nat} {w0 w : World} (hb : Below B w0 w) (h : B ≤ g) (cs : Array Value) : Below B w0 (w.setRow g cs) :=
 ⟨hb.os, hb.tape, hb.output, by rw [size_setRow]; exact hb.size, fun k hk => (setRow_other w g k cs (by omega)).trans (hb.block k hk)⟩
def Lo.app (l : Lo) (p : Pa) : Lo := if p.kd = 1 then { l with fee := l.fee - p.am } else if p.kd = 2 then { l with pen := l.pen - p.am } else if p.kd = 3 then { l with pi := l.pi + p.am } else { l with pp := l.pp + p.am }

end Go.Proofs.YtjhpiclnpmdjnaaGreatDoor.Ln

namespace Go.Proofs.YtjhpiclnpmdjnaaGreatDoor.Ln
open Go.RowKit
open Go.Proofs.YtjhpiclnpmdjnaaGreatDoor

theorem yields_load_row {P : Program} {ops : Array Oper} {S : World → Prop} {a : Act} {o : Oper} (hw : Region.wanted o (yielded ops a.tmps) = true) (ty : TypeId) (x : Operand) (ho : o.op = .load ty x)
  (g : Nat) (hx : a.eval x = .pointer (some ⟨g, 0, none⟩)) (t : TypeId) (cs : Array Value) (fr : Nat × Nat) (d : TypeDesc) (hg : ∀ w, S w → w.heap[g]? = some (.cells cs t fr))
  (hu : P.underlying ty = some d) (hd : (match d with | .struct _ | .array _ _ => true | _ => false) = true) (hi : (P.info? ty).map (·.size) = some cs.size) : YieldsIf P ops S o (.agg cs) a :=
 .inl ⟨hw, fun w hw => by
  unfold execOp
  simp only [ho, hx, Instr.loadAt, Instr.sureAddr, Sem.run_bind, Sem.run_pure, Result.andThen_ok, run_loadVar_row w g t ty cs fr d (hg w hw) hu hd hi]⟩
section
variable {P : Program} {md : Region.Mode} {l : List Oper} {Q : Exit → Act → World → Prop} {S : World → Prop} {fuel : Nat} {listed : Array Bool} {a : Act} {w : World}
theorem take_at (i : Nat) (hi : i < l.length) {v : Value} (hs : Region.noSelect l.toArray = true) (hf : Region.free md l.toArray listed i = true) (hr : (Region.ready md l.toArray listed).contains i = true)
  (hQ : ∀ c a w, Q (.panic c) (a.put l[i].dst v) w → Q (.panic c) a w) (hS : S w) (hy : YieldsIf P l.toArray S l[i] v a)
  (h : wpAnyH P md l.toArray Q S fuel (listed.setIfInBounds i true) (a.put l[i].dst v) w) : wpAnyH P md l.toArray Q S (fuel + 1) listed a w :=
 wpAnyH_take (oi := l[i]) (by simp [hi]) hs hf hr hQ hy hS h
theorem one_at (i : Nat) (hi : i < l.length) (hr : Region.ready md l.toArray listed = [i]) (hw : Region.wanted l[i] (yielded l.toArray a.tmps) = true)
  (h : ∀ K' : Act → World → Prop, Shut (∀ a w, S w → (S w → wpAnyH P md l.toArray Q S fuel (listed.setIfInBounds i true) a w) → K' a w) → Oper.wp P l[i] a w K' Q) : wpAnyH P md l.toArray Q S (fuel + 1) listed a w :=
 wpAnyH_ready hr (by simp) (AllReadyH.cons (o := l[i]) (by simp [hi]) (fun K hK => by rw [if_pos hw]; exact h K hK) AllReadyH.nil)
end
end Go.Proofs.YtjhpiclnpmdjnaaGreatDoor.Ln

namespace Go.Proofs.YtjhpiclnpmdjnaaGreatDoor.Ln
open Go.RowKit
open Go.Proofs.YtjhpiclnpmdjnaaGreatDoor

section
variable {P : Program} {md : Region.Mode} {l : List Oper} {Q : Exit → Act → World → Prop} {S : World → Prop} {fuel : Nat} {listed : Array Bool} {a : Act} {w : World}
theorem call_wp {o : Oper} {K : Act → World → Prop} {f : FuncId} {args : Array Value} (hrun : (execOp a.eval o).run P w = .ok (.enter f args) w)
  (hc : Calls P f args w fun e w' => ∃ v, e = .returned v ∧ K (a.put o.dst v) w') : Oper.wp P o a w K Q := by
 unfold Oper.wp
 rw [hrun, Oper.upon_enter]
 exact hc.mono (by rintro e w' ⟨v, rfl, hk⟩; exact hk)
theorem call_at (i : Nat) (hi : i < l.length) {Pi : Value → World → Prop} {f : FuncId} {args : Array Value} (hr : Region.ready md l.toArray listed = [i]) (hw : Region.wanted l[i] (yielded l.toArray a.tmps) = true)
  (he : (execOp a.eval l[i]).run P w = .ok (.enter f args) w) (hc : Calls P f args w fun e w' => ∃ v, e = .returned v ∧ Pi v w' ∧ S w')
  (h : ∀ W u, S W → Pi u W → wpAnyH P md l.toArray Q S fuel (listed.setIfInBounds i true) (a.put l[i].dst u) W) : wpAnyH P md l.toArray Q S (fuel + 1) listed a w :=
 one_at i hi hr hw fun K hK => call_wp he (hc.mono (by rintro e w' ⟨v, rfl, hp, hs⟩; exact ⟨v, rfl, hK.out _ _ hs (fun _ => h w' v hs hp)⟩))
end
def SQ (w0 : World) (g : Nat) (cs : Array Value) (t : TypeId) (W : World) : Prop := Bk.Blk W g cs t ∧ Below w0.heap.size w0 W
theorem SQ.mono {w0 : World} {g : Nat} {cs : Array Value} {t : TypeId} : ∀ W W', SQ w0 g cs t W → Below W.heap.size W W' → SQ w0 g cs t W' := fun _ _ h hb => ⟨h.1.later hb, bl2 hb h.2⟩
def SQ2 (w0 : World) (g : Nat) (cs : Array Value) (g' : Nat) (cs' : Array Value) (t : TypeId) (W : World) : Prop := (Bk.Blk W g cs t ∧ Bk.Blk W g' cs' t) ∧ Below w0.heap.size w0 W
theorem SQ2.mono {w0 : World} {g g' : Nat} {cs cs' : Array Value} {t : TypeId} : ∀ W W', SQ2 w0 g cs g' cs' t W → Below W.heap.size W W' → SQ2 w0 g cs g' cs' t W' := fun _ _ h hb => ⟨⟨h.1.1.later hb, h.1.2.later hb⟩, bl2 hb h.2⟩
def PartsV (ps : List Pa) (v : Value) (W : World) : Prop := ∃ a c, v = .slice a ps.length c ∧ RowIn penc W a ps
theorem PartsV.mono {ps : List Pa} : ∀ u W W', Below W.heap.size W W' → PartsV ps u W → PartsV ps u W' := fun _ _ _ hb ⟨a, c, he, hr⟩ => ⟨a, c, he, hr.later hb⟩
end Go.Proofs.YtjhpiclnpmdjnaaGreatDoor.Ln

namespace Go.Proofs.YtjhpiclnpmdjnaaGreatDoor.Ln
open Go.RowKit
open Go.Proofs.YtjhpiclnpmdjnaaGreatDoor

section
variable {P : Program} {md : Region.Mode} {l : List Oper} {Q : Exit → Act → World → Prop} {S : World → Prop} {fuel : Nat} {listed : Array Bool} {a : Act} {w : World}
theorem two_at (i j : Nat) (hi : i < l.length) (hj : j < l.length) (hr : Region.ready md l.toArray listed = [i, j]) (wi : Region.wanted l[i] (yielded l.toArray a.tmps) = true) (wj : Region.wanted l[j] (yielded l.toArray a.tmps) = true)
  (h1 : ∀ K' : Act → World → Prop, Shut (∀ a w, S w → (S w → wpAnyH P md l.toArray Q S fuel (listed.setIfInBounds i true) a w) → K' a w) → Oper.wp P l[i] a w K' Q)
  (h2 : ∀ K' : Act → World → Prop, Shut (∀ a w, S w → (S w → wpAnyH P md l.toArray Q S fuel (listed.setIfInBounds j true) a w) → K' a w) → Oper.wp P l[j] a w K' Q) : wpAnyH P md l.toArray Q S (fuel + 1) listed a w :=
 wpAnyH_ready hr (by simp) (AllReadyH.cons (o := l[i]) (by simp [hi]) (fun K hK => by rw [if_pos wi]; exact h1 K hK) (AllReadyH.cons (o := l[j]) (by simp [hj]) (fun K hK => by rw [if_pos wj]; exact h2 K hK) AllReadyH.nil))
theorem value_wp {o : Oper} {K : Act → World → Prop} {v : Value} {w' : World} (hrun : (execOp a.eval o).run P w = .ok (.value v) w') (h : K (a.put o.dst v) w') : Oper.wp P o a w K Q := by
 unfold Oper.wp
 rw [hrun]
 simp only [Oper.upon]
 exact h
end
theorem RowIn.blk {α : Type} {enc : α → List Value} {W W' : World} {a : Option Addr} {xs : List α} (h : RowIn enc W a xs) (hb : ∀ ad, a = some ad → W'.heap[ad.block]? = W.heap[ad.block]?) : RowIn enc W' a xs := fun h0 => by
 obtain ⟨b, off, ha, hc⟩ := h h0
 refine ⟨b, off, ha, fun j u hj => ?_⟩
 have := hb _ ha
 exact (World.cell?_of_block (a := ⟨b, off + j, none⟩) this).trans (hc j u hj)
def SB (w0 : World) (W : World) : Prop := Below w0.heap.size w0 W
theorem SB.mono {w0 : World} : ∀ W W', SB w0 W → Below W.heap.size W W' → SB w0 W' := fun _ _ h hb => bl2 hb h
end Go.Proofs.YtjhpiclnpmdjnaaGreatDoor.Ln

namespace Go.Proofs.YtjhpiclnpmdjnaaGreatDoor.Ln
open Go.RowKit
open Go.Proofs.YtjhpiclnpmdjnaaGreatDoor

def Zc : Array Value := #[.int .i64 0, .int .i64 0, .int .i64 0, .int .i64 0, .int .i64 0, .int .i64 0, .int .i64 0, .int .i64 0, .int .i64 0, .int .i64 0, .int .i64 0, .int .i64 0, .int .i64 0, .int .i64 0, .int .i64 0, .int .i64 0, .int .i64 0, .int .i64 0, .int .i64 0, .int .i64 0, .int .i64 0, .string { data := #[] }, .string { data := #[] }, .slice none 0 0, .slice none 0 0]
section
variable {w W : World} {zc : Array Value} {L : Lo} {da ca : Option Addr} {dk ck : Nat}
end
theorem row_put {α : Type} {enc : α → List Value} {W : World} {a : Option Addr} {xs : List α} {ad0 : Addr} {u : Value} (h : RowIn enc W a xs) (hne : ∀ ad, a = some ad → ad.block ≠ ad0.block) : RowIn enc (W.setCell ad0 u) a xs := fun h0 => by
 obtain ⟨b, off, ha, hc⟩ := h h0
 have e : (W.setCell ad0 u).heap[b]? = W.heap[b]? := Below.heap_setCell _ _ _ _ (hne _ ha)
 exact ⟨b, off, ha, fun j v hj => (World.cell?_of_block (a := ⟨b, off + j, none⟩) e).trans (hc j v hj)⟩
theorem row_row {α : Type} {enc : α → List Value} {W : World} {a : Option Addr} {xs : List α} {g : Nat} {cs : Array Value} (h : RowIn enc W a xs) (hne : ∀ ad, a = some ad → ad.block ≠ g) : RowIn enc (W.setRow g cs) a xs := fun h0 => by
 obtain ⟨b, off, ha, hc⟩ := h h0
 have e : (W.setRow g cs).heap[b]? = W.heap[b]? := setRow_other _ _ _ _ (hne _ ha)
 exact ⟨b, off, ha, fun j v hj => (World.cell?_of_block (a := ⟨b, off + j, none⟩) e).trans (hc j v hj)⟩
end Go.Proofs.YtjhpiclnpmdjnaaGreatDoor.Ln
namespace Go.Proofs.YtjhpiclnpmdjnaaGreatDoor.Ln
open Go Go.RowKit
open Go.Proofs.YtjhpiclnpmdjnaaGreatDoor
set_option maxRecDepth 100000

def zTm : Tm := ⟨0, 0, 0, 0, 0, 0, 0, 0, 0, 0, .empty, .empty⟩
def zLo : Lo := ⟨0, 0, 0, 0, 0, 0, 0, 0, 0, 0, 0, zTm, [], []⟩
theorem RowIn.none {α : Type} {enc : α → List Value} {W : World} {a : Option Addr} : RowIn enc W a [] := fun h => absurd h (Nat.not_lt_zero _)
structure LoIn (W : World) (l : Lo) (da ca : Option Addr) : Prop where
 d : RowIn denc W da l.ds
 c : RowIn cenc W ca l.cs
theorem LoIn.later {W W' : World} {l : Lo} {da ca : Option Addr} (h : LoIn W l da ca) (hb : Below W.heap.size W W') : LoIn W' l da ca := ⟨h.d.later hb, h.c.later hb⟩
theorem results2_cell {P : Program} {fn : Func} {p u : Tmp} {ty : TypeId} (h : fn.results = #[.cell p ty, .tmp u]) (tmps : Array Value) (w : World) (g : Nat) (t : TypeId) (cs : Array Value) (fr : Nat × Nat) (d : TypeDesc)
  (hp : tmps.getD p undef = .pointer (some ⟨g, 0, none⟩)) (hg : w.heap[g]? = some (.cells cs t fr))
  (hu : P.underlying ty = some d) (hd : (match d with | .struct _ | .array _ _ => true | _ => false) = true) (hi : (P.info? ty).map (·.size) = some cs.size) :
  (results fn tmps).run P w = .ok (.tuple #[.agg cs, tmps.getD u undef]) w := by
 have hp' : tmps[p]?.getD undef = .pointer (some ⟨g, 0, none⟩) := by simpa using hp
 simp [results, h, hp', asAddr, run_loadVar_row w g t ty cs fr d hg hu hd hi]
end Go.Proofs.YtjhpiclnpmdjnaaGreatDoor.Ln
namespace Go.Proofs.YtjhpiclnpmdjnaaGreatDoor.Bm
open Go Go.RowKit
open Go.Proofs.YtjhpiclnpmdjnaaGreatDoor
open Go.Proofs.YtjhpiclnpmdjnaaGreatDoor.Ln (flat flat_len flat_get flat_mem RowIn OwnR Idx bl2 results2_cell Blk_setRow_same Blk_setRow_ne Below_setRow)
set_option linter.unusedSimpArgs false
set_option linter.unusedVariables false
set_option maxRecDepth 100000

theorem find_none {α : Type} [Inhabited α] {p : α → Bool} : ∀ {l : List α}, (∀ j, j < l.length → p l[j]! = false) → l.find? p = none := by
 intro l h
 rw [List.find?_eq_none]
 intro x hx
 obtain ⟨j, hj, rfl⟩ := List.getElem_of_mem hx
 have := h j hj
 rw [getElem!_pos l j hj] at this
 simp [this]
theorem find_at {α : Type} [Inhabited α] {p : α → Bool} : ∀ {l : List α} {k : Nat}, k < l.length → p l[k]! = true → (∀ j, j < k → p l[j]! = false) → l.find? p = some l[k]!
 | [], k, h, _, _ => absurd h (Nat.not_lt_zero _)
 | x :: xs, 0, _, h1, _ => by
  rw [List.find?_cons_of_pos (by simpa using h1)]
  rfl
 | x :: xs, k + 1, h, h1, h2 => by
  have h0 := h2 0 (by omega)
  rw [List.find?_cons_of_neg (by simpa using h0), find_at (l := xs) (k := k) (by simpa using h) (by simpa using h1) (fun j hj => by simpa using h2 (j + 1) (by omega))]
  simp
def fst' {α : Type} [Inhabited α] (p : α → Bool) (l : List α) : α := (l.find? p).getD default
def fok {α : Type} (p : α → Bool) (l : List α) : Bool := (l.find? p).isSome
theorem fst_none {α : Type} [Inhabited α] {p : α → Bool} {l : List α} (h : ∀ j, j < l.length → p l[j]! = false) : fst' p l = default ∧ fok p l = false := by
 unfold fst' fok; rw [find_none h]; exact ⟨rfl, rfl⟩
theorem fst_at {α : Type} [Inhabited α] {p : α → Bool} {l : List α} {k : Nat} (hk : k < l.length) (h1 : p l[k]! = true) (h2 : ∀ j, j < k → p l[j]! = false) : fst' p l = l[k]! ∧ fok p l = true := by
 unfold fst' fok; rw [find_at hk h1 h2]; exact ⟨rfl, rfl⟩
theorem rowat {α : Type} [Inhabited α] {enc : α → List Value} {n : Nat} (hn : ∀ x, (enc x).length = n) {W : World} {a : Option Addr} {xs : List α} (h : RowIn enc W a xs) (h0 : 0 < xs.length) : ∃ b off, a = some ⟨b, off, none⟩ ∧ ∀ j, j < xs.length → W.rangeAt b (off + j * n) (enc xs[j]!) := by
 obtain ⟨b, off, ha, hc⟩ := h h0
 refine ⟨b, off, ha, fun j hj i u hu => ?_⟩
 have hik : i < n := by
  have := (List.getElem?_eq_some_iff.1 hu).1
  rwa [hn] at this
 rw [Nat.add_assoc]
 exact hc _ _ ((flat_get hn xs j i hj hik).trans hu)
theorem range_later {W W' : World} {b f : Nat} {cs : List Value} (hb : Below W.heap.size W W') (h : W.rangeAt b f cs) : W'.rangeAt b f cs := fun j v hv => cell_later hb (h j v hv)
def SR1 (w : World) (n : Nat) (Q : Nat → Prop) (g : Nat) (s : Value) (W : World) : Prop := ∃ k : Nat, k + g = n ∧ s = .int .i64 k ∧ Q k ∧ Below w.heap.size w W
def SR2 (w : World) (n : Nat) (Q : Nat → Prop) (cs : Array Value) (t : TypeId) (g : Nat) (s : Value) (W : World) : Prop := ∃ k : Nat, k + g = n ∧ s = .int .i64 k ∧ Q k ∧ Bk.Blk W w.heap.size cs t ∧ Below w.heap.size w W
set_option maxHeartbeats 4000000 in
theorem cfind_any (a : Option Addr) (cap : Nat) (l : List Gl) (id : Int) (w : World) (hl : l.length ≤ 100000) (h : RowIn glenc w a l) :
  Calls Tryz.prog 86 #[.slice a l.length cap, .int .i64 id] w fun e w' => e = .returned (.tuple #[(.agg #[.int .i64 ((fst' (fun x : Gl => x.id == id) l)).id, .int .i64 ((fst' (fun x : Gl => x.id == id) l)).pa, .int .i64 ((fst' (fun x : Gl => x.id == id) l)).ki, .string ((fst' (fun x : Gl => x.id == id) l)).nm]), .bool (fok (fun x : Gl => x.id == id) l)]) ∧ Below w.heap.size w w' := by
 have H := Lib.hid h
 have cw : Below w.heap.size w (w.alloc (.cells #[.int .i64 0, .int .i64 0, .int .i64 0, .string { data := #[] }] 64)) := Bk.be
 have kz : Bk.Blk (w.alloc (.cells #[.int .i64 0, .int .i64 0, .int .i64 0, .string { data := #[] }] 64)) w.heap.size _ 64 := Bk.Blk.nw10
 clear h
 go_enter Tryz.func86, Tryz.ntmps86
 go_upto_region 1 with fail
 have hg : w.heap.size < (w.alloc (.cells #[.int .i64 0, .int .i64 0, .int .i64 0, .string { data := #[] }] 64)).heap.size := kz.lt
 generalize (w.alloc (.cells _ 64)) = w1 at *
 go_wp2_with fail
 go_loopg [10] l.length (SR2 w l.length (fun k => ∀ j, j < k → (fun x : Gl => x.id == id) l[j]! = false) #[.int .i64 0, .int .i64 0, .int .i64 0, .string { data := #[] }] 64)
 case atStart => exact ⟨0, by omega, rfl, fun j hj => by omega, kz, cw⟩
 case round =>
  clear kz cw hg
  obtain ⟨k, hk, rfl, hall, kz, hbr⟩ := hrel
  have HA := Lib.hid hall
  have hg := kz.lt
  clear hall
  by_cases hlt : k < l.length
  ·obtain ⟨b, off, rfl, hc⟩ := rowat glenc_len H.out (by omega)
   have hm := range_later hbr (hc k hlt)
   clear hc
   obtain ⟨d, hd⟩ : ∃ d, d = l[k]! := ⟨_, rfl⟩
   rw [← hd] at hm
   have HD := Lib.hid hd
   clear hd
   cases hv : (fun x : Gl => x.id == id) d
   ·have HV := Lib.hid hv
    simp only at hv
    go_wp2_with (first | (refine wpList_load_mid rfl 64 _ rfl _ (off + k * 4) (by first | rfl | simp) ([.int .i64 (d).id, .int .i64 (d).pa, .int .i64 (d).ki, .string (d).nm]) _ (hm) Tryz.underlying64 rfl (by kernel_rfl) ?_))
    go_roundg (gk - 1)
    case measure => omega
    case rel => exact ⟨k + 1, by omega, by go_num, fun j hj => by
     by_cases e : j = k
     ·subst e; rw [← HD.out]; exact HV.out
     ·exact HA.out j (by omega), Bk.Blk.alloc kz, Below.alloc hbr hbr.size _⟩
   ·have HF := Lib.hid (fst_at (p := fun x : Gl => x.id == id) hlt (by rw [← HD.out]; exact hv) HA.out)
    simp only at hv
    go_wp2_with (first | (refine wpList_load_mid rfl 64 _ rfl _ (off + k * 4) (by first | rfl | simp) ([.int .i64 (d).id, .int .i64 (d).pa, .int .i64 (d).ki, .string (d).nm]) _ (hm) Tryz.underlying64 rfl (by kernel_rfl) ?_) | (refine wpList_store_row rfl 64 _ _ rfl _ _ rfl rfl _ _ (Bk.Blk.alloc kz) (by kernel_rfl) rfl (by simp [Value.oneCell']) ?_) | (refine wpList_load_row rfl 64 _ rfl _ rfl _ _ _ _ (Bk.Blk.nw10) Tryz.underlying64 rfl (by kernel_rfl) ?_))
    (try simp only [Exit.inBlock, Exit.then])
    refine bodyPost_ret (results2_cell Tryz.results86 _ _ _ _ _ _ _ rfl (Blk_setRow_same (Bk.Blk.alloc kz)) Tryz.underlying64 rfl (by kernel_rfl)) rfl ?_
    exact ⟨by rw [HF.out.1, HF.out.2, ← HD.out]; rfl, Below_setRow (Below.alloc hbr hbr.size _) (Nat.le_refl _) _⟩
  ·have HF := Lib.hid (fst_none (p := fun x : Gl => x.id == id) (l := l) (fun j hj => HA.out j (by omega)))
   go_wp2_with ((refine wpList_store_row rfl 64 _ _ rfl _ _ rfl rfl _ _ (kz) (by kernel_rfl) rfl (by simp [Value.oneCell']) ?_))
   (try simp only [Exit.inBlock, Exit.then])
   refine bodyPost_ret (results2_cell Tryz.results86 _ _ _ _ _ _ _ rfl (Blk_setRow_same kz) Tryz.underlying64 rfl (by kernel_rfl)) rfl ?_
   exact ⟨by rw [HF.out.1, HF.out.2]; rfl, Below_setRow hbr (Nat.le_refl _) _⟩
set_option maxHeartbeats 4000000 in
theorem mfind_any (a : Option Addr) (cap : Nat) (l : List Cu) (s : ByteArray) (w : World) (hl : l.length ≤ 100000) (h : RowIn cuenc w a l) :
  Calls Tryz.prog 89 #[.slice a l.length cap, .string s] w fun e w' => e = .returned (.tuple #[(.agg #[.string ((fst' (fun x : Cu => x.cd.toList == s.toList) l)).cd, .int .i64 ((fst' (fun x : Cu => x.cd.toList == s.toList) l)).dg]), .bool (fok (fun x : Cu => x.cd.toList == s.toList) l)]) ∧ Below w.heap.size w w' := by
 have H := Lib.hid h
 have cw : Below w.heap.size w (w.alloc (.cells #[.string { data := #[] }, .int .i64 0] 62)) := Bk.be
 have kz : Bk.Blk (w.alloc (.cells #[.string { data := #[] }, .int .i64 0] 62)) w.heap.size #[.string { data := #[] }, .int .i64 0] 62 := Bk.Blk.nw10
 clear h
 go_enter Tryz.func89, Tryz.ntmps89
 go_upto_region 1 with fail
 have hg : w.heap.size < (w.alloc (.cells #[.string { data := #[] }, .int .i64 0] 62)).heap.size := kz.lt
 generalize (w.alloc (.cells #[.string { data := #[] }, .int .i64 0] 62)) = w1 at *
 go_wp2_with fail
 go_loopg [10] l.length (SR2 w l.length (fun k => ∀ j, j < k → (fun x : Cu => x.cd.toList == s.toList) l[j]! = false) #[.string { data := #[] }, .int .i64 0] 62)
 case atStart => exact ⟨0, by omega, rfl, fun j hj => by omega, kz, cw⟩
 case round =>
  clear kz cw hg
  obtain ⟨k, hk, rfl, hall, kz, hbr⟩ := hrel
  have HA := Lib.hid hall
  have hg := kz.lt
  clear hall
  by_cases hlt : k < l.length
  ·obtain ⟨b, off, rfl, hc⟩ := rowat cuenc_len H.out (by omega)
   have hm := range_later hbr (hc k hlt)
   clear hc
   obtain ⟨d, hd⟩ : ∃ d, d = l[k]! := ⟨_, rfl⟩
   rw [← hd] at hm
   have HD := Lib.hid hd
   clear hd
   cases hv : (fun x : Cu => x.cd.toList == s.toList) d
   ·have HV := Lib.hid hv
    simp only at hv
    go_wp2_with (first | (refine wpList_load_mid rfl 62 _ rfl _ (off + k * 2) (by first | rfl | simp) ([.string (d).cd, .int .i64 (d).dg]) _ (hm) Tryz.underlying62 rfl (by kernel_rfl) ?_))
    go_roundg (gk - 1)
    case measure => omega
    case rel => exact ⟨k + 1, by omega, by go_num, fun j hj => by
     by_cases e : j = k
     ·subst e; rw [← HD.out]; exact HV.out
     ·exact HA.out j (by omega), Bk.Blk.alloc kz, Below.alloc hbr hbr.size _⟩
   ·have HF := Lib.hid (fst_at (p := fun x : Cu => x.cd.toList == s.toList) hlt (by rw [← HD.out]; exact hv) HA.out)
    simp only at hv
    go_wp2_with (first | (refine wpList_load_mid rfl 62 _ rfl _ (off + k * 2) (by first | rfl | simp) ([.string (d).cd, .int .i64 (d).dg]) _ (hm) Tryz.underlying62 rfl (by kernel_rfl) ?_) | (refine wpList_store_row rfl 62 _ _ rfl _ _ rfl rfl _ _ (Bk.Blk.alloc kz) (by kernel_rfl) rfl (by simp [Value.oneCell']) ?_) | (refine wpList_load_row rfl 62 _ rfl _ rfl _ _ _ _ (Bk.Blk.nw10) Tryz.underlying62 rfl (by kernel_rfl) ?_))
    (try simp only [Exit.inBlock, Exit.then])
    refine bodyPost_ret (results2_cell Tryz.results89 _ _ _ _ _ _ _ rfl (Blk_setRow_same (Bk.Blk.alloc kz)) Tryz.underlying62 rfl (by kernel_rfl)) rfl ?_
    exact ⟨by rw [HF.out.1, HF.out.2, ← HD.out]; rfl, Below_setRow (Below.alloc hbr hbr.size _) (Nat.le_refl _) _⟩
  ·have HF := Lib.hid (fst_none (p := fun x : Cu => x.cd.toList == s.toList) (l := l) (fun j hj => HA.out j (by omega)))
   go_wp2_with ((refine wpList_store_row rfl 62 _ _ rfl _ _ rfl rfl _ _ (kz) (by kernel_rfl) rfl (by simp [Value.oneCell']) ?_))
   (try simp only [Exit.inBlock, Exit.then])
   refine bodyPost_ret (results2_cell Tryz.results89 _ _ _ _ _ _ _ rfl (Blk_setRow_same kz) Tryz.underlying62 rfl (by kernel_rfl)) rfl ?_
   exact ⟨by rw [HF.out.1, HF.out.2]; rfl, Below_setRow hbr (Nat.le_refl _) _⟩
-- GEN ix
def PredG (g : Nat) (lb : Array Value) (p : Gl → Bool) (B : Nat) (w : World) : Prop := ∀ (d : Gl) (W : World), Below B w W → Calls Tryz.prog g (#[(.agg #[.int .i64 (d).id, .int .i64 (d).pa, .int .i64 (d).ki, .string (d).nm])] ++ lb) W fun e w' => e = .returned (.bool (p d)) ∧ Below W.heap.size W w'
set_option maxHeartbeats 4000000 in
theorem ixG_any (g : Nat) (lb : Array Value) (p : Gl → Bool) (a : Option Addr) (cap : Nat) (cs : List Gl) (w : World) (hn : cs.length ≤ 100000) (h : RowIn glenc w a cs) (eg : ∀ args w, (callFunc g args).run Tryz.prog w = .ok (.enter g args) w) (hp : PredG g lb p w.heap.size w) :
  Calls Tryz.prog 119 #[.slice a cs.length cap, .func (.func g) #[] lb] w fun e w' => ∃ r, e = .returned (.int .i64 r) ∧ Idx p cs r ∧ Below w.heap.size w w' := by
 have H := Lib.hid h
 have HP := Lib.hid hp
 clear h hp
 go_enter Tryz.func119, Tryz.ntmps119
 go_wp2_with fail
 go_loopg [8] cs.length (SR1 w cs.length (fun k => ∀ j, j < k → p cs[j]! = false))
 case atStart => exact ⟨0, by omega, rfl, fun j hj => by omega, Below.refl _ _⟩
 case round =>
  obtain ⟨k, hk, rfl, hall, hbr⟩ := hrel
  have HA := Lib.hid hall
  clear hall
  by_cases hlt : k < cs.length
  ·obtain ⟨b, off, rfl, hc⟩ := rowat glenc_len H.out (by omega)
   have hm := range_later hbr (hc k hlt)
   have hcall := HP.out cs[k]! wr hbr
   generalize hd : cs[k]! = d at *
   have HD := Lib.hid hd
   clear hc hd
   cases hv : p d
   ·rw [hv] at hcall
    have HV := Lib.hid hv
    clear hv
    go_wp2_with (refine wpList_load_mid rfl 64 _ rfl b (off + k * 4) (by first | rfl | simp) (glenc d) _ hm Tryz.underlying64 rfl (by kernel_rfl) ?_)
    clear hm
    refine hcall.mono ?_
    rintro e w1 ⟨rfl, hb⟩
    go_wp2_with fail
    go_roundg (gk - 1)
    case measure => omega
    case rel => exact ⟨k + 1, by omega, by go_num, fun j hj => by
     by_cases e : j = k
     ·subst e; rw [HD.out]; exact HV.out
     ·exact HA.out j (by omega), bl2 hb hbr⟩
   ·rw [hv] at hcall
    have HV := Lib.hid hv
    clear hv
    go_wp2_with (refine wpList_load_mid rfl 64 _ rfl b (off + k * 4) (by first | rfl | simp) (glenc d) _ hm Tryz.underlying64 rfl (by kernel_rfl) ?_)
    clear hm
    refine hcall.mono ?_
    rintro e w1 ⟨rfl, hb⟩
    go_wp2_with fail
    go_ret
    exact ⟨k, rfl, .inr ⟨k, hlt, rfl, by rw [HD.out]; exact HV.out, HA.out⟩, bl2 hb hbr⟩
  ·go_wp2_with fail
   go_ret
   exact ⟨-1, rfl, .inl ⟨rfl, fun j hj => HA.out j (by omega)⟩, hbr⟩
def PredA (g : Nat) (lb : Array Value) (p : Ac → Bool) (B : Nat) (w : World) : Prop := ∀ (d : Ac) (W : World), Below B w W → Calls Tryz.prog g (#[(.agg #[.int .i64 (d).id, .int .i64 (d).op, .int .i64 (d).cl, .int .i64 (d).ex, .string (d).ow, .string (d).pr, .string (d).nu])] ++ lb) W fun e w' => e = .returned (.bool (p d)) ∧ Below W.heap.size W w'
set_option maxHeartbeats 4000000 in
theorem ixA_any (g : Nat) (lb : Array Value) (p : Ac → Bool) (a : Option Addr) (cap : Nat) (cs : List Ac) (w : World) (hn : cs.length ≤ 100000) (h : RowIn acenc w a cs) (eg : ∀ args w, (callFunc g args).run Tryz.prog w = .ok (.enter g args) w) (hp : PredA g lb p w.heap.size w) :
  Calls Tryz.prog 124 #[.slice a cs.length cap, .func (.func g) #[] lb] w fun e w' => ∃ r, e = .returned (.int .i64 r) ∧ Idx p cs r ∧ Below w.heap.size w w' := by
 have H := Lib.hid h
 have HP := Lib.hid hp
 clear h hp
 go_enter Tryz.func124, Tryz.ntmps124
 go_wp2_with fail
 go_loopg [8] cs.length (SR1 w cs.length (fun k => ∀ j, j < k → p cs[j]! = false))
 case atStart => exact ⟨0, by omega, rfl, fun j hj => by omega, Below.refl _ _⟩
 case round =>
  obtain ⟨k, hk, rfl, hall, hbr⟩ := hrel
  have HA := Lib.hid hall
  clear hall
  by_cases hlt : k < cs.length
  ·obtain ⟨b, off, rfl, hc⟩ := rowat acenc_len H.out (by omega)
   have hm := range_later hbr (hc k hlt)
   have hcall := HP.out cs[k]! wr hbr
   generalize hd : cs[k]! = d at *
   have HD := Lib.hid hd
   clear hc hd
   cases hv : p d
   ·rw [hv] at hcall
    have HV := Lib.hid hv
    clear hv
    go_wp2_with (refine wpList_load_mid rfl 76 _ rfl b (off + k * 7) (by first | rfl | simp) (acenc d) _ hm Tryz.underlying76 rfl (by kernel_rfl) ?_)
    clear hm
    refine hcall.mono ?_
    rintro e w1 ⟨rfl, hb⟩
    go_wp2_with fail
    go_roundg (gk - 1)
    case measure => omega
    case rel => exact ⟨k + 1, by omega, by go_num, fun j hj => by
     by_cases e : j = k
     ·subst e; rw [HD.out]; exact HV.out
     ·exact HA.out j (by omega), bl2 hb hbr⟩
   ·rw [hv] at hcall
    have HV := Lib.hid hv
    clear hv
    go_wp2_with (refine wpList_load_mid rfl 76 _ rfl b (off + k * 7) (by first | rfl | simp) (acenc d) _ hm Tryz.underlying76 rfl (by kernel_rfl) ?_)
    clear hm
    refine hcall.mono ?_
    rintro e w1 ⟨rfl, hb⟩
    go_wp2_with fail
    go_ret
    exact ⟨k, rfl, .inr ⟨k, hlt, rfl, by rw [HD.out]; exact HV.out, HA.out⟩, bl2 hb hbr⟩
  ·go_wp2_with fail
   go_ret
   exact ⟨-1, rfl, .inl ⟨rfl, fun j hj => HA.out j (by omega)⟩, hbr⟩
def PredE (g : Nat) (lb : Array Value) (p : En → Bool) (B : Nat) (w : World) : Prop := ∀ (d : En) (W : World), Below B w W → Calls Tryz.prog g (#[(.agg #[.int .i64 (d).id, .int .i64 (d).bo, .int .i64 (d).va, .int .i64 (d).ki, .int .i64 (d).au, .int .i64 (d).pe, .string (d).ke, .string (d).tx, .slice (d).la (d).lg.length (d).lk, .int .u64 (d).ch])] ++ lb) W fun e w' => e = .returned (.bool (p d)) ∧ Below W.heap.size W w'
set_option maxHeartbeats 4000000 in
theorem ixE_any (g : Nat) (lb : Array Value) (p : En → Bool) (a : Option Addr) (cap : Nat) (cs : List En) (w : World) (hn : cs.length ≤ 100000) (h : RowIn enenc w a cs) (eg : ∀ args w, (callFunc g args).run Tryz.prog w = .ok (.enter g args) w) (hp : PredE g lb p w.heap.size w) :
  Calls Tryz.prog 52 #[.slice a cs.length cap, .func (.func g) #[] lb] w fun e w' => ∃ r, e = .returned (.int .i64 r) ∧ Idx p cs r ∧ Below w.heap.size w w' := by
 have H := Lib.hid h
 have HP := Lib.hid hp
 clear h hp
 go_enter Tryz.func52, Tryz.ntmps52
 go_wp2_with fail
 go_loopg [8] cs.length (SR1 w cs.length (fun k => ∀ j, j < k → p cs[j]! = false))
 case atStart => exact ⟨0, by omega, rfl, fun j hj => by omega, Below.refl _ _⟩
 case round =>
  obtain ⟨k, hk, rfl, hall, hbr⟩ := hrel
  have HA := Lib.hid hall
  clear hall
  by_cases hlt : k < cs.length
  ·obtain ⟨b, off, rfl, hc⟩ := rowat enenc_len H.out (by omega)
   have hm := range_later hbr (hc k hlt)
   have hcall := HP.out cs[k]! wr hbr
   generalize hd : cs[k]! = d at *
   have HD := Lib.hid hd
   clear hc hd
   cases hv : p d
   ·rw [hv] at hcall
    have HV := Lib.hid hv
    clear hv
    go_wp2_with (refine wpList_load_mid rfl 39 _ rfl b (off + k * 10) (by first | rfl | simp) (enenc d) _ hm Tryz.underlying39 rfl (by kernel_rfl) ?_)
    clear hm
    refine hcall.mono ?_
    rintro e w1 ⟨rfl, hb⟩
    go_wp2_with fail
    go_roundg (gk - 1)
    case measure => omega
    case rel => exact ⟨k + 1, by omega, by go_num, fun j hj => by
     by_cases e : j = k
     ·subst e; rw [HD.out]; exact HV.out
     ·exact HA.out j (by omega), bl2 hb hbr⟩
   ·rw [hv] at hcall
    have HV := Lib.hid hv
    clear hv
    go_wp2_with (refine wpList_load_mid rfl 39 _ rfl b (off + k * 10) (by first | rfl | simp) (enenc d) _ hm Tryz.underlying39 rfl (by kernel_rfl) ?_)
    clear hm
    refine hcall.mono ?_
    rintro e w1 ⟨rfl, hb⟩
    go_wp2_with fail
    go_ret
    exact ⟨k, rfl, .inr ⟨k, hlt, rfl, by rw [HD.out]; exact HV.out, HA.out⟩, bl2 hb hbr⟩
  ·go_wp2_with fail
   go_ret
   exact ⟨-1, rfl, .inl ⟨rfl, fun j hj => HA.out j (by omega)⟩, hbr⟩
-- END ix
theorem aix1_any (id : Int) (b B : Nat) (w : World) (hb : b < B) (hc : w.cell? ⟨b, 0, none⟩ = some (.int .i64 id)) : PredA 125 #[.pointer (some ⟨b, 0, none⟩)] (fun d => d.id == id) B w := by
 intro d W hW
 have hc' : W.cell? ⟨b, 0, none⟩ = some (.int .i64 id) := (hW.cell (p := ⟨b, 0, none⟩) hb).trans hc
 have hlt := World.block_lt_of_cell? _ _ hc'
 have hne : b ≠ W.heap.size := by
  have : b < W.heap.size := hlt
  omega
 show Calls Tryz.prog 125 #[(.agg #[.int .i64 (d).id, .int .i64 (d).op, .int .i64 (d).cl, .int .i64 (d).ex, .string (d).ow, .string (d).pr, .string (d).nu]), .pointer (some ⟨b, 0, none⟩)] W _
 go_enter Tryz.func125, Tryz.ntmps125
 go_wp2_with fail
 go_ret
 exact ⟨by first | rfl | simp, (Below.refl _ _).alloc (Nat.le_refl _) _⟩
theorem jfi1_any (s : ByteArray) (b B : Nat) (w : World) (hb : b < B) (hc : w.cell? ⟨b, 0, none⟩ = some (.string s)) : PredE 53 #[.pointer (some ⟨b, 0, none⟩)] (fun d => d.ke.toList == s.toList) B w := by
 intro d W hW
 have hc' : W.cell? ⟨b, 0, none⟩ = some (.string s) := (hW.cell (p := ⟨b, 0, none⟩) hb).trans hc
 have hlt := World.block_lt_of_cell? _ _ hc'
 have hne : b ≠ W.heap.size := by
  have : b < W.heap.size := hlt
  omega
 show Calls Tryz.prog 53 #[(.agg #[.int .i64 (d).id, .int .i64 (d).bo, .int .i64 (d).va, .int .i64 (d).ki, .int .i64 (d).au, .int .i64 (d).pe, .string (d).ke, .string (d).tx, .slice (d).la (d).lg.length (d).lk, .int .u64 (d).ch]), .pointer (some ⟨b, 0, none⟩)] W _
 go_enter Tryz.func53, Tryz.ntmps53
 go_wp2_with fail
 go_ret
 exact ⟨by first | rfl | simp, (Below.refl _ _).alloc (Nat.le_refl _) _⟩
theorem led1_any (id : Int) (b B : Nat) (w : World) (hb : b < B) (hc : w.cell? ⟨b, 0, none⟩ = some (.int .i64 id)) : PredG 88 #[.pointer (some ⟨b, 0, none⟩)] (fun d => d.pa == id) B w := by
 intro d W hW
 have hc' : W.cell? ⟨b, 0, none⟩ = some (.int .i64 id) := (hW.cell (p := ⟨b, 0, none⟩) hb).trans hc
 have hlt := World.block_lt_of_cell? _ _ hc'
 have hne : b ≠ W.heap.size := by
  have : b < W.heap.size := hlt
  omega
 show Calls Tryz.prog 88 #[(.agg #[.int .i64 (d).id, .int .i64 (d).pa, .int .i64 (d).ki, .string (d).nm]), .pointer (some ⟨b, 0, none⟩)] W _
 go_enter Tryz.func88, Tryz.ntmps88
 go_wp2_with fail
 go_ret
 exact ⟨by first | rfl | simp, (Below.refl _ _).alloc (Nat.le_refl _) _⟩
set_option maxHeartbeats 4000000 in
theorem aidx_any (B : Bo) (id : Int) (w : World) (hn : B.as.length ≤ 100000) (h : RowIn acenc w B.aa B.as) :
  Calls Tryz.prog 94 #[(.agg #[.slice (B).ua (B).us.length (B).uk, .slice (B).ka (B).kn (B).kk, .slice (B).ga (B).gs.length (B).gk, .int .i64 ((B).pl).p0, .int .i64 ((B).pl).p1, .int .i64 ((B).pl).p2, .int .i64 ((B).pl).p3, .int .i64 ((B).pl).p4, .int .i64 ((B).pl).p5, .int .i64 ((B).pl).p6, .int .i64 ((B).pl).p7, .int .i64 ((B).pl).p8, .int .i64 ((B).pl).p9, .int .i64 ((B).pl).p10, .int .i64 ((B).pl).p11, .int .i64 ((B).pl).p12, .int .i64 ((B).pl).p13, .slice (B).pa (B).ps.length (B).pk, .slice (B).aa (B).as.length (B).ak, .slice (B).ja (B).js.length (B).jk, .slice (B).ha (B).hn (B).hk, .slice (B).ba (B).bn (B).bk]), .int .i64 id] w fun e w' => ∃ r, e = .returned (.int .i64 r) ∧ Idx (fun d : Ac => d.id == id) B.as r ∧ Below w.heap.size w w' := by
 have cw : Below w.heap.size w ((w.alloc (.cells #[.slice (B).ua (B).us.length (B).uk, .slice (B).ka (B).kn (B).kk, .slice (B).ga (B).gs.length (B).gk, .int .i64 ((B).pl).p0, .int .i64 ((B).pl).p1, .int .i64 ((B).pl).p2, .int .i64 ((B).pl).p3, .int .i64 ((B).pl).p4, .int .i64 ((B).pl).p5, .int .i64 ((B).pl).p6, .int .i64 ((B).pl).p7, .int .i64 ((B).pl).p8, .int .i64 ((B).pl).p9, .int .i64 ((B).pl).p10, .int .i64 ((B).pl).p11, .int .i64 ((B).pl).p12, .int .i64 ((B).pl).p13, .slice (B).pa (B).ps.length (B).pk, .slice (B).aa (B).as.length (B).ak, .slice (B).ja (B).js.length (B).jk, .slice (B).ha (B).hn (B).hk, .slice (B).ba (B).bn (B).bk] 33)).alloc (.cells #[.int .i64 id] 3)) := Bk.be
 have kb : Bk.Blk ((w.alloc (.cells #[.slice (B).ua (B).us.length (B).uk, .slice (B).ka (B).kn (B).kk, .slice (B).ga (B).gs.length (B).gk, .int .i64 ((B).pl).p0, .int .i64 ((B).pl).p1, .int .i64 ((B).pl).p2, .int .i64 ((B).pl).p3, .int .i64 ((B).pl).p4, .int .i64 ((B).pl).p5, .int .i64 ((B).pl).p6, .int .i64 ((B).pl).p7, .int .i64 ((B).pl).p8, .int .i64 ((B).pl).p9, .int .i64 ((B).pl).p10, .int .i64 ((B).pl).p11, .int .i64 ((B).pl).p12, .int .i64 ((B).pl).p13, .slice (B).pa (B).ps.length (B).pk, .slice (B).aa (B).as.length (B).ak, .slice (B).ja (B).js.length (B).jk, .slice (B).ha (B).hn (B).hk, .slice (B).ba (B).bn (B).bk] 33)).alloc (.cells #[.int .i64 id] 3)) w.heap.size _ 33 := Bk.Blk.nw20
 have k0 : Bk.Blk ((w.alloc (.cells #[.slice (B).ua (B).us.length (B).uk, .slice (B).ka (B).kn (B).kk, .slice (B).ga (B).gs.length (B).gk, .int .i64 ((B).pl).p0, .int .i64 ((B).pl).p1, .int .i64 ((B).pl).p2, .int .i64 ((B).pl).p3, .int .i64 ((B).pl).p4, .int .i64 ((B).pl).p5, .int .i64 ((B).pl).p6, .int .i64 ((B).pl).p7, .int .i64 ((B).pl).p8, .int .i64 ((B).pl).p9, .int .i64 ((B).pl).p10, .int .i64 ((B).pl).p11, .int .i64 ((B).pl).p12, .int .i64 ((B).pl).p13, .slice (B).pa (B).ps.length (B).pk, .slice (B).aa (B).as.length (B).ak, .slice (B).ja (B).js.length (B).jk, .slice (B).ha (B).hn (B).hk, .slice (B).ba (B).bn (B).bk] 33)).alloc (.cells #[.int .i64 id] 3)) (w.heap.size + 1) #[.int .i64 id] 3 := Bk.Blk.nw21
 have hr := h.later cw
 clear h
 go_enter Tryz.func94, Tryz.ntmps94
 go_upto_region 1 with fail
 generalize ((w.alloc (.cells _ 33)).alloc (.cells #[.int .i64 id] 3)) = w1 at *
 have l18 := kb.c18
 go_wp2_with fail
 refine (ixA_any 125 #[.pointer (some ⟨w.heap.size + 1, 0, none⟩)] (fun d => d.id == id) B.aa B.ak B.as w1 hn hr (enters_of Tryz.func125 (by kernel_rfl) rfl) (aix1_any id _ _ _ k0.lt k0.c0)).mono ?_
 rintro e w2 ⟨r, rfl, hr, hb⟩
 go_wp2_with fail
 go_ret
 exact ⟨r, rfl, hr, bl2 hb cw⟩
end Go.Proofs.YtjhpiclnpmdjnaaGreatDoor.Bm
namespace Go.Proofs.YtjhpiclnpmdjnaaGreatDoor.Ln
open Go.RowKit
open Go.Proofs.YtjhpiclnpmdjnaaGreatDoor

def samechR (w : World) (n : Nat) (g : Nat) (s5 : Value) (W : World) : Prop := ∃ k : Nat, k + g = n ∧ s5 = .int .i64 k ∧ Below w.heap.size w W
end Go.Proofs.YtjhpiclnpmdjnaaGreatDoor.Ln
namespace Go.Proofs.YtjhpiclnpmdjnaaGreatDoor.Ln
open Go Go.RowKit
open Go.Proofs.YtjhpiclnpmdjnaaGreatDoor
set_option maxRecDepth 100000

end Go.Proofs.YtjhpiclnpmdjnaaGreatDoor.Ln

namespace Go.Proofs.YtjhpiclnpmdjnaaGreatDoor.Ln
open Go Go.RowKit
open Go.Proofs.YtjhpiclnpmdjnaaGreatDoor

theorem z0 {α : Type} {a : α} {l : List α} {h : 0 < (a :: l).length} : (a :: l)[0] = a := List.getElem_cons_zero ..
theorem z1 {α : Type} {a : α} {l : List α} {i : Nat} {h : i + 1 < (a :: l).length} : (a :: l)[i + 1] = l[i]'(Nat.lt_of_succ_lt_succ h) := List.getElem_cons_succ ..
theorem z2 (a : Act) (d : Tmp) (v : Value) : a.put (some d) v = { a with tmps := a.tmps.setIfInBounds d v } := rfl
theorem z3 {α : Type} (l : List α) (i : Nat) (a : α) : l.toArray.setIfInBounds i a = (l.set i a).toArray := List.setIfInBounds_toArray ..
theorem z4 {α : Type} (a b : α) (l : List α) : (a :: l).set 0 b = b :: l := List.set_cons_zero
theorem z5 {α : Type} (a b : α) (l : List α) (i : Nat) : (a :: l).set (i + 1) b = a :: l.set i b := List.set_cons_succ
section
variable {P : Program} {l : List Oper} {Q : Exit → Act → World → Prop} {S : World → Prop} {md : Region.Mode} {fuel : Nat} {listed : Array Bool} {a : Act} {w : World}
theorem tk (i : Nat) (hi : i < l.length) (v : Value) (hS : S w) (hs : Region.noSelect l.toArray = true) (hf : Region.free md l.toArray listed i = true) (hr : (Region.ready md l.toArray listed).contains i = true)
  (hw : Region.wanted l[i] (yielded l.toArray a.tmps) = true) (hQ : ∀ c a w, Q (.panic c) (a.put l[i].dst v) w → Q (.panic c) a w)
  (hy : ∀ W, S W → (execOp a.eval l[i]).run P W = .ok (.value v) W) (h : wpAnyH P md l.toArray Q S fuel (listed.setIfInBounds i true) (a.put l[i].dst v) w) : wpAnyH P md l.toArray Q S (fuel + 1) listed a w :=
 take_at i hi hs hf hr hQ hS (.inl ⟨hw, hy⟩) h
theorem ts (i : Nat) (hi : i < l.length) (hS : S w) (hs : Region.noSelect l.toArray = true) (hf : Region.free md l.toArray listed i = true) (hr : (Region.ready md l.toArray listed).contains i = true)
  (hw : Region.wanted l[i] (yielded l.toArray a.tmps) = false) (hQ : ∀ c a w, Q (.panic c) (a.put l[i].dst undef) w → Q (.panic c) a w)
  (h : wpAnyH P md l.toArray Q S fuel (listed.setIfInBounds i true) (a.put l[i].dst undef) w) : wpAnyH P md l.toArray Q S (fuel + 1) listed a w :=
 take_at i hi hs hf hr hQ hS (.inr ⟨hw, rfl⟩) h
end
end Go.Proofs.YtjhpiclnpmdjnaaGreatDoor.Ln
