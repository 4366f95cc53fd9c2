/-
  Parts of the proof: B16, B17, B18.
-/
import Derived.RangeFuncNested
import Derived.RangeFuncBound
import Derived.RangeFuncCalls
import Derived.RangeFuncLeaves
import Derived.RangeFuncFrom
import Derived.Shelf.Abstract
import Derived.Shelf.RegionOpen
import Derived.OwnWalkIn
import Derived.TacticsInMore
import Derived.LoopNIn
import Derived.LoopIn
import Derived.Test.YtjhpiclnpmdjnaaGreatDoorQ08
import Derived.Test.YtjhpiclnpmdjnaaGreatDoorQ07
namespace Go.Proofs.YtjhpiclnpmdjnaaGreatDoor.Bm
open Go Go.RowKit
open Go.Proofs.YtjhpiclnpmdjnaaGreatDoor
open Go.Proofs.YtjhpiclnpmdjnaaGreatDoor.Ln (flat flat_len flat_get flat_mem RowIn OwnR Idx bl2)
set_option linter.unusedSimpArgs false
set_option linter.unusedVariables false
set_option maxRecDepth 100000
attribute [local go_sem] Oper.semAt_some

def Kc (g : Nat) (W W' : World) : Prop := W.heap.size ≤ W'.heap.size ∧ ∀ k cs t fr, k ≠ g → W.heap[k]? = some (.cells cs t fr) → W'.heap[k]? = some (.cells cs t fr)
theorem Kc.refl (g : Nat) (W : World) : Kc g W W := ⟨Nat.le_refl _, fun _ _ _ _ _ h => h⟩
theorem Kc.trans {g : Nat} {A B C : World} (h : Kc g A B) (k : Kc g B C) : Kc g A C := ⟨Nat.le_trans h.1 k.1, fun i cs t fr hi hc => k.2 i cs t fr hi (h.2 i cs t fr hi hc)⟩
theorem cells_of_cell {W : World} {b o : Nat} {v : Value} (h : W.cell? ⟨b, o, none⟩ = some v) : ∃ cs t fr, W.heap[b]? = some (.cells cs t fr) := by
 unfold World.cell? at h
 split at h
 ·exact ⟨_, _, _, by assumption⟩
 ·cases h
theorem Kc.cell {g : Nat} {W W' : World} {b o : Nat} {v : Value} (h : Kc g W W') (hb : b ≠ g) (hc : W.cell? ⟨b, o, none⟩ = some v) : W'.cell? ⟨b, o, none⟩ = some v := by
 obtain ⟨cs, t, fr, hh⟩ := cells_of_cell hc
 have := h.2 b cs t fr hb hh
 rw [World.cell?_of_block (w := W) (w' := W') (by rw [this, hh])]
 exact hc
theorem Kc.range {g : Nat} {W W' : World} {b o : Nat} {cs : List Value} (h : Kc g W W') (hb : b ≠ g) (hc : W.rangeAt b o cs) : W'.rangeAt b o cs := fun j v hv => h.cell hb (hc j v hv)
theorem Kc.put {g : Nat} (W : World) (l : Nat) (o o' : Obj) (h : W.heap[l]? = some o) (hc : o.isCells = false) : Kc g W (W.putObj l o') := by
 refine ⟨by simp [World.putObj], fun k cs t fr _ hk => ?_⟩
 have hne : k ≠ l := by
  intro e
  rw [e, h] at hk
  have := Option.some.inj hk
  rw [this] at hc
  cases hc
 rw [← hk]
 simp [World.putObj, Array.getElem?_setIfInBounds, Ne.symm hne]
theorem Kc.set {g : Nat} (W : World) (o : Nat) (u : Value) : Kc g W (W.setCell ⟨g, o, none⟩ u) := ⟨by simp [World.setCell], fun k cs t fr hk h => (Below.heap_setCell W _ u k hk).trans h⟩
theorem Kc.below {g : Nat} {W W' : World} (h : Below W.heap.size W W') : Kc g W W' := ⟨h.size, fun k cs t fr _ hk => (h.block k (Array.getElem?_eq_some_iff.1 hk).1).trans hk⟩
theorem grown_of_below {W W' : World} (h : Below W.heap.size W W') : W.grownBy W' none := ⟨h.os, h.tape, h.output, h.size, fun k hk _ => h.block k hk⟩
theorem cell_new_l (W : World) (v : Value) (t : TypeId) : (W.alloc (.cells #[v] t)).cell? ⟨W.heap.size, 0, none⟩ = some v ∧ (W.alloc (.cells #[v] t)).frozen? ⟨W.heap.size, 0, none⟩ = false := ⟨Bk.Blk.c0 (Bk.Blk.nw10 (W := W) (cs := #[v]) (t := t)), Bk.Blk.f0 (Bk.Blk.nw10 (W := W) (cs := #[v]) (t := t))⟩
theorem cell_alloc_l {W : World} {a : Addr} {v : Value} (o : Obj) (h : W.cell? a = some v) : (W.alloc o).cell? a = some v := cell_kept h (World.grownBy_alloc W o none) (fun r e => by cases e)
theorem frozen_alloc_l {W : World} {a : Addr} {v : Value} (o : Obj) (h : W.cell? a = some v) (hf : W.frozen? a = false) : (W.alloc o).frozen? a = false := (frozen_kept h (World.grownBy_alloc W o none) (fun r e => by cases e)).trans hf
def mvs (l : List Lg) (acc : Int) : List Int := (l.filter fun x => x.ac == acc).map fun x => x.am
theorem mvs_yes {l : List Lg} {acc : Int} {k : Nat} (h : k < l.length) (hx : (l[k]!.ac == acc) = true) : mvs (l.take (k + 1)) acc = mvs (l.take k) acc ++ [l[k]!.am] := by
 unfold mvs
 rw [List.take_succ_eq_append_getElem h, ← getElem!_pos l k h, List.filter_append, List.map_append]
 generalize l[k]! = y at *
 simp [List.filter_cons, hx]
theorem mvs_no {l : List Lg} {acc : Int} {k : Nat} (h : k < l.length) (hx : (l[k]!.ac == acc) = false) : mvs (l.take (k + 1)) acc = mvs (l.take k) acc := by
 unfold mvs
 rw [List.take_succ_eq_append_getElem h, ← getElem!_pos l k h, List.filter_append, List.map_append]
 generalize l[k]! = y at *
 simp [List.filter_cons, hx]
theorem mvs_len (l : List Lg) (acc : Int) : (mvs l acc).length ≤ l.length := by
 unfold mvs
 rw [List.length_map]
 exact List.length_filter_le ..
theorem mov1_in (F : Fence) (n : Nat) (hf : F.fn 63) (hro : F.round = none) (hn : 1 ≤ n) (l Bj Ba g bj oj jk bl ol : Nat) (e1 : En) (acc : Int) (hBjg : Bj ≠ g) (hBag : Ba ≠ g) (hbjg : bj ≠ g) (hblg : bl ≠ g) (J Jx : List Int → World → Prop) (W : World) (hgW : g < W.heap.size) (hJ : AbidesFrom W.heap.size J)
  (hY : ∀ pre x W, J pre W → pre.length < e1.lg.length → YieldAt F (n - 1) Tryz.prog l #[.agg #[.int .i64 e1.id, .int .i64 e1.bo, .int .i64 e1.va, .int .i64 e1.ki, .int .i64 e1.au, .int .i64 e1.pe, .string e1.ke, .string e1.tx, .slice (some ⟨bl, ol, none⟩) e1.lg.length e1.lk, .int .u64 e1.ch], .int .i64 x] W fun e W' =>
   (e = .returned (.bool true) ∧ J (pre ++ [x]) W' ∧ Kc g W W') ∨ (e = .returned (.bool false) ∧ Jx (pre ++ [x]) W'))
  (hBj : W.cell? ⟨Bj, 0, none⟩ = some (.slice (some ⟨bj, oj, none⟩) 1 jk)) (hBa : W.cell? ⟨Ba, 0, none⟩ = some (.int .i64 acc)) (he : W.rangeAt bj oj (enenc e1)) (hla : e1.la = some ⟨bl, ol, none⟩) (hl : ∀ j, j < e1.lg.length → W.rangeAt bl (ol + j * 3) (lgenc e1.lg[j]!)) (hlen : e1.lg.length ≤ 100000) (h0 : J [] W) :
  CallsIn F n Tryz.prog 63 #[.func (.yield l) #[] #[], .pointer (some ⟨Bj, 0, none⟩), .pointer (some ⟨Ba, 0, none⟩)] W fun e W' => (∃ v, e = .returned v) ∧
   ((∃ ys, ys = mvs e1.lg acc ∧ J ys W') ∨ (∃ pre, True ∧ Jx pre W')) := by
 have HL := Lib.hid hl
 have HE := Lib.hid he
 have HJ := Lib.hid hJ
 clear hl he hJ
 refine callsIn_of_wp Tryz.func63 rfl hf ?_ hro
 simp only [Tryz.ntmps63, List.size_toArray, List.length_cons, List.length_nil, Nat.reduceAdd, Nat.reduceSub, Array.replicate_succ, Array.replicate_zero, List.push_toArray, List.append_toArray, List.nil_append, List.cons_append]
 gi_wp2
 gi_loopw [10] (fun i wr => ∃ k : Nat, k ≤ 1 ∧ i = .int .i64 k ∧ J (if k = 0 then [] else mvs e1.lg acc) wr ∧ Kc g W wr)
  (fun i _ => 1 - (intOf i).toNat)
 case atStart => exact ⟨0, by omega, rfl, h0, Kc.refl _ _⟩
 case round =>
  obtain ⟨k, hk, rfl, hJs, hkc⟩ := hrel
  by_cases hlt : k < 1
  ·obtain rfl : k = 0 := by omega
   have hme := hkc.range hbjg HE.out
   have m0 : wr.cell? ⟨bj, oj, none⟩ = some (.int .i64 e1.id) := hme 0 _ rfl
   have m1 : wr.cell? ⟨bj, oj + 1, none⟩ = some (.int .i64 e1.bo) := hme 1 _ rfl
   have m2 : wr.cell? ⟨bj, oj + 2, none⟩ = some (.int .i64 e1.va) := hme 2 _ rfl
   have m3 : wr.cell? ⟨bj, oj + 3, none⟩ = some (.int .i64 e1.ki) := hme 3 _ rfl
   have m4 : wr.cell? ⟨bj, oj + 4, none⟩ = some (.int .i64 e1.au) := hme 4 _ rfl
   have m5 : wr.cell? ⟨bj, oj + 5, none⟩ = some (.int .i64 e1.pe) := hme 5 _ rfl
   have m6 : wr.cell? ⟨bj, oj + 6, none⟩ = some (.string e1.ke) := hme 6 _ rfl
   have m7 : wr.cell? ⟨bj, oj + 7, none⟩ = some (.string e1.tx) := hme 7 _ rfl
   have m8 : wr.cell? ⟨bj, oj + 8, none⟩ = some (.slice (some ⟨bl, ol, none⟩) e1.lg.length e1.lk) := by rw [← hla]; exact hme 8 _ rfl
   have m9 : wr.cell? ⟨bj, oj + 9, none⟩ = some (.int .u64 e1.ch) := hme 9 _ rfl
   clear hme hla
   gi_wp2
   have cx : Below wr.heap.size wr (wr.alloc (.cells #[.int .i64 e1.id, .int .i64 e1.bo, .int .i64 e1.va, .int .i64 e1.ki, .int .i64 e1.au, .int .i64 e1.pe, .string e1.ke, .string e1.tx, .slice (some ⟨bl, ol, none⟩) e1.lg.length e1.lk, .int .u64 e1.ch] 39)) := Bk.be
   have kx : Bk.Blk (wr.alloc (.cells #[.int .i64 e1.id, .int .i64 e1.bo, .int .i64 e1.va, .int .i64 e1.ki, .int .i64 e1.au, .int .i64 e1.pe, .string e1.ke, .string e1.tx, .slice (some ⟨bl, ol, none⟩) e1.lg.length e1.lk, .int .u64 e1.ch] 39)) wr.heap.size _ 39 := Bk.Blk.nw10
   have hK2 := hkc.trans (Kc.below (g := g) cx)
   have hJ2 := HJ.out [] _ _ none hJs (grown_of_below cx) (fun r e => by cases e)
   have hgr : g < wr.heap.size := Nat.lt_of_lt_of_le hgW hkc.1
   generalize wr.alloc (.cells _ 39) = w2 at *
   obtain ⟨ge, hge⟩ : ∃ ge, ge = wr.heap.size := ⟨_, rfl⟩
   rw [← hge] at kx hgr ⊢
   clear hge cx hJs hkc m0 m1 m2 m3 m4 m5 m6 m7 m8 m9
   gi_loopw [17] (fun i wr => ∃ k2 : Nat, k2 ≤ e1.lg.length ∧ i = .int .i64 k2 ∧ J (mvs (e1.lg.take k2) acc) wr ∧ Kc g W wr ∧ Bk.Blk wr ge #[.int .i64 e1.id, .int .i64 e1.bo, .int .i64 e1.va, .int .i64 e1.ki, .int .i64 e1.au, .int .i64 e1.pe, .string e1.ke, .string e1.tx, .slice (some ⟨bl, ol, none⟩) e1.lg.length e1.lk, .int .u64 e1.ch] 39)
    (fun i _ => e1.lg.length - (intOf i).toNat)
   case atStart => exact ⟨0, Nat.zero_le _, rfl, hJ2, hK2, kx⟩
   case round =>
    clear hJ2 hK2 kx
    obtain ⟨k2, hk2, rfl, hJs, hkc, kx⟩ := hrel
    by_cases hlt2 : k2 < e1.lg.length
    ·have hml := hkc.range hblg (HL.out k2 hlt2)
     have hyes := mvs_yes (acc := acc) hlt2
     have hno := mvs_no (acc := acc) hlt2
     have hpl : (mvs (e1.lg.take k2) acc).length < e1.lg.length := by
      have := mvs_len (e1.lg.take k2) acc
      rw [List.length_take] at this
      omega
     obtain ⟨x, hxx⟩ : ∃ x, x = e1.lg[k2]! := ⟨_, rfl⟩
     rw [← hxx] at hml hyes hno
     clear hxx
     have m0 : wr.cell? ⟨bl, ol + k2 * 3, none⟩ = some (.int .i64 x.ac) := hml 0 _ rfl
     have m1 : wr.cell? ⟨bl, ol + k2 * 3 + 1, none⟩ = some (.int .i64 x.am) := hml 1 _ rfl
     have m2 : wr.cell? ⟨bl, ol + k2 * 3 + 2, none⟩ = some (.string x.cu) := hml 2 _ rfl
     have hba := hkc.cell hBag hBa
     clear hml
     have hlgv : e1.lg.length ≤ 100000 := hlen
     have cx : Below wr.heap.size wr (wr.alloc (.cells #[.int .i64 x.ac, .int .i64 x.am, .string x.cu] 50)) := Bk.be
     have hJ3 := HJ.out _ _ _ none hJs (grown_of_below cx) (fun r e => by cases e)
     have hK3 := hkc.trans (Kc.below (g := g) cx)
     have kx3 : Bk.Blk (wr.alloc (.cells #[.int .i64 x.ac, .int .i64 x.am, .string x.cu] 50)) ge #[.int .i64 e1.id, .int .i64 e1.bo, .int .i64 e1.va, .int .i64 e1.ki, .int .i64 e1.au, .int .i64 e1.pe, .string e1.ke, .string e1.tx, .slice (some ⟨bl, ol, none⟩) e1.lg.length e1.lk, .int .u64 e1.ch] 39 := Bk.Blk.alloc kx 
     have hY3 := hY _ x.am _ hJ3 hpl
     have hba3 := (World.cell?_alloc_some wr ⟨Ba, 0, none⟩ (.cells #[.int .i64 x.ac, .int .i64 x.am, .string x.cu] 50) (by rw [hba]; rfl)).trans hba
     by_cases hx : x.ac = acc
     ·have hyy := hyes (by simp [hx])
      rw [hx] at m0 hJ3 hK3 kx3 hY3 hba3
      obtain ⟨fn, tmps, assign, body, hy, hR⟩ := hY3
      have q0 := kx3.c0
      have q1 := kx3.c1
      have q2 := kx3.c2
      have q3 := kx3.c3
      have q4 := kx3.c4
      have q5 := kx3.c5
      have q6 := kx3.c6
      have q7 := kx3.c7
      have q8 := kx3.c8
      have q9 := kx3.c9
      gi_wp2
      refine hR.mono ?_
      rintro e W3 (⟨rfl, hJ4, hk4⟩ | ⟨rfl, hJx4⟩)
      ·gi_wp2
       go_roundw
       case rel => exact ⟨k2 + 1, by omega, by simp, by rw [hyy]; exact hJ4, hK3.trans hk4, hk4.2 ge _ _ _ (Nat.ne_of_gt hgr) kx3⟩
       case measure => simp [intOf]; omega
      ·gi_wp2
       refine bodyPost_ret (results_none rfl _ _ _) rfl ?_
       exact ⟨⟨_, rfl⟩, .inr ⟨_, trivial, hJx4⟩⟩
     ·have hnn := hno (by simp [hx])
      clear hY3
      have hxb : (x.ac == acc) = false := by simp [hx]
      gi_wp2
      refine ⟨fun _ h => (by cases h), ?_⟩
      gi_wp2
      go_roundw
      case rel => exact ⟨k2 + 1, by omega, by simp, by rw [hnn]; exact hJ3, hK3, kx3⟩
      case measure => simp [intOf]; omega
    ·obtain rfl : k2 = e1.lg.length := by omega
     gi_wp2
     go_roundw
     case rel => exact ⟨1, by omega, by simp, by rw [List.take_length] at hJs; exact hJs, hkc⟩
     case measure => simp [intOf]
  ·obtain rfl : k = 1 := by omega
   gi_wp2
   go_end0
   exact ⟨⟨_, rfl⟩, .inl ⟨_, rfl, hJs⟩⟩
theorem movs_in (F : Fence) (n : Nat) (hf : F.fn 28) (hro : F.round = none) (a : Option Addr) (len cap : Nat) (acc : Int) (w : World) :
  CallsIn F n Tryz.prog 28 #[.slice a len cap, .int .i64 acc] w fun e w' => e = .returned (.func (.func 63) #[] #[.pointer (some ⟨w.heap.size, 0, none⟩), .pointer (some ⟨w.heap.size + 1, 0, none⟩)]) ∧ w' = (w.alloc (.cells #[.slice a len cap] 29)).alloc (.cells #[.int .i64 acc] 3) := by
 refine callsIn_of_wp Tryz.func28 rfl hf ?_ hro
 simp only [Tryz.ntmps28, List.size_toArray, List.length_cons, List.length_nil, Nat.reduceAdd, Nat.reduceSub, Array.replicate_succ, Array.replicate_zero, List.push_toArray, List.append_toArray, List.nil_append, List.cons_append]
 gi_wp2
 go_ret
 exact ⟨by simp, rfl⟩
def ofv (l : List Int) : Int := l.foldl (fun s v => wrap64 (s - v)) 0
theorem ofv_snoc (pre : List Int) (x : Int) : ofv (pre ++ [x]) = wrap64 (ofv pre - x) := by simp [ofv]
theorem of_any (w : World) (bj oj jk bl ol : Nat) (e1 : En) (acc : Int) (he : w.rangeAt bj oj (enenc e1)) (hla : e1.la = some ⟨bl, ol, none⟩) (hl : ∀ j, j < e1.lg.length → w.rangeAt bl (ol + j * 3) (lgenc e1.lg[j]!)) (hlen : e1.lg.length ≤ 100000) (hbj : bj < w.heap.size) (hbl : bl < w.heap.size) :
  Calls Tryz.prog 11 #[.slice (some ⟨bj, oj, none⟩) 1 jk, .int .i64 acc] w fun e w' => e = .returned (.int .i64 (ofv (mvs e1.lg acc))) ∧ Below w.heap.size w w' := by
 refine (callsIn_wide (n := 7)).1 ?_
 have HE := Lib.hid he
 have HL := Lib.hid hl
 clear he hl
 refine callsIn_of_wp_marks Tryz.func11 rfl trivial ?_ rfl
 simp only [Tryz.ntmps11, List.size_toArray, List.length_cons, List.length_nil, Nat.reduceAdd, Nat.reduceSub, Array.replicate_succ, Array.replicate_zero, List.push_toArray, List.append_toArray, List.nil_append, List.cons_append]
 gi_wp2_with (refine ⟨trivial, ?_⟩; gi_at_call 28; refine (movs_in Fence.wide _ trivial rfl _ _ _ _ _).mono ?_; rintro e w' ⟨rfl, rfl⟩)
 have hs := cell_new_l w (.int .i64 0) 3
 have c1 := cell_new_l (w.alloc (.cells #[.int .i64 0] 3)) (.slice (some ⟨bj, oj, none⟩) 1 jk) 29
 have c2 := cell_new_l ((w.alloc (.cells #[.int .i64 0] 3)).alloc (.cells #[.slice (some ⟨bj, oj, none⟩) 1 jk] 29)) (.int .i64 acc) 3
 simp only [World.size_alloc] at c1 c2
 have hB0 : Below w.heap.size w (((w.alloc (.cells #[.int .i64 0] 3)).alloc (.cells #[.slice (some ⟨bj, oj, none⟩) 1 jk] 29)).alloc (.cells #[.int .i64 acc] 3)) := (((Below.refl _ w).alloc (Nat.le_refl _) _).alloc (by simp) _).alloc (by simp; omega) _
 refine wpIn_rangeFunc_ownF rfl (by decide) (gf := 63) (lb := #[.pointer (some ⟨w.heap.size + 1, 0, none⟩), .pointer (some ⟨w.heap.size + 1 + 1, 0, none⟩)]) rfl trivial (enters_of Tryz.func63 (by kernel_rfl) rfl)
  (encs := fun x : Int => #[.agg #[.int .i64 e1.id, .int .i64 e1.bo, .int .i64 e1.va, .int .i64 e1.ki, .int .i64 e1.au, .int .i64 e1.pe, .string e1.ke, .string e1.tx, .slice (some ⟨bl, ol, none⟩) e1.lg.length e1.lk, .int .u64 e1.ch], .int .i64 x]) (Kp := Kc w.heap.size) (S := fun ys => ys = mvs e1.lg acc) (Sp := fun _ => True) (N := e1.lg.length)
  (w0 := ((w.alloc (.cells #[.int .i64 0] 3)).alloc (.cells #[.slice (some ⟨bj, oj, none⟩) 1 jk] 29)).alloc (.cells #[.int .i64 acc] 3))
  ?seq Kc.trans (fun W l o o' _ h hc _ => Kc.put W l o o' h hc) (Below.refl _ _) (fun _ => rfl)
  (fun pre W => (W.cell? ⟨w.heap.size, 0, none⟩ = some (.int .i64 (ofv pre)) ∧ W.frozen? ⟨w.heap.size, 0, none⟩ = false) ∧ Below w.heap.size w W)
  (fun _ _ _ => False)
  (OwnFrom.and (Own.from (fun s A B row hs hg hr => ⟨cell_kept hs.1 hg hr, (frozen_kept hs.1 hg hr).trans hs.2⟩) _) (ownFrom_below (Nat.le_refl _) (by simp; omega)))
  (fun _ _ _ _ _ hs _ _ => hs)
  ⟨⟨cell_alloc_l _ (cell_alloc_l _ hs.1), frozen_alloc_l _ (cell_alloc_l _ hs.1) (frozen_alloc_l _ hs.1 hs.2)⟩, hB0⟩
  (fun x => { tmps := #[.slice (some ⟨bj, oj, none⟩) 1 jk, .int .i64 acc, undef, undef, .int .i64 0, .pointer (some ⟨w.heap.size, 0, none⟩), undef, .int .i64 x, .slice (some ⟨bj, oj, none⟩) 1 jk, .int .i64 acc, .func (.func 63) #[] #[.pointer (some ⟨w.heap.size + 1, 0, none⟩), .pointer (some ⟨w.heap.size + 1 + 1, 0, none⟩)], .agg #[.int .i64 e1.id, .int .i64 e1.bo, .int .i64 e1.va, .int .i64 e1.ki, .int .i64 e1.au, .int .i64 e1.pe, .string e1.ke, .string e1.tx, .slice (some ⟨bl, ol, none⟩) e1.lg.length e1.lk, .int .u64 e1.ch], .int .i64 x, undef, undef, undef, undef], defers := [] }) ?assign ?body ?done ?stop
 case seq =>
  intro l J Jx W hW hJ hJx hY h0
  have hW' : Below w.heap.size w W := hB0.trans (hW.mono hB0.size)
  have hsz := hW.size
  simp only [World.size_alloc] at hsz
  exact mov1_in Fence.wide _ trivial rfl (by decide) l (w.heap.size + 1) (w.heap.size + 1 + 1) w.heap.size bj oj jk bl ol e1 acc (by omega) (by omega) (by omega) (by omega) J Jx W (by omega) hJ hY
   ((hW.cell (p := ⟨w.heap.size + 1, 0, none⟩) (by simp only [World.size_alloc]; omega)).trans (cell_alloc_l _ c1.1))
   ((hW.cell (p := ⟨w.heap.size + 1 + 1, 0, none⟩) (by simp only [World.size_alloc]; omega)).trans c2.1)
   (fun j v hv => (hW'.cell (p := ⟨bj, oj + j, none⟩) hbj).trans (HE.out j v hv)) hla
   (fun k hk j v hv => (hW'.cell (p := ⟨bl, ol + k * 3 + j, none⟩) hbl).trans (HL.out k hk j v hv)) hlen h0
 case assign =>
  intro l x W K hK
  gi_wp2
  exact hK
 case body =>
  rintro l pre x W ⟨⟨hc, hf⟩, hB⟩ _
  gi_wp2
  exact ⟨KeepsOthers.setCell _ _ _, Kc.set W 0 _, ⟨by rw [ofv_snoc]; exact World.cell?_setCell_same' _ _ _ (by rw [hc]; rfl), by rw [World.frozen?_setCell]; exact hf⟩, hB.setCell (p := ⟨w.heap.size, 0, none⟩) (Nat.le_refl _) _⟩
 case done =>
  rintro D ys W hD rfl ⟨⟨hc, _⟩, hB⟩ hK
  gi_wp2
  refine ⟨by simp, .inl ⟨_, _, rfl, run_takeDeferred hK, ?_⟩⟩
  exact ⟨_, results_tmp rfl _ _ _, rfl, hB.trans (belowK_b (w := w) (Nat.le_refl _) W D _ _ (by simp at hD; omega) hK rfl rfl)⟩
 case stop =>
  rintro D c pre W _ _ h _
  exact h.elim
end Go.Proofs.YtjhpiclnpmdjnaaGreatDoor.Bm
namespace Go.Proofs.YtjhpiclnpmdjnaaGreatDoor.Bm
open Go Go.RowKit
open Go.Proofs.YtjhpiclnpmdjnaaGreatDoor
open Go.Proofs.YtjhpiclnpmdjnaaGreatDoor.Ln (flat flat_len flat_get flat_mem RowIn OwnR Idx bl2 results2_cell Blk_setRow_same Blk_setRow_ne Below_setRow)
set_option linter.unusedSimpArgs false
set_option linter.unusedVariables false
set_option maxRecDepth 100000

theorem of_row (a : Option Addr) (cap : Nat) (e1 : En) (acc : Int) (w : World) (h : RowIn enenc w a [e1]) (hl : RowIn lgenc w e1.la e1.lg) (h0 : 0 < e1.lg.length) (hlen : e1.lg.length ≤ 100000) :
  Calls Tryz.prog 11 #[.slice a 1 cap, .int .i64 acc] w fun e w' => e = .returned (.int .i64 (ofv (mvs e1.lg acc))) ∧ Below w.heap.size w w' := by
 obtain ⟨bj, oj, rfl, hc⟩ := rowat enenc_len h (by simp)
 obtain ⟨bl, ol, hla, hcl⟩ := rowat lgenc_len hl h0
 have he : w.rangeAt bj oj (enenc e1) := by
  have := hc 0 (by simp)
  simpa using this
 have b1 : bj < w.heap.size := World.block_lt_of_cell? w ⟨bj, oj + 0, none⟩ (he 0 _ rfl)
 have b2 : bl < w.heap.size := World.block_lt_of_cell? w ⟨bl, ol + 0 * 3 + 0, none⟩ (hcl 0 h0 0 _ rfl)
 exact of_any w bj oj cap bl ol e1 acc he hla hcl hlen b1 b2
set_option maxHeartbeats 8000000 in
theorem prod_ok (B : Bo) (id d : Int) (w : World) (h : BoIn w B) (ho : aO B id = true) :
  Calls Tryz.prog 64 #[(.agg #[.slice (B).ua (B).us.length (B).uk, .slice (B).ka (B).kn (B).kk, .slice (B).ga (B).gs.length (B).gk, .int .i64 ((B).pl).p0, .int .i64 ((B).pl).p1, .int .i64 ((B).pl).p2, .int .i64 ((B).pl).p3, .int .i64 ((B).pl).p4, .int .i64 ((B).pl).p5, .int .i64 ((B).pl).p6, .int .i64 ((B).pl).p7, .int .i64 ((B).pl).p8, .int .i64 ((B).pl).p9, .int .i64 ((B).pl).p10, .int .i64 ((B).pl).p11, .int .i64 ((B).pl).p12, .int .i64 ((B).pl).p13, .slice (B).pa (B).ps.length (B).pk, .slice (B).aa (B).as.length (B).ak, .slice (B).ja (B).js.length (B).jk, .slice (B).ha (B).hn (B).hk, .slice (B).ba (B).bn (B).bk]), .int .i64 id, .int .i64 d] w fun e w' => e = .returned (.tuple #[(.agg #[.string ((atP B.ps (aF B id).pr d)).nm, .string ((atP B.ps (aF B id).pr d)).cu, .string ((atP B.ps (aF B id).pr d)).ca, .int .i64 ((atP B.ps (aF B id).pr d)).fr, .int .i64 ((atP B.ps (aF B id).pr d)).ev, .int .i64 ((atP B.ps (aF B id).pr d)).ov, .int .i64 ((atP B.ps (aF B id).pr d)).tx, .slice (((atP B.ps (aF B id).pr d)).ci).ta (((atP B.ps (aF B id).pr d)).ci).tn (((atP B.ps (aF B id).pr d)).ci).tk, .bool (((atP B.ps (aF B id).pr d)).ci).mg, .int .i64 (((atP B.ps (aF B id).pr d)).ci).ba, .int .i64 (((atP B.ps (aF B id).pr d)).ci).mo, .bool (((atP B.ps (aF B id).pr d)).ci).kp, .slice (((atP B.ps (aF B id).pr d)).di).ta (((atP B.ps (aF B id).pr d)).di).tn (((atP B.ps (aF B id).pr d)).di).tk, .bool (((atP B.ps (aF B id).pr d)).di).mg, .int .i64 (((atP B.ps (aF B id).pr d)).di).ba, .int .i64 (((atP B.ps (aF B id).pr d)).di).mo, .bool (((atP B.ps (aF B id).pr d)).di).kp, .slice ((atP B.ps (aF B id).pr d)).fa ((atP B.ps (aF B id).pr d)).fn ((atP B.ps (aF B id).pr d)).fk, .slice ((atP B.ps (aF B id).pr d)).ra ((atP B.ps (aF B id).pr d)).rn ((atP B.ps (aF B id).pr d)).rk]), .bool (atB B.ps (aF B id).pr d)]) ∧ Below w.heap.size w w' := by
 have cw : Below w.heap.size w ((w.alloc (.cells #[.slice (B).ua (B).us.length (B).uk, .slice (B).ka (B).kn (B).kk, .slice (B).ga (B).gs.length (B).gk, .int .i64 ((B).pl).p0, .int .i64 ((B).pl).p1, .int .i64 ((B).pl).p2, .int .i64 ((B).pl).p3, .int .i64 ((B).pl).p4, .int .i64 ((B).pl).p5, .int .i64 ((B).pl).p6, .int .i64 ((B).pl).p7, .int .i64 ((B).pl).p8, .int .i64 ((B).pl).p9, .int .i64 ((B).pl).p10, .int .i64 ((B).pl).p11, .int .i64 ((B).pl).p12, .int .i64 ((B).pl).p13, .slice (B).pa (B).ps.length (B).pk, .slice (B).aa (B).as.length (B).ak, .slice (B).ja (B).js.length (B).jk, .slice (B).ha (B).hn (B).hk, .slice (B).ba (B).bn (B).bk] 33)).alloc (.cells #[.string { data := #[] }, .string { data := #[] }, .string { data := #[] }, .int .i64 0, .int .i64 0, .int .i64 0, .int .i64 0, .slice none 0 0, .bool false, .int .i64 0, .int .i64 0, .bool false, .slice none 0 0, .bool false, .int .i64 0, .int .i64 0, .bool false, .slice none 0 0, .slice none 0 0] 73)) := Bk.be
 have kb : Bk.Blk ((w.alloc (.cells #[.slice (B).ua (B).us.length (B).uk, .slice (B).ka (B).kn (B).kk, .slice (B).ga (B).gs.length (B).gk, .int .i64 ((B).pl).p0, .int .i64 ((B).pl).p1, .int .i64 ((B).pl).p2, .int .i64 ((B).pl).p3, .int .i64 ((B).pl).p4, .int .i64 ((B).pl).p5, .int .i64 ((B).pl).p6, .int .i64 ((B).pl).p7, .int .i64 ((B).pl).p8, .int .i64 ((B).pl).p9, .int .i64 ((B).pl).p10, .int .i64 ((B).pl).p11, .int .i64 ((B).pl).p12, .int .i64 ((B).pl).p13, .slice (B).pa (B).ps.length (B).pk, .slice (B).aa (B).as.length (B).ak, .slice (B).ja (B).js.length (B).jk, .slice (B).ha (B).hn (B).hk, .slice (B).ba (B).bn (B).bk] 33)).alloc (.cells #[.string { data := #[] }, .string { data := #[] }, .string { data := #[] }, .int .i64 0, .int .i64 0, .int .i64 0, .int .i64 0, .slice none 0 0, .bool false, .int .i64 0, .int .i64 0, .bool false, .slice none 0 0, .bool false, .int .i64 0, .int .i64 0, .bool false, .slice none 0 0, .slice none 0 0] 73)) w.heap.size _ 33 := Bk.Blk.nw20
 have kz : Bk.Blk ((w.alloc (.cells #[.slice (B).ua (B).us.length (B).uk, .slice (B).ka (B).kn (B).kk, .slice (B).ga (B).gs.length (B).gk, .int .i64 ((B).pl).p0, .int .i64 ((B).pl).p1, .int .i64 ((B).pl).p2, .int .i64 ((B).pl).p3, .int .i64 ((B).pl).p4, .int .i64 ((B).pl).p5, .int .i64 ((B).pl).p6, .int .i64 ((B).pl).p7, .int .i64 ((B).pl).p8, .int .i64 ((B).pl).p9, .int .i64 ((B).pl).p10, .int .i64 ((B).pl).p11, .int .i64 ((B).pl).p12, .int .i64 ((B).pl).p13, .slice (B).pa (B).ps.length (B).pk, .slice (B).aa (B).as.length (B).ak, .slice (B).ja (B).js.length (B).jk, .slice (B).ha (B).hn (B).hk, .slice (B).ba (B).bn (B).bk] 33)).alloc (.cells #[.string { data := #[] }, .string { data := #[] }, .string { data := #[] }, .int .i64 0, .int .i64 0, .int .i64 0, .int .i64 0, .slice none 0 0, .bool false, .int .i64 0, .int .i64 0, .bool false, .slice none 0 0, .bool false, .int .i64 0, .int .i64 0, .bool false, .slice none 0 0, .slice none 0 0] 73)) (w.heap.size + 1) _ 73 := Bk.Blk.nw21
 have hr := h.later cw
 have HN := Lib.hid h.n
 clear h
 go_enter Tryz.func64, Tryz.ntmps64
 go_upto_region 1 with fail
 generalize ((w.alloc (.cells _ 33)).alloc (.cells _ 73)) = w1 at *
 go_wp2_with ((refine wpList_load_row rfl 33 _ rfl _ rfl _ _ _ _ (kb) Tryz.underlying33 rfl (by kernel_rfl) ?_))
 refine (afind_any B id _ HN.out.2.2.2.1 hr.a).mono ?_
 rintro e w2 ⟨rfl, hb⟩
 replace kb := kb.later hb
 replace kz := kz.later hb
 replace hr := hr.later hb
 have c2 := bl2 hb cw
 clear hb cw
 rw [ho]
 clear ho
 obtain ⟨a, ha⟩ : ∃ a, a = aF B id := ⟨_, rfl⟩
 rw [← ha]
 have HA := Lib.hid ha
 clear ha
 have cx : Below w2.heap.size w2 (w2.alloc (.cells #[.int .i64 (a).id, .int .i64 (a).op, .int .i64 (a).cl, .int .i64 (a).ex, .string (a).ow, .string (a).pr, .string (a).nu] 76)) := Bk.be
 have ka : Bk.Blk (w2.alloc (.cells #[.int .i64 (a).id, .int .i64 (a).op, .int .i64 (a).cl, .int .i64 (a).ex, .string (a).ow, .string (a).pr, .string (a).nu] 76)) w2.heap.size _ 76 := Bk.Blk.nw10
 have c3 := bl2 cx c2
 have hr3 := hr.later cx
 have kz3 := kz.later cx
 have kb3 := kb.later cx
 go_upto_region 2 with fail
 generalize w2.alloc (.cells _ 76) = w3 at *
 clear cx hr kz kb c2
 have l17 := kb3.c17
 have a5 := ka.c5
 go_wp2_with fail
 refine (at_any B.pa B.pk B.ps a.pr d _ HN.out.2.2.1 hr3.p).mono ?_
 rintro e w4 ⟨rfl, hb⟩
 replace kz3 := kz3.later hb
 have c4 := bl2 hb c3
 clear hb c3 kb3 ka hr3 l17 a5
 go_wp2_with ((refine wpList_store_row rfl 73 _ _ rfl _ _ rfl rfl _ _ (kz3) (by kernel_rfl) rfl (by simp [Value.oneCell']) ?_))
 (try simp only [Exit.inBlock, Exit.then])
 refine bodyPost_ret (results2_cell Tryz.results64 _ _ _ _ _ _ _ rfl (Blk_setRow_same kz3) Tryz.underlying73 rfl (by kernel_rfl)) rfl ?_
 exact ⟨by rw [← HA.out]; rfl, Below_setRow c4 (by omega) _⟩
set_option maxHeartbeats 8000000 in
theorem floor_ok (B : Bo) (id d : Int) (w : World) (h : BoIn w B) (ho : aO B id = true) (hp : atB B.ps (aF B id).pr d = true) (hov : 0 ≤ (atP B.ps (aF B id).pr d).ov ∧ (atP B.ps (aF B id).pr d).ov ≤ 1000000000000000) (hex : 0 ≤ (aF B id).ex ∧ (aF B id).ex ≤ 1000000000000000) :
  Calls Tryz.prog 29 #[(.agg #[.slice (B).ua (B).us.length (B).uk, .slice (B).ka (B).kn (B).kk, .slice (B).ga (B).gs.length (B).gk, .int .i64 ((B).pl).p0, .int .i64 ((B).pl).p1, .int .i64 ((B).pl).p2, .int .i64 ((B).pl).p3, .int .i64 ((B).pl).p4, .int .i64 ((B).pl).p5, .int .i64 ((B).pl).p6, .int .i64 ((B).pl).p7, .int .i64 ((B).pl).p8, .int .i64 ((B).pl).p9, .int .i64 ((B).pl).p10, .int .i64 ((B).pl).p11, .int .i64 ((B).pl).p12, .int .i64 ((B).pl).p13, .slice (B).pa (B).ps.length (B).pk, .slice (B).aa (B).as.length (B).ak, .slice (B).ja (B).js.length (B).jk, .slice (B).ha (B).hn (B).hk, .slice (B).ba (B).bn (B).bk]), .int .i64 id, .int .i64 d] w fun e w' => e = .returned (.tuple #[.int .i64 (-((atP B.ps (aF B id).pr d).ov + (aF B id).ex)), .int .i64 0]) ∧ Below w.heap.size w w' := by
 have cw : Below w.heap.size w (w.alloc (.cells #[.slice (B).ua (B).us.length (B).uk, .slice (B).ka (B).kn (B).kk, .slice (B).ga (B).gs.length (B).gk, .int .i64 ((B).pl).p0, .int .i64 ((B).pl).p1, .int .i64 ((B).pl).p2, .int .i64 ((B).pl).p3, .int .i64 ((B).pl).p4, .int .i64 ((B).pl).p5, .int .i64 ((B).pl).p6, .int .i64 ((B).pl).p7, .int .i64 ((B).pl).p8, .int .i64 ((B).pl).p9, .int .i64 ((B).pl).p10, .int .i64 ((B).pl).p11, .int .i64 ((B).pl).p12, .int .i64 ((B).pl).p13, .slice (B).pa (B).ps.length (B).pk, .slice (B).aa (B).as.length (B).ak, .slice (B).ja (B).js.length (B).jk, .slice (B).ha (B).hn (B).hk, .slice (B).ba (B).bn (B).bk] 33)) := Bk.be
 have kb : Bk.Blk (w.alloc (.cells #[.slice (B).ua (B).us.length (B).uk, .slice (B).ka (B).kn (B).kk, .slice (B).ga (B).gs.length (B).gk, .int .i64 ((B).pl).p0, .int .i64 ((B).pl).p1, .int .i64 ((B).pl).p2, .int .i64 ((B).pl).p3, .int .i64 ((B).pl).p4, .int .i64 ((B).pl).p5, .int .i64 ((B).pl).p6, .int .i64 ((B).pl).p7, .int .i64 ((B).pl).p8, .int .i64 ((B).pl).p9, .int .i64 ((B).pl).p10, .int .i64 ((B).pl).p11, .int .i64 ((B).pl).p12, .int .i64 ((B).pl).p13, .slice (B).pa (B).ps.length (B).pk, .slice (B).aa (B).as.length (B).ak, .slice (B).ja (B).js.length (B).jk, .slice (B).ha (B).hn (B).hk, .slice (B).ba (B).bn (B).bk] 33)) w.heap.size _ 33 := Bk.Blk.nw10
 have hr := h.later cw
 have HN := Lib.hid h.n
 clear h
 go_enter Tryz.func29, Tryz.ntmps29
 go_upto_region 1 with fail
 generalize (w.alloc (.cells _ 33)) = w1 at *
 go_wp2_with ((refine wpList_load_row rfl 33 _ rfl _ rfl _ _ _ _ (kb) Tryz.underlying33 rfl (by kernel_rfl) ?_))
 refine (afind_any B id _ HN.out.2.2.2.1 hr.a).mono ?_
 rintro e w2 ⟨rfl, hb⟩
 replace kb := kb.later hb
 replace hr := hr.later hb
 have c2 := bl2 hb cw
 clear hb cw
 have HO := Lib.hid ho
 rw [ho]
 clear ho
 obtain ⟨a, ha⟩ : ∃ a, a = aF B id := ⟨_, rfl⟩
 have HA := Lib.hid ha
 rw [← ha] at hp hov hex ⊢
 clear ha
 have cx : Below w2.heap.size w2 (w2.alloc (.cells #[.int .i64 (a).id, .int .i64 (a).op, .int .i64 (a).cl, .int .i64 (a).ex, .string (a).ow, .string (a).pr, .string (a).nu] 76)) := Bk.be
 have ka : Bk.Blk (w2.alloc (.cells #[.int .i64 (a).id, .int .i64 (a).op, .int .i64 (a).cl, .int .i64 (a).ex, .string (a).ow, .string (a).pr, .string (a).nu] 76)) w2.heap.size _ 76 := Bk.Blk.nw10
 have c3 := bl2 cx c2
 have hr3 := hr.later cx
 have kb3 := kb.later cx
 go_upto_region 2 with fail
 generalize w2.alloc (.cells _ 76) = w3 at *
 clear cx hr kb c2
 go_wp2_with ((refine wpList_load_row rfl 33 _ rfl _ rfl _ _ _ _ (kb3) Tryz.underlying33 rfl (by kernel_rfl) ?_))
 refine (prod_ok B id d _ hr3 HO.out).mono ?_
 rintro e w4 ⟨rfl, hb⟩
 replace ka := ka.later hb
 have c4 := bl2 hb c3
 clear hb c3 kb3 hr3
 rw [← HA.out, hp]
 clear hp
 obtain ⟨p, hpp⟩ : ∃ p, p = atP B.ps a.pr d := ⟨_, rfl⟩
 rw [← hpp] at hov ⊢
 have HP := Lib.hid hpp
 clear hpp
 go_upto_region 3 with ((refine wpList_store_row rfl 73 _ _ rfl _ _ rfl rfl _ _ (Bk.Blk.nw10) (by kernel_rfl) rfl (by simp [Value.oneCell']) ?_))
 have kp : Bk.Blk ((w4.alloc (.cells #[.string { data := #[] }, .string { data := #[] }, .string { data := #[] }, .int .i64 0, .int .i64 0, .int .i64 0, .int .i64 0, .slice none 0 0, .bool false, .int .i64 0, .int .i64 0, .bool false, .slice none 0 0, .bool false, .int .i64 0, .int .i64 0, .bool false, .slice none 0 0, .slice none 0 0] 73)).setRow w4.heap.size #[.string (p).nm, .string (p).cu, .string (p).ca, .int .i64 (p).fr, .int .i64 (p).ev, .int .i64 (p).ov, .int .i64 (p).tx, .slice ((p).ci).ta ((p).ci).tn ((p).ci).tk, .bool ((p).ci).mg, .int .i64 ((p).ci).ba, .int .i64 ((p).ci).mo, .bool ((p).ci).kp, .slice ((p).di).ta ((p).di).tn ((p).di).tk, .bool ((p).di).mg, .int .i64 ((p).di).ba, .int .i64 ((p).di).mo, .bool ((p).di).kp, .slice (p).fa (p).fn (p).fk, .slice (p).ra (p).rn (p).rk]) w4.heap.size _ 73 := Blk_setRow_same Bk.Blk.nw10
 have z4 := ka.lt
 have ka5 : Bk.Blk ((w4.alloc (.cells #[.string { data := #[] }, .string { data := #[] }, .string { data := #[] }, .int .i64 0, .int .i64 0, .int .i64 0, .int .i64 0, .slice none 0 0, .bool false, .int .i64 0, .int .i64 0, .bool false, .slice none 0 0, .bool false, .int .i64 0, .int .i64 0, .bool false, .slice none 0 0, .slice none 0 0] 73)).setRow w4.heap.size #[.string (p).nm, .string (p).cu, .string (p).ca, .int .i64 (p).fr, .int .i64 (p).ev, .int .i64 (p).ov, .int .i64 (p).tx, .slice ((p).ci).ta ((p).ci).tn ((p).ci).tk, .bool ((p).ci).mg, .int .i64 ((p).ci).ba, .int .i64 ((p).ci).mo, .bool ((p).ci).kp, .slice ((p).di).ta ((p).di).tn ((p).di).tk, .bool ((p).di).mg, .int .i64 ((p).di).ba, .int .i64 ((p).di).mo, .bool ((p).di).kp, .slice (p).fa (p).fn (p).fk, .slice (p).ra (p).rn (p).rk]) w2.heap.size _ 76 := Blk_setRow_ne (Bk.Blk.alloc ka) (by omega)
 have c5 : Below w.heap.size w ((w4.alloc (.cells #[.string { data := #[] }, .string { data := #[] }, .string { data := #[] }, .int .i64 0, .int .i64 0, .int .i64 0, .int .i64 0, .slice none 0 0, .bool false, .int .i64 0, .int .i64 0, .bool false, .slice none 0 0, .bool false, .int .i64 0, .int .i64 0, .bool false, .slice none 0 0, .slice none 0 0] 73)).setRow w4.heap.size #[.string (p).nm, .string (p).cu, .string (p).ca, .int .i64 (p).fr, .int .i64 (p).ev, .int .i64 (p).ov, .int .i64 (p).tx, .slice ((p).ci).ta ((p).ci).tn ((p).ci).tk, .bool ((p).ci).mg, .int .i64 ((p).ci).ba, .int .i64 ((p).ci).mo, .bool ((p).ci).kp, .slice ((p).di).ta ((p).di).tn ((p).di).tk, .bool ((p).di).mg, .int .i64 ((p).di).ba, .int .i64 ((p).di).mo, .bool ((p).di).kp, .slice (p).fa (p).fn (p).fk, .slice (p).ra (p).rn (p).rk]) := Below_setRow (c4.alloc (Below.size c4) _) (Below.size c4) _
 generalize ((w4.alloc (.cells _ 73)).setRow w4.heap.size _) = w5 at *
 clear c4 ka
 have p5 := kp.c5
 have a3 := ka5.c3
 have r1 : wrap64 (p.ov + a.ex) = p.ov + a.ex := by unfold wrap64; omega
 have r2 : wrap64 (-(p.ov + a.ex)) = -(p.ov + a.ex) := by unfold wrap64; omega
 (try simp only [Act.put])
 go_wp2_with fail
 go_ret2
 exact ⟨by rw [← HA.out, ← HP.out]; rfl, c5⟩

set_option maxHeartbeats 1000000 in
theorem safe_ok (B : Bo) (id d : Int) (e1 : En) (w : World) (h : BoIn w B) (HJ : Hid (B.js = [e1])) (HL : Hid (RowIn lgenc w e1.la e1.lg)) (H0 : Hid (0 < e1.lg.length ∧ e1.lg.length ≤ 100000)) (ho : aO B id = true) (hp : atB B.ps (aF B id).pr d = true) (hov : 0 ≤ (atP B.ps (aF B id).pr d).ov ∧ (atP B.ps (aF B id).pr d).ov ≤ 1000000000000000) (hex : 0 ≤ (aF B id).ex ∧ (aF B id).ex ≤ 1000000000000000)
  (HG : Hid (0 ≤ ofv (mvs e1.lg id))) :
  Calls Tryz.prog 12 #[(.agg #[.slice (B).ua (B).us.length (B).uk, .slice (B).ka (B).kn (B).kk, .slice (B).ga (B).gs.length (B).gk, .int .i64 ((B).pl).p0, .int .i64 ((B).pl).p1, .int .i64 ((B).pl).p2, .int .i64 ((B).pl).p3, .int .i64 ((B).pl).p4, .int .i64 ((B).pl).p5, .int .i64 ((B).pl).p6, .int .i64 ((B).pl).p7, .int .i64 ((B).pl).p8, .int .i64 ((B).pl).p9, .int .i64 ((B).pl).p10, .int .i64 ((B).pl).p11, .int .i64 ((B).pl).p12, .int .i64 ((B).pl).p13, .slice (B).pa (B).ps.length (B).pk, .slice (B).aa (B).as.length (B).ak, .slice (B).ja (B).js.length (B).jk, .slice (B).ha (B).hn (B).hk, .slice (B).ba (B).bn (B).bk]), .int .i64 id, .int .i64 d] w fun e w' => e = .returned (.bool true) ∧ Below w.heap.size w w' := by
 have cw : Below w.heap.size w (w.alloc (.cells #[.slice (B).ua (B).us.length (B).uk, .slice (B).ka (B).kn (B).kk, .slice (B).ga (B).gs.length (B).gk, .int .i64 ((B).pl).p0, .int .i64 ((B).pl).p1, .int .i64 ((B).pl).p2, .int .i64 ((B).pl).p3, .int .i64 ((B).pl).p4, .int .i64 ((B).pl).p5, .int .i64 ((B).pl).p6, .int .i64 ((B).pl).p7, .int .i64 ((B).pl).p8, .int .i64 ((B).pl).p9, .int .i64 ((B).pl).p10, .int .i64 ((B).pl).p11, .int .i64 ((B).pl).p12, .int .i64 ((B).pl).p13, .slice (B).pa (B).ps.length (B).pk, .slice (B).aa (B).as.length (B).ak, .slice (B).ja (B).js.length (B).jk, .slice (B).ha (B).hn (B).hk, .slice (B).ba (B).bn (B).bk] 33)) := Bk.be
 have kb : Bk.Blk (w.alloc (.cells #[.slice (B).ua (B).us.length (B).uk, .slice (B).ka (B).kn (B).kk, .slice (B).ga (B).gs.length (B).gk, .int .i64 ((B).pl).p0, .int .i64 ((B).pl).p1, .int .i64 ((B).pl).p2, .int .i64 ((B).pl).p3, .int .i64 ((B).pl).p4, .int .i64 ((B).pl).p5, .int .i64 ((B).pl).p6, .int .i64 ((B).pl).p7, .int .i64 ((B).pl).p8, .int .i64 ((B).pl).p9, .int .i64 ((B).pl).p10, .int .i64 ((B).pl).p11, .int .i64 ((B).pl).p12, .int .i64 ((B).pl).p13, .slice (B).pa (B).ps.length (B).pk, .slice (B).aa (B).as.length (B).ak, .slice (B).ja (B).js.length (B).jk, .slice (B).ha (B).hn (B).hk, .slice (B).ba (B).bn (B).bk] 33)) w.heap.size _ 33 := Bk.Blk.nw10
 have hr := h.later cw
 replace HL := Lib.hid (HL.out.later cw)
 clear h
 go_enter Tryz.func12, Tryz.ntmps12
 go_upto_region 1 with fail
 generalize (w.alloc (.cells _ 33)) = w1 at *
 have HFL := Lib.hid (floor_ok B id d w1 hr ho hp hov hex)
 obtain ⟨fl, hfl⟩ : ∃ fl, fl = (atP B.ps (aF B id).pr d).ov + (aF B id).ex := ⟨_, rfl⟩
 rw [← hfl] at HFL
 have hf0 : 0 ≤ fl := by omega
 clear ho hp hov hex hfl
 go_wp2_with ((refine wpList_load_row rfl 33 _ rfl _ rfl _ _ _ _ (kb) Tryz.underlying33 rfl (by kernel_rfl) ?_))
 refine HFL.out.mono ?_
 rintro e w2 ⟨rfl, hb⟩
 clear HFL
 replace kb := kb.later hb
 replace hr := hr.later hb
 replace HL := Lib.hid (HL.out.later hb)
 have c2 := bl2 hb cw
 clear hb cw
 have l19 := kb.c19
 rw [HJ.out] at l19
 have HJR : Hid (RowIn enenc w2 B.ja [e1]) := Lib.hid (by rw [← HJ.out]; exact hr.j)
 clear hr HJ
 simp only [List.length_cons, List.length_nil, Nat.zero_add] at l19
 go_wp2_with fail
 refine (of_row B.ja B.jk e1 id _ HJR.out HL.out H0.out.1 H0.out.2).mono ?_
 rintro e w3 ⟨rfl, hb⟩
 have c3 := bl2 hb c2
 have hge := HG.out
 clear hb c2 HJR HL l19 kb HG
 generalize ofv (mvs e1.lg id) = v at *
 have d1 : decide (-fl ≤ v) = true := decide_eq_true (by omega)
 go_wp2_with fail
 go_ret
 exact ⟨rfl, c3⟩
end Go.Proofs.YtjhpiclnpmdjnaaGreatDoor.Bm
