/-
 Branches of a region joined; where the rows of a result lie.
 Short names for steps in a region that draws its order.
-/
import Derived.Test.YtaanicginfjgdaaGreatDoorZl
import Derived.Test.YtaanicginfjgdaaGreatDoorLs1
import Derived.Test.YtaanicginfjgdaaGreatDoorLc
namespace Go.Proofs.YtaanicginfjgdaaGreatDoor.Ln
open Go Go.RowKit
open Go.Proofs.YtaanicginfjgdaaGreatDoor
set_option maxRecDepth 100000

theorem key2_of {G : Prop} {A0 A1 : Type} (Q P : A0 → A1 → Prop) (h1 : (∀ (x0 : A0) (x1 : A1), Q x0 x1 → P x0 x1) → G) (h2 : ∀ (x0 : A0) (x1 : A1), Q x0 x1 → P x0 x1) : G := h1 h2
theorem key8_of {G : Prop} {A0 A1 A2 A3 A4 A5 A6 A7 : Type} (Q P : A0 → A1 → A2 → A3 → A4 → A5 → A6 → A7 → Prop) (h1 : (∀ (x0 : A0) (x1 : A1) (x2 : A2) (x3 : A3) (x4 : A4) (x5 : A5) (x6 : A6) (x7 : A7), Q x0 x1 x2 x3 x4 x5 x6 x7 → P x0 x1 x2 x3 x4 x5 x6 x7) → G) (h2 : ∀ (x0 : A0) (x1 : A1) (x2 : A2) (x3 : A3) (x4 : A4) (x5 : A5) (x6 : A6) (x7 : A7), Q x0 x1 x2 x3 x4 x5 x6 x7 → P x0 x1 x2 x3 x4 x5 x6 x7) : G := h1 h2
theorem key9_of {G : Prop} {A0 A1 A2 A3 A4 A5 A6 A7 A8 : Type} (Q P : A0 → A1 → A2 → A3 → A4 → A5 → A6 → A7 → A8 → Prop) (h1 : (∀ (x0 : A0) (x1 : A1) (x2 : A2) (x3 : A3) (x4 : A4) (x5 : A5) (x6 : A6) (x7 : A7) (x8 : A8), Q x0 x1 x2 x3 x4 x5 x6 x7 x8 → P x0 x1 x2 x3 x4 x5 x6 x7 x8) → G) (h2 : ∀ (x0 : A0) (x1 : A1) (x2 : A2) (x3 : A3) (x4 : A4) (x5 : A5) (x6 : A6) (x7 : A7) (x8 : A8), Q x0 x1 x2 x3 x4 x5 x6 x7 x8 → P x0 x1 x2 x3 x4 x5 x6 x7 x8) : G := h1 h2
theorem dues_lt {W : World} {da : Option Addr} {ds : List Du} (h : DuesIn W da ds) (h0 : 0 < ds.length) : ∀ ad, da = some ad → ad.block < W.heap.size := by
 intro ad had
 obtain ⟨b, off, he, hc⟩ := h.2 h0
 rw [had] at he
 cases he
 exact World.block_lt_of_cell? _ _ (hc 0 h0).1
theorem rowc_lt {W : World} {a : Option Addr} {xs : List Ch} (h : RowIn cenc W a xs) (h0 : 0 < xs.length) : ∀ ad, a = some ad → ad.block < W.heap.size := by
 intro ad had
 obtain ⟨b, off, he, hc⟩ := h.mid cenc_len h0
 rw [had] at he
 cases he
 exact World.block_lt_of_cell? _ _ (hc 0 h0 0 _ rfl)
end Go.Proofs.YtaanicginfjgdaaGreatDoor.Ln

namespace Go.Proofs.YtaanicginfjgdaaGreatDoor.Ln
open Go Go.RowKit
open Go.Proofs.YtaanicginfjgdaaGreatDoor

theorem z0 {α : Type} {a : α} {l : List α} {h : 0 < (a :: l).length} : (a :: l)[0] = a := List.getElem_cons_zero ..
theorem z1 {α : Type} {a : α} {l : List α} {i : Nat} {h : i + 1 < (a :: l).length} : (a :: l)[i + 1] = l[i]'(Nat.lt_of_succ_lt_succ h) := List.getElem_cons_succ ..
theorem z2 (a : Act) (d : Tmp) (v : Value) : a.put (some d) v = { a with tmps := a.tmps.setIfInBounds d v } := rfl
theorem z3 {α : Type} (l : List α) (i : Nat) (a : α) : l.toArray.setIfInBounds i a = (l.set i a).toArray := List.setIfInBounds_toArray ..
theorem z4 {α : Type} (a b : α) (l : List α) : (a :: l).set 0 b = b :: l := List.set_cons_zero
theorem z5 {α : Type} (a b : α) (l : List α) (i : Nat) : (a :: l).set (i + 1) b = a :: l.set i b := List.set_cons_succ
section
variable {P : Program} {l : List Oper} {Q : Exit → Act → World → Prop} {S : World → Prop} {md : Region.Mode} {fuel : Nat} {listed : Array Bool} {a : Act} {w : World}
theorem tk (i : Nat) (hi : i < l.length) (v : Value) (hS : S w) (hs : Region.noSelect l.toArray = true) (hf : Region.free md l.toArray listed i = true) (hr : (Region.ready md l.toArray listed).contains i = true)
  (hw : Region.wanted l[i] (yielded l.toArray a.tmps) = true) (hQ : ∀ c a w, Q (.panic c) (a.put l[i].dst v) w → Q (.panic c) a w)
  (hy : ∀ W, S W → (execOp a.eval l[i]).run P W = .ok (.value v) W) (h : wpAnyH P md l.toArray Q S fuel (listed.setIfInBounds i true) (a.put l[i].dst v) w) : wpAnyH P md l.toArray Q S (fuel + 1) listed a w :=
 take_at i hi hs hf hr hQ hS (.inl ⟨hw, hy⟩) h
theorem ts (i : Nat) (hi : i < l.length) (hS : S w) (hs : Region.noSelect l.toArray = true) (hf : Region.free md l.toArray listed i = true) (hr : (Region.ready md l.toArray listed).contains i = true)
  (hw : Region.wanted l[i] (yielded l.toArray a.tmps) = false) (hQ : ∀ c a w, Q (.panic c) (a.put l[i].dst undef) w → Q (.panic c) a w)
  (h : wpAnyH P md l.toArray Q S fuel (listed.setIfInBounds i true) (a.put l[i].dst undef) w) : wpAnyH P md l.toArray Q S (fuel + 1) listed a w :=
 take_at i hi hs hf hr hQ hS (.inr ⟨hw, rfl⟩) h
end
end Go.Proofs.YtaanicginfjgdaaGreatDoor.Ln
