/-
  A region that draws its order, with a writing tail, where an operation that takes a tuple apart may also come behind the tail's first: that operation is taken ahead (es: pairs (k, t), as in region_alloc). No Go in sight.
-/
import Derived.Test.YtieklkpjlbpnbaaDoorAlc
namespace Go.Proofs.YtieklkpjlbpnbaaDoor.Reg
open Go Go.RowKit
section
variable {P : Program} {C : World → Prop}
theorem any_tail {Q : Exit → Act → World → Prop} {a : Act} {w : World} {l : List Oper} (n : Nat) (hB : Region.lexTailB .any l.toArray n = true) (hC : C w)
    (h : wpQuiet P l.toArray C (fun a' => ∀ w', C w' → wpList P l.toArray Q (l.drop n) a' w') (l.take n) a) : wpAny P .any l.toArray Q l.toArray.size (Array.replicate l.toArray.size false) a w := by
  simp only [Region.lexTailB, Bool.and_eq_true, decide_eq_true_eq] at hB
  obtain ⟨⟨⟨⟨hsel, hn⟩, hs⟩, hc⟩, hlex⟩ := hB
  have hn' : n < l.length := by simpa using hn
  have htl : (l.take n).length = n := by simp; omega
  have hdl : (l.drop n).length = l.toArray.size - n := by simp
  have inv0 : HeadInv .any l.toArray n (Array.replicate l.toArray.size false) :=
    ⟨by simp, fun j oj _ hl => (by rw [getD_replicate_false] at hl; cases hl), fun t _ ht => getD_in (by simpa using ht) (getD_replicate_false _ _)⟩
  have H := wpAnyC_lex (md := .any) (g := l.toArray.size - n) hsel hs hc hn (l.take n) 0 _ a (fun j hj => by
    have hj' : j < n := by rw [htl] at hj; exact hj
    simp [hj']) (by simpa using htl) inv0 (by rw [htl]; exact hlex) h
  have := wpAny_of_headC (Q' := Q) (g := l.toArray.size - n) (fun listed a' w' hw' hL => by
    have := wpAny_of_seq (md := .any) (Q' := Q) (l.drop n) n listed a' w' (fun j => by simp [List.getElem?_drop]) (by rw [hdl]; exact hL.1) (hL.2 w' hw')
    rwa [hdl] at this) _ _ _ _ hC H
  rw [htl, show n + (l.toArray.size - n) = l.toArray.size by omega] at this
  exact this
theorem region_tail_e {id : Nat} {Q : Exit → Act → World → Prop} {a : Act} {w : World} {l : List Oper} (n : Nat) (es : List (Nat × Nat)) (hm : P.follows .mixedOrders = true) (hE : edgesB .any l es = true) (hB : Region.lexTailB .any (edges l es).toArray n = true)
    (hQ : ∀ (d : Option Tmp) v c a w, Q (.panic c) (a.put d v) w → Q (.panic c) a w)
    (h : wpQuiet P (edges l es).toArray (Cls w) (fun a' => ∀ w', Cls w w' → wpList P (edges l es).toArray Q ((edges l es).drop n) a' w') ((edges l es).take n) a) : (Code.region id l.toArray true).wp P Q a w :=
  wp_region_any hm (any_edges hQ es l hE (any_tail n hB (Below.refl _ _).drew h))
end
end Go.Proofs.YtieklkpjlbpnbaaDoor.Reg
