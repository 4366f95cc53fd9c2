/-
  Parts of the proof: Ba.
-/
import Derived.StillTail
import Derived.Deep.Quiet
import Derived.BigQuiet
import Derived.Below
import Derived.WalkSpells
import Derived.WalkKit
namespace Go.Proofs.YtjhpiclnpmdjnaaGreatDoor.Reg
open Go Go.RowKit

section
variable {P : Program} {ops : Array Oper} {C : World → Prop} {a : Act} {o : Oper} {K : Act → Prop}
theorem quiet_run {v : Value} (h : ∀ w, C w → (execOp a.eval o).run P w = .ok (.value v) w) (hk : K (a.put o.dst v)) : o.quiet P a C K :=
  ⟨v, fun w hw => by unfold Oper.quietAt; rw [h w hw]; exact ⟨rfl, rfl⟩, hk⟩
theorem quiet_call {v : Value} {f : FuncId} {args : Array Value} (h : ∀ w, C w → (execOp a.eval o).run P w = .ok (.enter f args) w) (hc : ∀ w, C w → Calls P f args w (fun e w'' => e = .returned v ∧ C w'')) (hk : K (a.put o.dst v)) : o.quiet P a C K :=
  ⟨v, fun w hw => by unfold Oper.quietAt; rw [h w hw]; exact ⟨rfl, hc w hw⟩, hk⟩
end

def Cls (w w' : World) : Prop := Below w.heap.size w w'

section
variable {P : Program} {w w' : World} {f : FuncId} {args : Array Value} {v : Value}
theorem Cls.cell {a : Addr} (h : Cls w w') (hc : w.cell? a = some v) : w'.cell? a = some v := cell_later h hc
theorem region_quiet {id : Nat} {Q : Exit → Act → World → Prop} {a : Act} {l : List Oper} (hm : P.follows .mixedOrders = true) (hB : Region.lexB .any l.toArray = true)
    (h : wpQuiet P l.toArray (Cls w) (fun a' => ∀ w', Cls w w' → Q .normal a' w') l a) : (Code.region id l.toArray true).wp P Q a w :=
  wp_region_quiet (C := Cls w) hm hB (Below.refl _ _).drew (by simpa using h)
end

/-! ### with a tail -/
section
variable {P : Program} {ops : Array Oper} {md : Region.Mode} {C : World → Prop}

def wpAnyC (P : Program) (md : Region.Mode) (ops : Array Oper) (C : World → Prop) (n : Nat) (L : Array Bool → Act → Prop) : Nat → Array Bool → Act → Prop
  | 0, listed, a => L listed a
  | f + 1, listed, a =>
    Region.ready md ops listed ≠ [] ∧ ∀ i ∈ Region.ready md ops listed, i < n ∧ qOp P ops C i (wpAnyC P md ops C n L f (listed.setIfInBounds i true)) a

theorem wpAny_of_headC {n g : Nat} {L : Array Bool → Act → Prop} {Q' : Exit → Act → World → Prop} (hL : ∀ listed a w, C w → L listed a → wpAny P md ops Q' g listed a w) :
    ∀ (f : Nat) (listed : Array Bool) (a : Act) (w : World), C w → wpAnyC P md ops C n L f listed a → wpAny P md ops Q' (f + g) listed a w
  | 0, listed, a, w, hw, h => by rw [Nat.zero_add]; exact hL _ _ _ hw h
  | f + 1, listed, a, w, hw, h => by
    rw [show f + 1 + g = (f + g) + 1 by omega]
    exact ⟨fun h0 => absurd h0 h.1, fun i hi => wpOp_of_qOp hw (fun a' w' hw' h' => wpAny_of_headC hL f _ a' w' hw' h') (h.2 i hi).2⟩

theorem wpAnyC_first {n i : Nat} {oi : Oper} {v : Value} {L : Array Bool → Act → Prop} (hi : ops[i]? = some oi) (hsel : ∀ (j : Nat) (o : Oper) cs b, ops[j]? = some o → o.op ≠ .select cs b)
    (hs : Region.sinkB md ops n = true) (hc : Region.chainB md ops n = true) (hn : n < ops.size) (hin : i < n)
    (hdone : ∀ listed a, L listed a → ∀ j ∈ Region.ready md ops listed, n ≤ j) :
    ∀ (f : Nat) (listed : Array Bool) (a : Act), HeadInv md ops n listed →
      (∀ j oj, ops[j]? = some oj → j ≠ i → listed.getD j true = false → (∀ e ∈ oj.after, Region.binds md e = true → e.on ≠ i) → oi.apart ops oj = true) →
      i ∈ Region.ready md ops listed → YieldsIn P ops C oi v a →
      wpAnyC P md ops C n L f (listed.setIfInBounds i true) (a.put oi.dst v) → wpAnyC P md ops C n L (f + 1) listed a := by
  intro f
  induction f with
  | zero =>
    intro listed a inv _ hr hy H
    have hun := (mem_ready.1 hr).1
    refine ⟨fun h => (by rw [h] at hr; cases hr), fun j hj => ?_⟩
    have hjn : j < n := by
      rcases Nat.lt_or_ge j n with h | h
      · exact h
      · exact absurd hj (tail_waits hs hc hn inv _ i rfl hin hun j h)
    refine ⟨hjn, ?_⟩
    by_cases hji : j = i
    · subst hji; exact hy.qOp hi H
    · have := hdone _ _ H j (ready_mono hj hji)
      omega
  | succ f ih =>
    intro listed a inv hfree hr hy H
    have hun := (mem_ready.1 hr).1
    refine ⟨fun h => (by rw [h] at hr; cases hr), fun j hj => ?_⟩
    have hjn : j < n := by
      rcases Nat.lt_or_ge j n with h | h
      · exact h
      · exact absurd hj (tail_waits hs hc hn inv _ i rfl hin hun j h)
    refine ⟨hjn, ?_⟩
    by_cases hji : j = i
    · subst hji; exact hy.qOp hi H
    · have h1 := (H.2 j (ready_mono hj hji)).2
      obtain ⟨hjun, oj, hoj, hall⟩ := mem_ready.1 hj
      have hnot : ∀ e ∈ oj.after, Region.binds md e = true → e.on ≠ i := fun e he hb heq => by
        have h1 := hall e he hb
        rw [heq, getD_both hun] at h1
        cases h1
      have h2 := qOp_put hoj (hfree j oj hoj hji hjun hnot) (fun cs b => hsel i oi cs b hi) (fun cs b => hsel j oj cs b hoj) hy h1
      have hfree' : ∀ k ok, ops[k]? = some ok → k ≠ i → (listed.setIfInBounds j true).getD k true = false →
          (∀ e ∈ ok.after, Region.binds md e = true → e.on ≠ i) → oi.apart ops ok = true := fun k ok hk hki hun hno => by
        refine hfree k ok hk hki ?_ hno
        by_cases hjk : j = k
        · subst hjk; exact hjun
        · rw [getD_set_ne true hjk] at hun; exact hun
      refine qOp_mono (fun a' h3 => ih (listed.setIfInBounds j true) a' (inv.set hj hjn) hfree' (ready_mono hr (Ne.symm hji)) h3.1 ?_) h2
      rw [Array.setIfInBounds_comm _ _ hji]
      exact h3.2

theorem wpAnyC_lex {n g : Nat} {Lq : Act → Prop} (hsel : Region.noSelect ops = true) (hs : Region.sinkB md ops n = true) (hc : Region.chainB md ops n = true) (hn : n < ops.size) :
    ∀ (l : List Oper) (k : Nat) (listed : Array Bool) (a : Act), (∀ j, j < l.length → l[j]? = ops[k + j]?) → k + l.length = n → HeadInv md ops n listed →
    Region.lexHead md ops g l.length k listed = true → wpQuiet P ops C Lq l a →
    wpAnyC P md ops C n (fun listed' a' => Region.seqB md ops g n listed' = true ∧ Lq a') l.length listed a
  | [], k, listed, a, _, hk, _, hB, h => by
    have : k = n := by simpa using hk
    subst this
    exact ⟨by simpa [Region.lexHead] using hB, h⟩
  | o :: l, k, listed, a, hl, hk, inv, hB, h => by
    have h0 : ops[k]? = some o := by simpa using (hl 0 (by simp)).symm
    simp only [List.length_cons, Region.lexHead, Bool.and_eq_true] at hB
    obtain ⟨⟨hr, hf⟩, hB'⟩ := hB
    have hkn : k < n := by simp only [List.length_cons] at hk; omega
    have hr' : k ∈ Region.ready md ops listed := by simpa using hr
    have hst : qOp P ops C k (wpQuiet P ops C Lq l) a := by unfold qOp; simp only [h0]; exact h
    obtain ⟨v, hy, hK⟩ := yieldsIn_of_qOp h0 hst
    exact wpAnyC_first h0 (Region.noSelect_spec hsel) hs hc hn hkn (fun listed' a' hL => seqB_ready hL.1) l.length listed a inv (Region.free_spec h0 hf) hr' hy
      (wpAnyC_lex hsel hs hc hn l (k + 1) _ _ (fun j hj => by have := hl (j + 1) (by simp; omega); simpa [Nat.add_assoc, Nat.add_comm 1 j] using this) (by simp only [List.length_cons] at hk; omega) (inv.set hr' hkn) hB' hK)

theorem wp_region_tail {id : Nat} {Q : Exit → Act → World → Prop} {a : Act} {w : World} {l : List Oper} (n : Nat) (hm : P.follows .mixedOrders = true) (hB : Region.lexTailB .any l.toArray n = true) (hC : C { w with drawn := w.drawn + 1 })
    (h : wpQuiet P l.toArray C (fun a' => ∀ w', C w' → wpList P l.toArray Q (l.drop n) a' w') (l.take n) a) : (Code.region id l.toArray true).wp P Q a w := by
  simp only [Region.lexTailB, Bool.and_eq_true, decide_eq_true_eq] at hB
  obtain ⟨⟨⟨⟨hsel, hn⟩, hs⟩, hc⟩, hlex⟩ := hB
  have hn' : n < l.length := by simpa using hn
  have htl : (l.take n).length = n := by simp; omega
  have hdl : (l.drop n).length = l.toArray.size - n := by simp
  have inv0 : HeadInv .any l.toArray n (Array.replicate l.toArray.size false) :=
    ⟨by simp, fun j oj _ hl => (by rw [getD_replicate_false] at hl; cases hl), fun t _ ht => getD_in (by simpa using ht) (getD_replicate_false _ _)⟩
  have H := wpAnyC_lex (md := .any) (g := l.toArray.size - n) hsel hs hc hn (l.take n) 0 _ a (fun j hj => by
    have hj' : j < n := by rw [htl] at hj; exact hj
    simp [hj']) (by simpa using htl) inv0 (by rw [htl]; exact hlex) h
  refine wp_region_any hm ?_
  have := wpAny_of_headC (Q' := Q) (g := l.toArray.size - n) (fun listed a' w' hw' hL => by
    have := wpAny_of_seq (md := .any) (Q' := Q) (l.drop n) n listed a' w' (fun j => by simp [List.getElem?_drop]) (by rw [hdl]; exact hL.1) (hL.2 w' hw')
    rwa [hdl] at this) _ _ _ _ hC H
  rw [htl, show n + (l.toArray.size - n) = l.toArray.size by omega] at this
  exact this
end

section
variable {P : Program} {w : World}
theorem region_tail {id : Nat} {Q : Exit → Act → World → Prop} {a : Act} {l : List Oper} (n : Nat) (hm : P.follows .mixedOrders = true) (hB : Region.lexTailB .any l.toArray n = true)
    (h : wpQuiet P l.toArray (Cls w) (fun a' => ∀ w', Cls w w' → wpList P l.toArray Q (l.drop n) a' w') (l.take n) a) : (Code.region id l.toArray true).wp P Q a w :=
  wp_region_tail (C := Cls w) n hm hB (Below.refl _ _).drew h
end
end Go.Proofs.YtjhpiclnpmdjnaaGreatDoor.Reg

namespace Go.Proofs.YtjhpiclnpmdjnaaGreatDoor.Reg
open Go Go.RowKit

structure Good (w : World) (C : World → Prop) : Prop where
  sub : ∀ W, C W → Cls w W
  step : ∀ W W', C W → Below W.heap.size W W' → C W'
theorem Good.self (w : World) : Good w (Cls w) := ⟨fun _ h => h, fun _ _ h1 h2 => Below.trans h1 (h2.mono h1.size)⟩
theorem Good.call {w W : World} {C : World → Prop} {P : Program} {f : FuncId} {args : Array Value} {v : Value} (g : Good w C) (hW : C W) (h : Calls P f args W fun e w'' => e = .returned v ∧ Below W.heap.size W w'') : Calls P f args W fun e w'' => e = .returned v ∧ C w'' :=
  h.mono fun _ _ ⟨he, hb⟩ => ⟨he, g.step _ _ hW hb⟩
theorem Good.cell {w W : World} {C : World → Prop} {a : Addr} {v : Value} (g : Good w C) (hW : C W) (hc : w.cell? a = some v) : W.cell? a = some v := (g.sub _ hW).cell hc

theorem put_keep {a : Act} {d : Tmp} {o : Option Tmp} {v : Value} (h : o ≠ some d) : (a.put o v).tmps[d]? = a.tmps[d]? := by
  cases o with
  | none => rfl
  | some t => exact Array.getElem?_setIfInBounds_ne (fun e => h (by rw [e]))
theorem put_same {a : Act} {d : Tmp} {u v : Value} (h : (a.put (some d) u).tmps[d]? = (a.put (some d) v).tmps[d]?) : a.put (some d) u = a.put (some d) v := by
  unfold Act.put at *
  simp only at *
  by_cases hd : d < a.tmps.size
  · simp [hd] at h; rw [h]
  · rw [Array.setIfInBounds_eq_of_size_le (Nat.le_of_not_lt hd), Array.setIfInBounds_eq_of_size_le (Nat.le_of_not_lt hd)]
theorem put_put {a : Act} {d : Tmp} {u v : Value} : (a.put (some d) u).put (some d) v = a.put (some d) v := by
  unfold Act.put
  simp

section
variable {P : Program} {ops ops' : Array Oper} {md : Region.Mode} {w : World}

theorem keepC {C : World → Prop} {n : Nat} {L : Array Bool → Act → Prop} {A : Act} (hL : ∀ listed a, L listed a → a = A) (d : Tmp) :
    ∀ (f : Nat) (listed : Array Bool) (a : Act), (∀ j o, j < n → ops[j]? = some o → listed.getD j true = false → o.dst ≠ some d) →
      wpAnyC P md ops C n L f listed a → A.tmps[d]? = a.tmps[d]?
  | 0, listed, a, _, h => by rw [hL _ _ h]
  | f + 1, listed, a, hd, h => by
    obtain ⟨hne, hall⟩ := h
    obtain ⟨j, hj⟩ := List.exists_mem_of_ne_nil _ hne
    obtain ⟨hjn, hq⟩ := hall j hj
    obtain ⟨hjun, oj, hoj, _⟩ := mem_ready.1 hj
    obtain ⟨v, _, hK⟩ := yieldsIn_of_qOp hoj hq
    have := keepC hL d f _ _ (fun k o hk ho hun => hd k o hk ho (by
      by_cases e : j = k
      · subst e; exact hjun
      · rwa [getD_set_ne true e] at hun)) hK
    rw [this, put_keep (hd j oj hjn hoj hjun)]

def ptr (W : World) : Value := .pointer (some ⟨W.heap.size, 0, none⟩)

structure Blank (P : Program) (md : Region.Mode) (ops ops' : Array Oper) (n s : Nat) (d : Tmp) (obj : Obj) : Prop where
  ready : ∀ listed, Region.ready md ops listed = Region.ready md ops' listed
  yields : ∀ t, yielded ops t = yielded ops' t
  same : ∀ i, i ≠ s → ops[i]? = ops'[i]?
  op : ∃ os, ops[s]? = some os ∧ os.dst = some d ∧ os.guard = none ∧ ∀ ρ W, (execOp ρ os).run P W = .ok (.value (ptr W)) (W.alloc obj)
  dst : ∀ o, ops'[s]? = some o → o.dst = some d
  looks : ∀ i o, i < n → i ≠ s → ops'[i]? = some o → d ∉ o.looksAt ops'
  apart : ∀ i j oi oj, i < n → j < n → i ≠ j → ops'[i]? = some oi → ops'[j]? = some oj → ∀ t, oi.dst = some t → oj.dst ≠ some t
  sel : Region.noSelect ops' = true
  sink : Region.sinkB md ops' n = true
  chain : Region.chainB md ops' n = true
  small : n < ops'.size
  sn : s < n

theorem wpOp_other {n s i : Nat} {d : Tmp} {obj : Obj} (B : Blank P md ops ops' n s d obj) (h : i ≠ s) {Q : Exit → Act → World → Prop} {K : Act → World → Prop} {a : Act} {w : World} (hh : wpOp P ops' Q i K a w) : wpOp P ops Q i K a w := by
  unfold wpOp at *
  rw [B.same i h]
  simp only [B.yields]
  exact hh

theorem alloc_any {n s g : Nat} {d : Tmp} {obj : Obj} {A : Act} {Q' : Exit → Act → World → Prop} (B : Blank P md ops ops' n s d obj)
    (hLeaf : ∀ listed, Region.seqB md ops' g n listed = true → ∀ W w', Cls w W → Below (W.heap.size + 1) (W.alloc obj) w' → wpAny P md ops Q' g listed (A.put (some d) (ptr W)) w') (hg : 0 < g) :
    ∀ (f : Nat) (listed : Array Bool) (a : Act), HeadInv md ops' n listed →
      (∀ C, Good w C → wpAnyC P md ops' C n (fun listed' a' => Region.seqB md ops' g n listed' = true ∧ a' = A) f listed a) →
      (listed.getD s true = false → ∀ w', Cls w w' → wpAny P md ops Q' (f + g) listed a w') ∧
      (listed.getD s true = true → ∀ W w', Cls w W → Below (W.heap.size + 1) (W.alloc obj) w' → wpAny P md ops Q' (f + g) listed (a.put (some d) (ptr W)) w')
  | 0, listed, a, inv, h => by
    obtain ⟨hq, rfl⟩ := h _ (Good.self w)
    rw [Nat.zero_add]
    refine ⟨fun hun => ?_, fun _ => hLeaf listed hq⟩
    obtain ⟨g, rfl⟩ : ∃ k, g = k + 1 := ⟨g - 1, by omega⟩
    simp only [Region.seqB, Bool.and_eq_true, decide_eq_true_eq] at hq
    have := tail_waits B.sink B.chain B.small inv _ s rfl B.sn hun n (Nat.le_refl _)
    rw [hq.1] at this
    exact absurd (List.mem_singleton.2 rfl) this
  | f + 1, listed, a, inv, h => by
    have h0 := h _ (Good.self w)
    rw [show f + 1 + g = (f + g) + 1 by omega]
    -- what an operation leaves does not depend on the class
    have key : ∀ i ∈ Region.ready md ops' listed, i < n ∧ ∃ oi v0, ops'[i]? = some oi ∧ YieldsIn P ops' (Cls w) oi v0 a ∧
        (∀ C, Good w C → wpAnyC P md ops' C n (fun listed' a' => Region.seqB md ops' g n listed' = true ∧ a' = A) f (listed.setIfInBounds i true) (a.put oi.dst v0)) ∧
        (∀ C, Good w C → ∃ v, YieldsIn P ops' C oi v a ∧ a.put oi.dst v = a.put oi.dst v0) := by
      intro i hi
      obtain ⟨hin, hq⟩ := h0.2 i hi
      obtain ⟨hun, oi, hoi, _⟩ := mem_ready.1 hi
      obtain ⟨v0, hy0, hK0⟩ := yieldsIn_of_qOp hoi hq
      have all : ∀ C, Good w C → ∃ v, YieldsIn P ops' C oi v a ∧ a.put oi.dst v = a.put oi.dst v0 ∧ wpAnyC P md ops' C n (fun listed' a' => Region.seqB md ops' g n listed' = true ∧ a' = A) f (listed.setIfInBounds i true) (a.put oi.dst v) := by
        intro C hC
        obtain ⟨v, hy, hK⟩ := yieldsIn_of_qOp hoi ((h C hC).2 i hi).2
        refine ⟨v, hy, ?_, hK⟩
        cases hd : oi.dst with
        | none => rfl
        | some t =>
          rw [hd] at hK hK0
          have hfree : ∀ j o, j < n → ops'[j]? = some o → (listed.setIfInBounds i true).getD j true = false → o.dst ≠ some t := fun j o hj ho hun' => by
            have hij : i ≠ j := fun e => by
              subst e
              rcases Nat.lt_or_ge i listed.size with h' | h'
              · simp [h'] at hun'
              · simp [Array.getElem?_eq_none h'] at hun
            exact B.apart i j oi o hin hj hij hoi ho t hd
          have e1 := keepC (fun _ _ h => h.2) t f _ _ hfree hK
          have e0 := keepC (fun _ _ h => h.2) t f _ _ hfree hK0
          exact put_same (e1.symm.trans e0)
      refine ⟨hin, oi, v0, hoi, hy0, fun C hC => ?_, fun C hC => ?_⟩
      · obtain ⟨v, _, he, hK⟩ := all C hC
        rw [← he]; exact hK
      · obtain ⟨v, hy, he, _⟩ := all C hC
        exact ⟨v, hy, he⟩
    refine ⟨fun hun w' hw' => ?_, fun hl W w' hW hw' => ?_⟩
    · refine ⟨fun e => absurd (by rw [← B.ready]; exact e) h0.1, fun i hi => ?_⟩
      rw [B.ready] at hi
      obtain ⟨hin, oi, v0, hoi, hy0, hK, _⟩ := key i hi
      by_cases his : i = s
      · subst his
        obtain ⟨os, hos, hod, hog, hex⟩ := B.op
        unfold wpOp
        simp only [hos]
        rw [if_pos (by unfold Region.wanted; rw [hog])]
        refine .inl ?_
        unfold Oper.wp
        rw [hex]
        simp only [Oper.upon]
        have ih := (alloc_any B hLeaf hg f _ _ (inv.set hi hin) hK).2 (by
          have := inv.size
          have := B.small
          have : i < listed.size := by omega
          simp [this]) w' (w'.alloc obj) hw' (Below.refl _ _)
        rw [B.dst oi hoi, put_put] at ih
        rw [hod]
        exact ih
      · refine wpOp_other B his (wpOp_of_qOp (C := Cls w) hw' (fun a' w'' hw'' e => ?_) (hy0.qOp (K := fun a' => a' = a.put oi.dst v0) hoi rfl))
        subst e
        exact (alloc_any B hLeaf hg f _ _ (inv.set hi hin) hK).1 (by rw [getD_set_ne true his]; exact hun) w'' hw''
    · refine ⟨fun e => absurd (by rw [← B.ready]; exact e) h0.1, fun i hi => ?_⟩
      rw [B.ready] at hi
      obtain ⟨hin, oi, v0, hoi, hy0, hK, hall⟩ := key i hi
      have hun := (mem_ready.1 hi).1
      have his : i ≠ s := fun e => by subst e; rw [hl] at hun; cases hun
      have hsz : (W.alloc obj).heap.size = W.heap.size + 1 := by simp
      have good : Good w (Below (W.heap.size + 1) (W.alloc obj)) := by
        refine ⟨fun W' h' => ?_, fun W1 W2 h1 h2 => Below.trans h1 (h2.mono (by have := h1.size; omega))⟩
        have h1 : Below w.heap.size w (W.alloc obj) := Below.alloc hW (Below.size hW) _
        exact Below.trans h1 (h'.mono (by have := Below.size hW; omega))
      obtain ⟨v2, hy2, he⟩ := hall _ good
      have hlook : ∀ t, some d = some t → t ∉ oi.looksAt ops' := fun t ht => by cases ht; exact B.looks i oi hin his hoi
      have hnsel := fun cs b => Region.noSelect_spec B.sel i oi cs b hoi
      have hy3 : YieldsIn P ops' (Below (W.heap.size + 1) (W.alloc obj)) oi v2 (a.put (some d) (ptr W)) := hy2.of_same (execOp_put oi hnsel a (some d) (ptr W) hlook) (wanted_put oi a (some d) (ptr W) hlook)
      refine wpOp_other B his (wpOp_of_qOp hw' (fun a' w'' hw'' e => ?_) (hy3.qOp (K := fun a' => a' = (a.put (some d) (ptr W)).put oi.dst v2) hoi rfl))
      subst e
      have hne : ∀ t, some d = some t → oi.dst ≠ some t := fun t ht hd' => by
        cases ht
        obtain ⟨os, hos, _⟩ := B.op
        have hs' : ∃ o, ops'[s]? = some o := ⟨ops'[s]'(Nat.lt_trans B.sn B.small), Array.getElem?_eq_getElem _⟩
        obtain ⟨o, ho⟩ := hs'
        exact B.apart s i o oi B.sn hin (Ne.symm his) ho hoi d (B.dst o ho) hd'
      rw [show (a.put (some d) (ptr W)).put oi.dst v2 = (a.put oi.dst v0).put (some d) (ptr W) by rw [← he]; exact Act.put_comm a (ptr W) v2 hne]
      exact (alloc_any B hLeaf hg f _ _ (inv.set hi hin) hK).2 (by rw [getD_set_ne true his]; exact hl) W w'' hW hw''

end

/-! ### an edge more -/
section
variable {P : Program} {ops ops' : Array Oper} {md : Region.Mode}

structure Edged (md : Region.Mode) (ops ops' : Array Oper) (k t : Nat) : Prop where
  size : ops'.size = ops.size
  kt : k ≠ t
  other : ∀ i, i ≠ t → ops'[i]? = ops[i]?
  at_t : ∃ ot e, ops[t]? = some ot ∧ ops'[t]? = some { ot with after := ot.after.push e } ∧ Region.binds md e = true ∧ e.on = k
  at_k : ∃ ok x ix, ops[k]? = some ok ∧ ok.op = .extract x ix
  deps : ∀ ok ot, ops[k]? = some ok → ops[t]? = some ot → ∀ e ∈ ok.after, Region.binds md e = true → ∃ e' ∈ ot.after, Region.binds md e' = true ∧ e'.on = e.on
  free : ∀ ok j oj, ops[k]? = some ok → ops[j]? = some oj → j ≠ k → (∀ e ∈ ok.after, Region.binds md e = true → e.on ≠ j) → (∀ e ∈ oj.after, Region.binds md e = true → e.on ≠ k) → ok.apart ops oj = true
  sel : Region.noSelect ops = true

theorem wpOp_extract {i : Nat} {o : Oper} {x : Operand} {ix : Nat} {Q : Exit → Act → World → Prop} {K : Act → World → Prop} {a : Act} {w : World} (hi : ops[i]? = some o) (ho : o.op = .extract x ix) (h : wpOp P ops Q i K a w) :
    ∃ v, Yields P ops o v a ∧ K (a.put o.dst v) w := by
  unfold wpOp at h
  simp only [hi] at h
  by_cases hw : Region.wanted o (yielded ops a.tmps) = true
  · simp only [hw, if_true] at h
    cases hx : a.eval x with
    | tuple vs =>
      cases hv : vs[ix]? with
      | some v =>
        have hex : ∀ W, (execOp a.eval o).run P W = .ok (.value v) W := fun W => by
          unfold execOp; simp [ho, hx, Instr.extract, hv]
        refine ⟨v, .inl ⟨hw, hex⟩, ?_⟩
        rcases h with h | ⟨⟨h, _⟩, _⟩
        · unfold Oper.wp at h; rw [hex] at h; exact h
        · exfalso; unfold execOp at h; simp [ho, hx, Instr.extract, hv] at h; exact absurd h (Array.not_mem_empty _)
      | none =>
        exfalso
        rcases h with h | ⟨⟨h, _⟩, _⟩
        · unfold Oper.wp execOp at h; simp [ho, hx, Instr.extract, hv, Oper.upon, stuck, Sem.run] at h
        · unfold execOp at h; simp [ho, hx, Instr.extract, hv] at h; exact absurd h (Array.not_mem_empty _)
    | _ =>
      exfalso
      rcases h with h | ⟨⟨h, _⟩, _⟩
      · unfold Oper.wp execOp at h; simp [ho, hx, Instr.extract, Oper.upon, stuck, Sem.run] at h
      · unfold execOp at h; simp [ho, hx, Instr.extract] at h; exact absurd h (Array.not_mem_empty _)
  · simp only [hw] at h
    exact ⟨undef, .inr ⟨by simpa using hw, rfl⟩, h⟩

theorem wpAny_edge {k t : Nat} {Q : Exit → Act → World → Prop} (B : Edged md ops ops' k t) (hQ : ∀ (d : Option Tmp) v c a w, Q (.panic c) (a.put d v) w → Q (.panic c) a w) :
    ∀ (f : Nat) (listed : Array Bool) (a : Act) (w : World), listed.size = ops.size → (listed.getD t false = true → listed.getD k false = true) →
      wpAny P md ops' Q f listed a w → wpAny P md ops Q f listed a w := by
  obtain ⟨ot, e, hot, hot', hbe, hek⟩ := B.at_t
  obtain ⟨ok, x, ix, hok, hop⟩ := B.at_k
  have hks : k < ops.size := (Array.getElem?_eq_some_iff.1 hok).1
  have sub : ∀ (listed : Array Bool) i, i ∈ Region.ready md ops' listed → i ∈ Region.ready md ops listed := fun listed i hi => by
    rw [mem_ready] at *
    obtain ⟨h0, o, ho, hall⟩ := hi
    by_cases hit : i = t
    · subst hit
      rw [hot'] at ho
      cases ho
      exact ⟨h0, ot, hot, fun e' he' hb => hall e' (Array.mem_push.2 (.inl he')) hb⟩
    · rw [B.other i hit] at ho
      exact ⟨h0, o, ho, hall⟩
  have sup : ∀ (listed : Array Bool) i, i ∈ Region.ready md ops listed → (i = t → listed.getD k false = true) → i ∈ Region.ready md ops' listed := fun listed i hi hk => by
    rw [mem_ready] at *
    obtain ⟨h0, o, ho, hall⟩ := hi
    by_cases hit : i = t
    · subst hit
      rw [hot] at ho
      cases ho
      refine ⟨h0, _, hot', fun e' he' hb => ?_⟩
      rcases Array.mem_push.1 he' with h | h
      · exact hall e' h hb
      · subst h; rw [hek]; exact hk rfl
    · exact ⟨h0, o, by rw [B.other i hit]; exact ho, hall⟩
  have kr : ∀ (listed : Array Bool), listed.size = ops.size → t ∈ Region.ready md ops listed → listed.getD k false = false → k ∈ Region.ready md ops listed := fun listed hs ht hk => by
    rw [mem_ready] at ht
    obtain ⟨_, o, ho, hall⟩ := ht
    rw [hot] at ho
    cases ho
    refine mem_ready.2 ⟨getD_in (by omega) hk, ok, hok, fun e' he' hb => ?_⟩
    obtain ⟨e2, h1, h2, h3⟩ := B.deps ok ot hok hot e' he' hb
    rw [← h3]; exact hall e2 h1 h2
  have step : ∀ i (K : Act → World → Prop) a w, wpOp P ops' Q i K a w → wpOp P ops Q i K a w := fun i K a w h => by
    have hy : ∀ tm, yielded ops' tm = yielded ops tm := fun tm => by
      funext j
      unfold yielded
      by_cases hj : j = t
      · subst hj; rw [hot, hot']; rfl
      · rw [B.other j hj]
    unfold wpOp at *
    simp only [hy] at h
    by_cases hit : i = t
    · subst hit
      rw [hot'] at h
      rw [hot]
      exact h
    · rw [B.other i hit] at h
      exact h
  intro f
  induction f with
  | zero =>
    intro listed a w hs hinv h
    refine ⟨List.eq_nil_iff_forall_not_mem.2 fun i hi => ?_, h.2⟩
    cases hk : listed.getD k false with
    | true => have := sup listed i hi (fun _ => hk); rw [h.1] at this; cases this
    | false =>
      by_cases hit : i = t
      · subst hit
        have := sup listed k (kr listed hs hi hk) (fun e => absurd e B.kt)
        rw [h.1] at this; cases this
      · have := sup listed i hi (fun e => absurd e hit); rw [h.1] at this; cases this
  | succ f ih =>
    intro listed a w hs hinv h
    have inv' : ∀ i ∈ Region.ready md ops' listed, (listed.setIfInBounds i true).getD t false = true → (listed.setIfInBounds i true).getD k false = true := fun i hi ht => by
      by_cases hit : i = t
      · subst hit
        obtain ⟨_, o, ho, hall⟩ := mem_ready.1 hi
        rw [hot'] at ho
        cases ho
        have := hall e (Array.mem_push.2 (.inr rfl)) hbe
        rw [hek] at this
        exact getD_set_true this
      · rw [getD_set_ne false hit] at ht
        exact getD_set_true (hinv ht)
    have plain : (∀ i, i ∈ Region.ready md ops listed → i ∈ Region.ready md ops' listed) → wpAny P md ops Q (f + 1) listed a w := fun hall =>
      ⟨fun h0 => h.1 (List.eq_nil_iff_forall_not_mem.2 fun i hi => by have := sub listed i hi; rw [h0] at this; cases this),
       fun i hi => step i _ _ _ (wpOp_mono (fun a' w' h' => ih _ a' w' (by simpa using hs) (inv' i (hall i hi)) h') (h.2 i (hall i hi)))⟩
    cases hk : listed.getD k false with
    | true => exact plain fun i hi => sup listed i hi (fun _ => hk)
    | false =>
      by_cases ht : t ∈ Region.ready md ops listed
      · have hkr := kr listed hs ht hk
        have hkr' := sup listed k hkr (fun e => absurd e B.kt)
        obtain ⟨v, hy, hK⟩ := wpOp_extract (Q := Q) hok hop (step k _ _ _ (h.2 k hkr'))
        have hrec := ih _ _ _ (by simpa using hs) (inv' k hkr') hK
        exact wpAny_first hok (Region.noSelect_spec B.sel) (hQ ok.dst v) f listed a w (fun j oj hj hne hun hno => B.free ok j oj hok hj hne (fun e' he' hb heq => by
          obtain ⟨_, o, ho, hall⟩ := mem_ready.1 hkr
          rw [hok] at ho
          cases ho
          have := hall e' he' hb
          rw [heq, getD_both hun] at this
          cases this) hno) hkr hy hrec
      · exact plain fun i hi => sup listed i hi (fun e => absurd (e ▸ hi) ht)
end

/-! ### over a region that is written out -/
def blank : List Oper → Nat → List Oper
  | [], _ => []
  | o :: l, 0 => { o with op := .assign (.const undef) } :: l
  | o :: l, s + 1 => o :: blank l s
theorem blank_len : ∀ (l : List Oper) (s : Nat), (blank l s).length = l.length
  | [], _ => rfl
  | _ :: _, 0 => rfl
  | _ :: l, s + 1 => by simp [blank, blank_len l s]
theorem blank_ne : ∀ (l : List Oper) (s i : Nat), i ≠ s → l[i]? = (blank l s)[i]?
  | [], _, _, _ => rfl
  | _ :: _, 0, 0, h => absurd rfl h
  | _ :: _, 0, i + 1, _ => by simp [blank]
  | _ :: _, s + 1, 0, _ => by simp [blank]
  | _ :: l, s + 1, i + 1, h => by simpa [blank] using blank_ne l s i (by omega)
theorem blank_at : ∀ (l : List Oper) (s : Nat) (o : Oper), l[s]? = some o → (blank l s)[s]? = some { o with op := .assign (.const undef) }
  | [], _, _, h => by simp at h
  | _ :: _, 0, _, h => by simp at h; simp [blank, h]
  | _ :: l, s + 1, o, h => by simpa [blank] using blank_at l s o (by simpa using h)

def allocB (md : Region.Mode) (l : List Oper) (n s : Nat) (d : Tmp) : Bool :=
  let ops := (blank l s).toArray
  Region.lexTailB md ops n && decide (s < n) &&
  ((List.range n).all fun i => i == s || match ops[i]? with | some o => !(o.looksAt ops).contains d | none => true) &&
  ((List.range n).all fun i => (List.range n).all fun j => i == j || match ops[i]?, ops[j]? with
    | some a, some b => (match a.dst with | some t => b.dst != some t | none => true)
    | _, _ => true)

section
variable {P : Program} {w : World}
theorem blank_of {md : Region.Mode} {l : List Oper} {n s : Nat} {d : Tmp} {obj : Obj} {os : Oper} (hB : allocB md l n s d = true) (hos : l[s]? = some os) (hd : os.dst = some d) (hgd : os.guard = none)
    (hex : ∀ ρ W, (execOp ρ os).run P W = .ok (.value (ptr W)) (W.alloc obj)) : Blank P md l.toArray (blank l s).toArray n s d obj := by
  simp only [allocB, Region.lexTailB, Bool.and_eq_true, decide_eq_true_eq] at hB
  obtain ⟨⟨⟨⟨⟨⟨⟨hsel, hn⟩, hs⟩, hc⟩, hlex⟩, hsn⟩, hlook⟩, hap⟩ := hB
  have hsize : (blank l s).toArray.size = l.toArray.size := by simp [blank_len]
  have hat := blank_at l s os hos
  have hdst : ∀ t : Nat, (l.toArray[t]?).bind (·.dst) = ((blank l s).toArray[t]?).bind (·.dst) := fun t => by
    by_cases e : t = s
    · subst e; simp [hos, hat]
    · simp [blank_ne l s t e]
  have haft : ∀ t : Nat, (l.toArray[t]?).map (·.after) = ((blank l s).toArray[t]?).map (·.after) := fun t => by
    by_cases e : t = s
    · subst e; simp [hos, hat]
    · simp [blank_ne l s t e]
  refine { ready := fun listed => ?_, yields := fun t => ?_, same := fun i hi => by simpa using blank_ne l s i hi, op := ⟨os, by simpa using hos, hd, hgd, hex⟩, dst := fun o ho => ?_, looks := fun i o hi his ho => ?_, apart := fun i j oi oj hi hj hij hoi hoj t ht => ?_, sel := hsel, sink := hs, chain := hc, small := hn, sn := hsn }
  · unfold Region.ready
    rw [hsize]
    refine List.filter_congr fun i _ => ?_
    have := haft i
    congr 1
    have h2 : ∀ (x : Option Oper) (f : Array Edge → Bool), (x.map fun o => f o.after) = (x.map (·.after)).map f := fun x f => by cases x <;> rfl
    rw [h2 (l.toArray[i]?) (fun a => a.all fun e => !Region.binds md e || listed.getD e.on false), h2 ((blank l s).toArray[i]?) (fun a => a.all fun e => !Region.binds md e || listed.getD e.on false), this]
  · funext j
    unfold yielded
    rw [hdst]
  · simp only [List.getElem?_toArray, hat, Option.some.injEq] at ho
    subst ho; exact hd
  · have h1 := List.all_eq_true.1 hlook i (List.mem_range.2 hi)
    simp only [ho, Bool.or_eq_true, beq_iff_eq, his, false_or, Bool.not_eq_true', List.contains_eq_mem, decide_eq_false_iff_not] at h1
    exact h1
  · have h1 := List.all_eq_true.1 (List.all_eq_true.1 hap i (List.mem_range.2 hi)) j (List.mem_range.2 hj)
    simp only [hoi, hoj, ht, Bool.or_eq_true, beq_iff_eq, hij, false_or] at h1
    exact bne_iff_ne.1 h1

theorem any_alloc {Q : Exit → Act → World → Prop} {a : Act} {l : List Oper} (n s : Nat) (d : Tmp) (obj : Obj) (hB : allocB .any l n s d = true)
    (os : Oper) (hos : l[s]? = some os) (hd : os.dst = some d) (hgd : os.guard = none) (hex : ∀ ρ W, (execOp ρ os).run P W = .ok (.value (ptr W)) (W.alloc obj))
    (h : ∃ A, (∀ C, Good w C → wpQuiet P (blank l s).toArray C (fun a' => a' = A) ((blank l s).take n) a) ∧
      ∀ W w', Cls w W → Below (W.heap.size + 1) (W.alloc obj) w' → wpList P l.toArray Q (l.drop n) (A.put (some d) (ptr W)) w') (w0 : World) (hw0 : Cls w w0) :
    wpAny P .any l.toArray Q l.toArray.size (Array.replicate l.toArray.size false) a w0 := by
  obtain ⟨A, h, ht⟩ := h
  have B := blank_of hB hos hd hgd hex
  simp only [allocB, Region.lexTailB, Bool.and_eq_true, decide_eq_true_eq] at hB
  obtain ⟨⟨⟨⟨⟨⟨⟨hsel, hn⟩, hs⟩, hc⟩, hlex⟩, hsn⟩, hlook⟩, hap⟩ := hB
  have hsize : (blank l s).toArray.size = l.toArray.size := by simp [blank_len]
  have hlen := blank_len l s
  have hn' : n < l.length := by simpa [hlen] using hn
  have htl : ((blank l s).take n).length = n := by simp; omega
  have hdl : (l.drop n).length = l.toArray.size - n := by simp
  have inv0 : HeadInv .any (blank l s).toArray n (Array.replicate (blank l s).toArray.size false) :=
    ⟨by simp, fun j oj _ hl => (by rw [getD_replicate_false] at hl; cases hl), fun t _ ht => getD_in (by simpa using ht) (getD_replicate_false _ _)⟩
  have seq_eq : ∀ (g k : Nat) (listed : Array Bool), Region.seqB .any (blank l s).toArray g k listed = Region.seqB .any l.toArray g k listed := by
    intro g
    induction g with
    | zero => intro k listed; simp only [Region.seqB, B.ready]
    | succ g ih => intro k listed; simp only [Region.seqB, B.ready, ih]
  have H := fun C (hC : Good w C) => wpAnyC_lex (md := .any) (C := C) (g := (blank l s).toArray.size - n) hsel hs hc hn ((blank l s).take n) 0 _ a (fun j hj => by
    have hj' : j < n := by rw [htl] at hj; exact hj
    simp [hj']) (by simpa using htl) inv0 (by rw [htl]; exact hlex) (h C hC)
  have := (alloc_any (Q' := Q) (g := l.toArray.size - n) B (fun listed hq W w' hW hw' => by
    rw [seq_eq] at hq
    have := wpAny_of_seq (md := .any) (Q' := Q) (l.drop n) n listed (A.put (some d) (ptr W)) w' (fun j => by simp [List.getElem?_drop]) (by rw [hdl]; exact hq) (ht W w' hW hw')
    rwa [hdl] at this) (by simp; omega) _ _ a inv0 (by rw [← hsize]; exact H)).1 (by rw [hsize]; exact getD_in (by simp; omega) (getD_replicate_false _ _)) w0 hw0
  rw [htl, hsize, show n + (l.toArray.size - n) = l.toArray.size by simp; omega] at this
  exact this

def edge (k : Nat) : List Oper → Nat → List Oper
  | [], _ => []
  | o :: l, 0 => { o with after := o.after.push ⟨k, .data⟩ } :: l
  | o :: l, t + 1 => o :: edge k l t
theorem edge_len (k : Nat) : ∀ (l : List Oper) (t : Nat), (edge k l t).length = l.length
  | [], _ => rfl
  | _ :: _, 0 => rfl
  | _ :: l, t + 1 => by simp [edge, edge_len k l t]
theorem edge_ne (k : Nat) : ∀ (l : List Oper) (t i : Nat), i ≠ t → (edge k l t)[i]? = l[i]?
  | [], _, _, _ => rfl
  | _ :: _, 0, 0, h => absurd rfl h
  | _ :: _, 0, i + 1, _ => by simp [edge]
  | _ :: _, t + 1, 0, _ => by simp [edge]
  | _ :: l, t + 1, i + 1, h => by simpa [edge] using edge_ne k l t i (by omega)
theorem edge_at (k : Nat) : ∀ (l : List Oper) (t : Nat) (o : Oper), l[t]? = some o → (edge k l t)[t]? = some { o with after := o.after.push ⟨k, .data⟩ }
  | [], _, _, h => by simp at h
  | _ :: _, 0, _, h => by simp at h; simp [edge, h]
  | _ :: l, t + 1, o, h => by simpa [edge] using edge_at k l t o (by simpa using h)
def edgeB (md : Region.Mode) (l : List Oper) (k t : Nat) : Bool :=
  let ops := l.toArray
  Region.noSelect ops && k != t && match ops[k]?, ops[t]? with
  | some ok, some ot => (match ok.op with | .extract _ _ => true | _ => false) &&
      (ok.after.all fun e => !Region.binds md e || ot.after.any fun e' => Region.binds md e' && e'.on == e.on) &&
      (List.range ops.size).all fun j => j == k || match ops[j]? with
        | some oj => ok.after.any (fun e => Region.binds md e && e.on == j) || oj.after.any (fun e => Region.binds md e && e.on == k) || ok.apart ops oj
        | none => true
  | _, _ => false
theorem edged_of {md : Region.Mode} {l : List Oper} {k t : Nat} (h : edgeB md l k t = true) : Edged md l.toArray (edge k l t).toArray k t := by
  unfold edgeB at h
  simp only [Bool.and_eq_true, bne_iff_ne] at h
  obtain ⟨⟨hsel, hkt⟩, h⟩ := h
  split at h
  · rename_i ok ot hok hot
    simp only [Bool.and_eq_true] at h
    obtain ⟨⟨hop, hdep⟩, hfree⟩ := h
    have hot' : l[t]? = some ot := by simpa using hot
    refine ⟨by simp [edge_len], hkt, fun i hi => by simpa using edge_ne k l t i hi, ⟨ot, ⟨k, .data⟩, hot, by simpa using edge_at k l t ot hot', rfl, rfl⟩, ?_, fun ok' ot' h1 h2 e he hb => ?_, fun ok' j oj h1 h2 hne hnk hno => ?_, hsel⟩
    · split at hop
      · rename_i x ix hx
        exact ⟨ok, x, ix, hok, hx⟩
      · cases hop
    · rw [hok] at h1
      rw [hot] at h2
      cases h1
      cases h2
      have := Array.all_eq_true_iff_forall_mem.1 hdep e he
      simp only [hb, Bool.not_true, Bool.false_or] at this
      obtain ⟨e', he', h'⟩ := Array.any_eq_true'.1 this
      simp only [Bool.and_eq_true, beq_iff_eq] at h'
      exact ⟨e', he', h'.1, h'.2⟩
    · rw [hok] at h1
      cases h1
      have := List.all_eq_true.1 hfree j (List.mem_range.2 (Array.getElem?_eq_some_iff.1 h2).1)
      simp only [h2, Bool.or_eq_true, beq_iff_eq, hne, false_or] at this
      rcases this with (h' | h') | h'
      · obtain ⟨e, he, hb⟩ := Array.any_eq_true'.1 h'
        simp only [Bool.and_eq_true, beq_iff_eq] at hb
        exact absurd hb.2 (hnk e he hb.1)
      · obtain ⟨e, he, hb⟩ := Array.any_eq_true'.1 h'
        simp only [Bool.and_eq_true, beq_iff_eq] at hb
        exact absurd hb.2 (hno e he hb.1)
      · exact h'
  · cases h
def edges : List Oper → List (Nat × Nat) → List Oper
  | l, [] => l
  | l, (k, t) :: es => edges (edge k l t) es
def edgesB (md : Region.Mode) : List Oper → List (Nat × Nat) → Bool
  | _, [] => true
  | l, (k, t) :: es => edgeB md l k t && edgesB md (edge k l t) es
theorem any_edges {Q : Exit → Act → World → Prop} {a : Act} (hQ : ∀ (d : Option Tmp) v c a w, Q (.panic c) (a.put d v) w → Q (.panic c) a w) {w0 : World} : ∀ (es : List (Nat × Nat)) (l : List Oper), edgesB .any l es = true →
    wpAny P .any (edges l es).toArray Q (edges l es).toArray.size (Array.replicate (edges l es).toArray.size false) a w0 → wpAny P .any l.toArray Q l.toArray.size (Array.replicate l.toArray.size false) a w0
  | [], _, _, h => h
  | (k, t) :: es, l, hB, h => by
    simp only [edgesB, Bool.and_eq_true] at hB
    have hs : (edge k l t).toArray.size = l.toArray.size := by simp [edge_len]
    have := any_edges hQ es _ hB.2 h
    rw [hs] at this
    exact wpAny_edge (edged_of hB.1) hQ _ _ _ _ (by simp) (fun h => by rw [getD_replicate_false] at h; cases h) this

theorem region_alloc {id : Nat} {Q : Exit → Act → World → Prop} {a : Act} {l : List Oper} (n s : Nat) (d : Tmp) (obj : Obj) (es : List (Nat × Nat)) (hm : P.follows .mixedOrders = true) (hE : edgesB .any l es = true) (hB : allocB .any (edges l es) n s d = true)
    (hQ : ∀ (d : Option Tmp) v c a w, Q (.panic c) (a.put d v) w → Q (.panic c) a w)
    (os : Oper) (hos : (edges l es)[s]? = some os) (hd : os.dst = some d) (hgd : os.guard = none) (hex : ∀ ρ W, (execOp ρ os).run P W = .ok (.value (ptr W)) (W.alloc obj))
    (h : ∃ A, (∀ C, Good w C → wpQuiet P (blank (edges l es) s).toArray C (fun a' => a' = A) ((blank (edges l es) s).take n) a) ∧
      ∀ W w', Cls w W → Below (W.heap.size + 1) (W.alloc obj) w' → wpList P (edges l es).toArray Q ((edges l es).drop n) (A.put (some d) (ptr W)) w') : (Code.region id l.toArray true).wp P Q a w :=
  wp_region_any hm (any_edges hQ es l hE (any_alloc n s d obj hB os hos hd hgd hex h _ (Below.refl _ _).drew))

end
end Go.Proofs.YtjhpiclnpmdjnaaGreatDoor.Reg

namespace Go.Proofs.YtjhpiclnpmdjnaaGreatDoor.Reg
open Go Go.RowKit
section
variable {P : Program} {C : World → Prop}
end
end Go.Proofs.YtjhpiclnpmdjnaaGreatDoor.Reg

namespace Go.Proofs.YtjhpiclnpmdjnaaGreatDoor.Bk
open Go Go.RowKit
open Go.Proofs.YtjhpiclnpmdjnaaGreatDoor

def Blk (W : World) (g : Nat) (cs : Array Value) (t : TypeId) : Prop := W.heap[g]? = some (.cells cs t (0, 0))
section
variable {W w1 : World} {g i : Nat} {cs : Array Value} {t : TypeId} {u : Value}
theorem Blk.lt (h : Blk W g cs t) : g < W.heap.size := by
  rcases Nat.lt_or_ge g W.heap.size with h' | h'
  · exact h'
  · unfold Blk at h; simp [Array.getElem?_eq_none h'] at h
theorem Blk.cell (h : Blk W g cs t) (i : Nat) : W.cell? ⟨g, i, none⟩ = cs[i]? := by unfold Blk at h; simp [World.cell?, h]
theorem Blk.free (h : Blk W g cs t) (i : Nat) : W.frozen? ⟨g, i, none⟩ = false := by unfold Blk at h; simp [World.frozen?, h]
theorem Blk.below {B : Nat} (hb : Below B W w1) (hg : g < B) (h : Blk W g cs t) : Blk w1 g cs t := (hb.block g hg).trans h
theorem Blk.later (hb : Below W.heap.size W w1) (h : Blk W g cs t) : Blk w1 g cs t := h.below hb h.lt
theorem Blk.new (h : g = W.heap.size) : Blk (W.alloc (.cells cs t)) g cs t := by
  subst h
  show (W.heap.push _)[W.heap.size]? = _
  simp
theorem Blk.alloc {o : Obj} (h : Blk W g cs t) : Blk (W.alloc o) g cs t := (Below.heap_alloc W o g h.lt).trans h
theorem Blk.drew (h : Blk W g cs t) : Blk W.drew g cs t := h
theorem Blk.set_other {a : Addr} (h : Blk W g cs t) (hne : g ≠ a.block) : Blk (W.setCell a u) g cs t := (Below.heap_setCell W a u g hne).trans h
theorem Blk.set_same (h : Blk W g cs t) : Blk (W.setCell ⟨g, i, none⟩ u) g (cs.setIfInBounds i u) t := by
  have hlt := h.lt
  have h' : W.heap[g] = .cells cs t (0, 0) := by unfold Blk at h; simpa [Array.getElem?_eq_getElem hlt] using h
  show (W.heap.modify g _)[g]? = _
  rw [Array.getElem?_eq_getElem (by simpa using hlt), Array.getElem_modify_self, h']
  rfl
theorem Blk.set_ne {g' j : Nat} (h : Blk W g cs t) (hne : g ≠ g') : Blk (W.setCell ⟨g', j, none⟩ u) g cs t := h.set_other hne
theorem Blk.made (hb : Below (W.heap.size + 1) (W.alloc (.cells cs t)) w1) : Blk w1 W.heap.size cs t := (Blk.new rfl).below hb (Nat.lt_succ_self _)
def In (C : World → Prop) (W : World) : Prop := C W
structure Kept (p : Prop) : Prop where mk ::
  out : p
theorem Blk.nw10 : Blk (W.alloc (.cells cs t)) W.heap.size cs t := (Blk.new (by simp))
theorem Blk.nw20 {o1 : Obj} : Blk ((W.alloc (.cells cs t)).alloc o1) W.heap.size cs t := (Blk.alloc (Blk.new (by simp)))
theorem Blk.nw21 {o0 : Obj} : Blk ((W.alloc o0).alloc (.cells cs t)) (W.heap.size + 1) cs t := (Blk.new (by simp))
theorem Blk.nw30 {o1 o2 : Obj} : Blk (((W.alloc (.cells cs t)).alloc o1).alloc o2) W.heap.size cs t := (Blk.alloc (Blk.alloc (Blk.new (by simp))))
theorem Blk.nw31 {o0 o2 : Obj} : Blk (((W.alloc o0).alloc (.cells cs t)).alloc o2) (W.heap.size + 1) cs t := (Blk.alloc (Blk.new (by simp)))
theorem Blk.nw32 {o0 o1 : Obj} : Blk (((W.alloc o0).alloc o1).alloc (.cells cs t)) (W.heap.size + 2) cs t := (Blk.new (by simp))
theorem Blk.nw40 {o1 o2 o3 : Obj} : Blk ((((W.alloc (.cells cs t)).alloc o1).alloc o2).alloc o3) W.heap.size cs t := (Blk.alloc (Blk.alloc (Blk.alloc (Blk.new (by simp)))))
theorem Blk.nw41 {o0 o2 o3 : Obj} : Blk ((((W.alloc o0).alloc (.cells cs t)).alloc o2).alloc o3) (W.heap.size + 1) cs t := (Blk.alloc (Blk.alloc (Blk.new (by simp))))
theorem Blk.nw42 {o0 o1 o3 : Obj} : Blk ((((W.alloc o0).alloc o1).alloc (.cells cs t)).alloc o3) (W.heap.size + 2) cs t := (Blk.alloc (Blk.new (by simp)))
theorem Blk.nw43 {o0 o1 o2 : Obj} : Blk ((((W.alloc o0).alloc o1).alloc o2).alloc (.cells cs t)) (W.heap.size + 3) cs t := (Blk.new (by simp))
theorem Blk.conv {cs' : Array Value} (h : Blk W g cs t) (e : cs = cs') : Blk W g cs' t := e ▸ h
end
section
variable {W : World} {g : Nat} {t : TypeId} {l : List Value} {va vb vc vd ve vf vj vk vm vn vo vp vq vr vv vx vy vz ya yb yc yd ye yf yj yk ym yn yo yp yq yr : Value}
theorem Blk.c0 (h : Blk W g (List.toArray (va :: l)) t) : W.cell? ⟨g, 0, none⟩ = some va := (h.cell 0).trans (by simp)
theorem Blk.f0 (h : Blk W g (List.toArray (va :: l)) t) : W.frozen? ⟨g, 0, none⟩ = false := h.free 0
theorem Blk.c1 (h : Blk W g (List.toArray (va :: vb :: l)) t) : W.cell? ⟨g, 1, none⟩ = some vb := (h.cell 1).trans (by simp)
theorem Blk.f1 (h : Blk W g (List.toArray (va :: vb :: l)) t) : W.frozen? ⟨g, 1, none⟩ = false := h.free 1
theorem Blk.c2 (h : Blk W g (List.toArray (va :: vb :: vc :: l)) t) : W.cell? ⟨g, 2, none⟩ = some vc := (h.cell 2).trans (by simp)
theorem Blk.f2 (h : Blk W g (List.toArray (va :: vb :: vc :: l)) t) : W.frozen? ⟨g, 2, none⟩ = false := h.free 2
theorem Blk.c3 (h : Blk W g (List.toArray (va :: vb :: vc :: vd :: l)) t) : W.cell? ⟨g, 3, none⟩ = some vd := (h.cell 3).trans (by simp)
theorem Blk.f3 (h : Blk W g (List.toArray (va :: vb :: vc :: vd :: l)) t) : W.frozen? ⟨g, 3, none⟩ = false := h.free 3
theorem Blk.c4 (h : Blk W g (List.toArray (va :: vb :: vc :: vd :: ve :: l)) t) : W.cell? ⟨g, 4, none⟩ = some ve := (h.cell 4).trans (by simp)
theorem Blk.f4 (h : Blk W g (List.toArray (va :: vb :: vc :: vd :: ve :: l)) t) : W.frozen? ⟨g, 4, none⟩ = false := h.free 4
theorem Blk.c5 (h : Blk W g (List.toArray (va :: vb :: vc :: vd :: ve :: vf :: l)) t) : W.cell? ⟨g, 5, none⟩ = some vf := (h.cell 5).trans (by simp)
theorem Blk.f5 (h : Blk W g (List.toArray (va :: vb :: vc :: vd :: ve :: vf :: l)) t) : W.frozen? ⟨g, 5, none⟩ = false := h.free 5
theorem Blk.c6 (h : Blk W g (List.toArray (va :: vb :: vc :: vd :: ve :: vf :: vj :: l)) t) : W.cell? ⟨g, 6, none⟩ = some vj := (h.cell 6).trans (by simp)
theorem Blk.f6 (h : Blk W g (List.toArray (va :: vb :: vc :: vd :: ve :: vf :: vj :: l)) t) : W.frozen? ⟨g, 6, none⟩ = false := h.free 6
theorem Blk.c7 (h : Blk W g (List.toArray (va :: vb :: vc :: vd :: ve :: vf :: vj :: vk :: l)) t) : W.cell? ⟨g, 7, none⟩ = some vk := (h.cell 7).trans (by simp)
theorem Blk.f7 (h : Blk W g (List.toArray (va :: vb :: vc :: vd :: ve :: vf :: vj :: vk :: l)) t) : W.frozen? ⟨g, 7, none⟩ = false := h.free 7
theorem Blk.c8 (h : Blk W g (List.toArray (va :: vb :: vc :: vd :: ve :: vf :: vj :: vk :: vm :: l)) t) : W.cell? ⟨g, 8, none⟩ = some vm := (h.cell 8).trans (by simp)
theorem Blk.c9 (h : Blk W g (List.toArray (va :: vb :: vc :: vd :: ve :: vf :: vj :: vk :: vm :: vn :: l)) t) : W.cell? ⟨g, 9, none⟩ = some vn := (h.cell 9).trans (by simp)
theorem Blk.c10 (h : Blk W g (List.toArray (va :: vb :: vc :: vd :: ve :: vf :: vj :: vk :: vm :: vn :: vo :: l)) t) : W.cell? ⟨g, 10, none⟩ = some vo := (h.cell 10).trans (by simp)
theorem Blk.c11 (h : Blk W g (List.toArray (va :: vb :: vc :: vd :: ve :: vf :: vj :: vk :: vm :: vn :: vo :: vp :: l)) t) : W.cell? ⟨g, 11, none⟩ = some vp := (h.cell 11).trans (by simp)
theorem Blk.c12 (h : Blk W g (List.toArray (va :: vb :: vc :: vd :: ve :: vf :: vj :: vk :: vm :: vn :: vo :: vp :: vq :: l)) t) : W.cell? ⟨g, 12, none⟩ = some vq := (h.cell 12).trans (by simp)
theorem Blk.c13 (h : Blk W g (List.toArray (va :: vb :: vc :: vd :: ve :: vf :: vj :: vk :: vm :: vn :: vo :: vp :: vq :: vr :: l)) t) : W.cell? ⟨g, 13, none⟩ = some vr := (h.cell 13).trans (by simp)
theorem Blk.c14 (h : Blk W g (List.toArray (va :: vb :: vc :: vd :: ve :: vf :: vj :: vk :: vm :: vn :: vo :: vp :: vq :: vr :: vv :: l)) t) : W.cell? ⟨g, 14, none⟩ = some vv := (h.cell 14).trans (by simp)
theorem Blk.c15 (h : Blk W g (List.toArray (va :: vb :: vc :: vd :: ve :: vf :: vj :: vk :: vm :: vn :: vo :: vp :: vq :: vr :: vv :: vx :: l)) t) : W.cell? ⟨g, 15, none⟩ = some vx := (h.cell 15).trans (by simp)
theorem Blk.c16 (h : Blk W g (List.toArray (va :: vb :: vc :: vd :: ve :: vf :: vj :: vk :: vm :: vn :: vo :: vp :: vq :: vr :: vv :: vx :: vy :: l)) t) : W.cell? ⟨g, 16, none⟩ = some vy := (h.cell 16).trans (by simp)
theorem Blk.c17 (h : Blk W g (List.toArray (va :: vb :: vc :: vd :: ve :: vf :: vj :: vk :: vm :: vn :: vo :: vp :: vq :: vr :: vv :: vx :: vy :: vz :: l)) t) : W.cell? ⟨g, 17, none⟩ = some vz := (h.cell 17).trans (by simp)
theorem Blk.f17 (h : Blk W g (List.toArray (va :: vb :: vc :: vd :: ve :: vf :: vj :: vk :: vm :: vn :: vo :: vp :: vq :: vr :: vv :: vx :: vy :: vz :: l)) t) : W.frozen? ⟨g, 17, none⟩ = false := h.free 17
theorem Blk.c18 (h : Blk W g (List.toArray (va :: vb :: vc :: vd :: ve :: vf :: vj :: vk :: vm :: vn :: vo :: vp :: vq :: vr :: vv :: vx :: vy :: vz :: ya :: l)) t) : W.cell? ⟨g, 18, none⟩ = some ya := (h.cell 18).trans (by simp)
theorem Blk.f18 (h : Blk W g (List.toArray (va :: vb :: vc :: vd :: ve :: vf :: vj :: vk :: vm :: vn :: vo :: vp :: vq :: vr :: vv :: vx :: vy :: vz :: ya :: l)) t) : W.frozen? ⟨g, 18, none⟩ = false := h.free 18
theorem Blk.c19 (h : Blk W g (List.toArray (va :: vb :: vc :: vd :: ve :: vf :: vj :: vk :: vm :: vn :: vo :: vp :: vq :: vr :: vv :: vx :: vy :: vz :: ya :: yb :: l)) t) : W.cell? ⟨g, 19, none⟩ = some yb := (h.cell 19).trans (by simp)
theorem Blk.c20 (h : Blk W g (List.toArray (va :: vb :: vc :: vd :: ve :: vf :: vj :: vk :: vm :: vn :: vo :: vp :: vq :: vr :: vv :: vx :: vy :: vz :: ya :: yb :: yc :: l)) t) : W.cell? ⟨g, 20, none⟩ = some yc := (h.cell 20).trans (by simp)
theorem Blk.c21 (h : Blk W g (List.toArray (va :: vb :: vc :: vd :: ve :: vf :: vj :: vk :: vm :: vn :: vo :: vp :: vq :: vr :: vv :: vx :: vy :: vz :: ya :: yb :: yc :: yd :: l)) t) : W.cell? ⟨g, 21, none⟩ = some yd := (h.cell 21).trans (by simp)
theorem Blk.c24 (h : Blk W g (List.toArray (va :: vb :: vc :: vd :: ve :: vf :: vj :: vk :: vm :: vn :: vo :: vp :: vq :: vr :: vv :: vx :: vy :: vz :: ya :: yb :: yc :: yd :: ye :: yf :: yj :: l)) t) : W.cell? ⟨g, 24, none⟩ = some yj := (h.cell 24).trans (by simp)
theorem Blk.q0 (h : Blk W g (List.toArray (va :: l)) t) : ∀ W', Reg.Cls W W' → W'.cell? ⟨g, 0, none⟩ = some va := fun _ hW => (h.later hW).c0
theorem Blk.q1 (h : Blk W g (List.toArray (va :: vb :: l)) t) : ∀ W', Reg.Cls W W' → W'.cell? ⟨g, 1, none⟩ = some vb := fun _ hW => (h.later hW).c1
theorem Blk.q2 (h : Blk W g (List.toArray (va :: vb :: vc :: l)) t) : ∀ W', Reg.Cls W W' → W'.cell? ⟨g, 2, none⟩ = some vc := fun _ hW => (h.later hW).c2
theorem Blk.q3 (h : Blk W g (List.toArray (va :: vb :: vc :: vd :: l)) t) : ∀ W', Reg.Cls W W' → W'.cell? ⟨g, 3, none⟩ = some vd := fun _ hW => (h.later hW).c3
theorem Blk.q4 (h : Blk W g (List.toArray (va :: vb :: vc :: vd :: ve :: l)) t) : ∀ W', Reg.Cls W W' → W'.cell? ⟨g, 4, none⟩ = some ve := fun _ hW => (h.later hW).c4
theorem Blk.q5 (h : Blk W g (List.toArray (va :: vb :: vc :: vd :: ve :: vf :: l)) t) : ∀ W', Reg.Cls W W' → W'.cell? ⟨g, 5, none⟩ = some vf := fun _ hW => (h.later hW).c5
theorem Blk.q6 (h : Blk W g (List.toArray (va :: vb :: vc :: vd :: ve :: vf :: vj :: l)) t) : ∀ W', Reg.Cls W W' → W'.cell? ⟨g, 6, none⟩ = some vj := fun _ hW => (h.later hW).c6
theorem Blk.q7 (h : Blk W g (List.toArray (va :: vb :: vc :: vd :: ve :: vf :: vj :: vk :: l)) t) : ∀ W', Reg.Cls W W' → W'.cell? ⟨g, 7, none⟩ = some vk := fun _ hW => (h.later hW).c7
theorem Blk.q8 (h : Blk W g (List.toArray (va :: vb :: vc :: vd :: ve :: vf :: vj :: vk :: vm :: l)) t) : ∀ W', Reg.Cls W W' → W'.cell? ⟨g, 8, none⟩ = some vm := fun _ hW => (h.later hW).c8
theorem Blk.q9 (h : Blk W g (List.toArray (va :: vb :: vc :: vd :: ve :: vf :: vj :: vk :: vm :: vn :: l)) t) : ∀ W', Reg.Cls W W' → W'.cell? ⟨g, 9, none⟩ = some vn := fun _ hW => (h.later hW).c9
theorem Blk.q10 (h : Blk W g (List.toArray (va :: vb :: vc :: vd :: ve :: vf :: vj :: vk :: vm :: vn :: vo :: l)) t) : ∀ W', Reg.Cls W W' → W'.cell? ⟨g, 10, none⟩ = some vo := fun _ hW => (h.later hW).c10
theorem Blk.q17 (h : Blk W g (List.toArray (va :: vb :: vc :: vd :: ve :: vf :: vj :: vk :: vm :: vn :: vo :: vp :: vq :: vr :: vv :: vx :: vy :: vz :: l)) t) : ∀ W', Reg.Cls W W' → W'.cell? ⟨g, 17, none⟩ = some vz := fun _ hW => (h.later hW).c17
theorem Blk.q19 (h : Blk W g (List.toArray (va :: vb :: vc :: vd :: ve :: vf :: vj :: vk :: vm :: vn :: vo :: vp :: vq :: vr :: vv :: vx :: vy :: vz :: ya :: yb :: l)) t) : ∀ W', Reg.Cls W W' → W'.cell? ⟨g, 19, none⟩ = some yb := fun _ hW => (h.later hW).c19
theorem Blk.q24 (h : Blk W g (List.toArray (va :: vb :: vc :: vd :: ve :: vf :: vj :: vk :: vm :: vn :: vo :: vp :: vq :: vr :: vv :: vx :: vy :: vz :: ya :: yb :: yc :: yd :: ye :: yf :: yj :: l)) t) : ∀ W', Reg.Cls W W' → W'.cell? ⟨g, 24, none⟩ = some yj := fun _ hW => (h.later hW).c24
theorem Blk.g0 {C : World → Prop} (h : Blk W g (List.toArray (va :: l)) t) (hC : Reg.Good W C) : ∀ W', C W' → W'.cell? ⟨g, 0, none⟩ = some va := fun _ hW => (h.later (hC.sub _ hW)).c0
theorem Blk.g1 {C : World → Prop} (h : Blk W g (List.toArray (va :: vb :: l)) t) (hC : Reg.Good W C) : ∀ W', C W' → W'.cell? ⟨g, 1, none⟩ = some vb := fun _ hW => (h.later (hC.sub _ hW)).c1
theorem Blk.g2 {C : World → Prop} (h : Blk W g (List.toArray (va :: vb :: vc :: l)) t) (hC : Reg.Good W C) : ∀ W', C W' → W'.cell? ⟨g, 2, none⟩ = some vc := fun _ hW => (h.later (hC.sub _ hW)).c2
theorem Blk.g3 {C : World → Prop} (h : Blk W g (List.toArray (va :: vb :: vc :: vd :: l)) t) (hC : Reg.Good W C) : ∀ W', C W' → W'.cell? ⟨g, 3, none⟩ = some vd := fun _ hW => (h.later (hC.sub _ hW)).c3
theorem Blk.g4 {C : World → Prop} (h : Blk W g (List.toArray (va :: vb :: vc :: vd :: ve :: l)) t) (hC : Reg.Good W C) : ∀ W', C W' → W'.cell? ⟨g, 4, none⟩ = some ve := fun _ hW => (h.later (hC.sub _ hW)).c4
theorem Blk.g5 {C : World → Prop} (h : Blk W g (List.toArray (va :: vb :: vc :: vd :: ve :: vf :: l)) t) (hC : Reg.Good W C) : ∀ W', C W' → W'.cell? ⟨g, 5, none⟩ = some vf := fun _ hW => (h.later (hC.sub _ hW)).c5
theorem Blk.g6 {C : World → Prop} (h : Blk W g (List.toArray (va :: vb :: vc :: vd :: ve :: vf :: vj :: l)) t) (hC : Reg.Good W C) : ∀ W', C W' → W'.cell? ⟨g, 6, none⟩ = some vj := fun _ hW => (h.later (hC.sub _ hW)).c6
theorem Blk.g7 {C : World → Prop} (h : Blk W g (List.toArray (va :: vb :: vc :: vd :: ve :: vf :: vj :: vk :: l)) t) (hC : Reg.Good W C) : ∀ W', C W' → W'.cell? ⟨g, 7, none⟩ = some vk := fun _ hW => (h.later (hC.sub _ hW)).c7
theorem Blk.g8 {C : World → Prop} (h : Blk W g (List.toArray (va :: vb :: vc :: vd :: ve :: vf :: vj :: vk :: vm :: l)) t) (hC : Reg.Good W C) : ∀ W', C W' → W'.cell? ⟨g, 8, none⟩ = some vm := fun _ hW => (h.later (hC.sub _ hW)).c8
theorem Blk.g9 {C : World → Prop} (h : Blk W g (List.toArray (va :: vb :: vc :: vd :: ve :: vf :: vj :: vk :: vm :: vn :: l)) t) (hC : Reg.Good W C) : ∀ W', C W' → W'.cell? ⟨g, 9, none⟩ = some vn := fun _ hW => (h.later (hC.sub _ hW)).c9
theorem Blk.g10 {C : World → Prop} (h : Blk W g (List.toArray (va :: vb :: vc :: vd :: ve :: vf :: vj :: vk :: vm :: vn :: vo :: l)) t) (hC : Reg.Good W C) : ∀ W', C W' → W'.cell? ⟨g, 10, none⟩ = some vo := fun _ hW => (h.later (hC.sub _ hW)).c10
theorem Blk.g12 {C : World → Prop} (h : Blk W g (List.toArray (va :: vb :: vc :: vd :: ve :: vf :: vj :: vk :: vm :: vn :: vo :: vp :: vq :: l)) t) (hC : Reg.Good W C) : ∀ W', C W' → W'.cell? ⟨g, 12, none⟩ = some vq := fun _ hW => (h.later (hC.sub _ hW)).c12
theorem Blk.g16 {C : World → Prop} (h : Blk W g (List.toArray (va :: vb :: vc :: vd :: ve :: vf :: vj :: vk :: vm :: vn :: vo :: vp :: vq :: vr :: vv :: vx :: vy :: l)) t) (hC : Reg.Good W C) : ∀ W', C W' → W'.cell? ⟨g, 16, none⟩ = some vy := fun _ hW => (h.later (hC.sub _ hW)).c16
theorem Blk.g17 {C : World → Prop} (h : Blk W g (List.toArray (va :: vb :: vc :: vd :: ve :: vf :: vj :: vk :: vm :: vn :: vo :: vp :: vq :: vr :: vv :: vx :: vy :: vz :: l)) t) (hC : Reg.Good W C) : ∀ W', C W' → W'.cell? ⟨g, 17, none⟩ = some vz := fun _ hW => (h.later (hC.sub _ hW)).c17
theorem Blk.g18 {C : World → Prop} (h : Blk W g (List.toArray (va :: vb :: vc :: vd :: ve :: vf :: vj :: vk :: vm :: vn :: vo :: vp :: vq :: vr :: vv :: vx :: vy :: vz :: ya :: l)) t) (hC : Reg.Good W C) : ∀ W', C W' → W'.cell? ⟨g, 18, none⟩ = some ya := fun _ hW => (h.later (hC.sub _ hW)).c18
theorem Blk.g19 {C : World → Prop} (h : Blk W g (List.toArray (va :: vb :: vc :: vd :: ve :: vf :: vj :: vk :: vm :: vn :: vo :: vp :: vq :: vr :: vv :: vx :: vy :: vz :: ya :: yb :: l)) t) (hC : Reg.Good W C) : ∀ W', C W' → W'.cell? ⟨g, 19, none⟩ = some yb := fun _ hW => (h.later (hC.sub _ hW)).c19
end
theorem be {B : Nat} {w w' : World} (h : Below B w w' := by repeat (first | assumption | exact Below.refl _ _ | refine Below.setCell ?_ (by first | exact Nat.le_refl _ | (simp; done) | (simp; omega) | omega) _ | refine Below.alloc ?_ (by first | exact Nat.le_refl _ | (simp; done) | (simp; omega) | omega) _ | refine Below.drew ?_ | exact Nat.le_refl _)) : Below B w w' := h
theorem nx {W w' : World} {cs : Array Value} {t : TypeId} (g : Nat) (hb : Below W.heap.size W w') (h : Bk.Blk W g cs t := by first | with_reducible exact Bk.Blk.nw10 | with_reducible exact Bk.Blk.nw20 | with_reducible exact Bk.Blk.nw21 | with_reducible exact Bk.Blk.nw30 | with_reducible exact Bk.Blk.nw31 | with_reducible exact Bk.Blk.nw32 | with_reducible exact Bk.Blk.nw40 | with_reducible exact Bk.Blk.nw41 | with_reducible exact Bk.Blk.nw42 | with_reducible exact Bk.Blk.nw43) : Bk.Blk w' g cs t := Bk.Blk.later hb h
end Go.Proofs.YtjhpiclnpmdjnaaGreatDoor.Bk

namespace Go.Proofs.YtjhpiclnpmdjnaaGreatDoor.Bk
open Go Go.RowKit
open Go.Proofs.YtjhpiclnpmdjnaaGreatDoor

def Cel (W : World) (a : Addr) (v : Value) : Prop := W.cell? a = some v
section
variable {W w1 : World} {a : Addr} {v : Value}
theorem Cel.mk (h : W.cell? a = some v) : Cel W a v := h
theorem Cel.out (h : Cel W a v) : W.cell? a = some v := h
theorem Cel.later (hb : Below W.heap.size W w1) (h : Cel W a v) : Cel w1 a v := cell_later hb h
theorem Cel.q (h : Cel W a v) : ∀ W', Reg.Cls W W' → W'.cell? a = some v := fun _ hW => hW.cell h
end
def IntsIn (W : World) (a : Option Addr) (ws : List Int) : Prop := ws.length ≤ 9223372036854775807 ∧ (0 < ws.length → ∃ b off, a = some ⟨b, off, none⟩ ∧ ∀ j, j < ws.length → W.cell? ⟨b, off + j, none⟩ = some (.int .i64 (ws.getD j 0)))
end Go.Proofs.YtjhpiclnpmdjnaaGreatDoor.Bk
