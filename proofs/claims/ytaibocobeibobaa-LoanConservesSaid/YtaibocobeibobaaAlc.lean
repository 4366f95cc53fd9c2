/-
  Regions that draw their order and hold, among operations that read and call, ONE that makes a block: one walk in the text's order, with that operation blanked, serves every order; the block is somewhere behind what was there, with what it was made of. No Go in sight.
-/
import Derived.Test.YtaibocobeibobaaReg
namespace Go.Proofs.Ytaibocobeibobaa.Reg
open Go Go.RowKit

/-- A class of worlds at or behind w: with a world, it holds all that come behind that one. -/
structure Good (w : World) (C : World → Prop) : Prop where
  sub : ∀ W, C W → Cls w W
  step : ∀ W W', C W → Below W.heap.size W W' → C W'
theorem Good.self (w : World) : Good w (Cls w) := ⟨fun _ h => h, fun _ _ h1 h2 => Below.trans h1 (h2.mono h1.size)⟩
theorem Good.call {w W : World} {C : World → Prop} {P : Program} {f : FuncId} {args : Array Value} {v : Value} (g : Good w C) (hW : C W) (h : Calls P f args W fun e w'' => e = .returned v ∧ Below W.heap.size W w'') : Calls P f args W fun e w'' => e = .returned v ∧ C w'' :=
  h.mono fun _ _ ⟨he, hb⟩ => ⟨he, g.step _ _ hW hb⟩
theorem Good.cell {w W : World} {C : World → Prop} {a : Addr} {v : Value} (g : Good w C) (hW : C W) (hc : w.cell? a = some v) : W.cell? a = some v := (g.sub _ hW).cell hc

theorem put_keep {a : Act} {d : Tmp} {o : Option Tmp} {v : Value} (h : o ≠ some d) : (a.put o v).tmps[d]? = a.tmps[d]? := by
  cases o with
  | none => rfl
  | some t => exact Array.getElem?_setIfInBounds_ne (fun e => h (by rw [e]))
theorem put_same {a : Act} {d : Tmp} {u v : Value} (h : (a.put (some d) u).tmps[d]? = (a.put (some d) v).tmps[d]?) : a.put (some d) u = a.put (some d) v := by
  unfold Act.put at *
  simp only at *
  by_cases hd : d < a.tmps.size
  · simp [hd] at h; rw [h]
  · rw [Array.setIfInBounds_eq_of_size_le (Nat.le_of_not_lt hd), Array.setIfInBounds_eq_of_size_le (Nat.le_of_not_lt hd)]
theorem put_put {a : Act} {d : Tmp} {u v : Value} : (a.put (some d) u).put (some d) v = a.put (some d) v := by
  unfold Act.put
  simp

section
variable {P : Program} {ops ops' : Array Oper} {md : Region.Mode} {w : World}

/-- What the walk ends in holds what an operation that is done has left. -/
theorem keepC {C : World → Prop} {n : Nat} {L : Array Bool → Act → Prop} {A : Act} (hL : ∀ listed a, L listed a → a = A) (d : Tmp) :
    ∀ (f : Nat) (listed : Array Bool) (a : Act), (∀ j o, j < n → ops[j]? = some o → listed.getD j true = false → o.dst ≠ some d) →
      wpAnyC P md ops C n L f listed a → A.tmps[d]? = a.tmps[d]?
  | 0, listed, a, _, h => by rw [hL _ _ h]
  | f + 1, listed, a, hd, h => by
    obtain ⟨hne, hall⟩ := h
    obtain ⟨j, hj⟩ := List.exists_mem_of_ne_nil _ hne
    obtain ⟨hjn, hq⟩ := hall j hj
    obtain ⟨hjun, oj, hoj, _⟩ := mem_ready.1 hj
    obtain ⟨v, _, hK⟩ := yieldsIn_of_qOp hoj hq
    have := keepC hL d f _ _ (fun k o hk ho hun => hd k o hk ho (by
      by_cases e : j = k
      · subst e; exact hjun
      · rwa [getD_set_ne true e] at hun)) hK
    rw [this, put_keep (hd j oj hjn hoj hjun)]

/-- The pointer that a block made in W gets. -/
def ptr (W : World) : Value := .pointer (some ⟨W.heap.size, 0, none⟩)

/-- The blanked operations beside the given ones. -/
structure Blank (P : Program) (md : Region.Mode) (ops ops' : Array Oper) (n s : Nat) (d : Tmp) (obj : Obj) : Prop where
  ready : ∀ listed, Region.ready md ops listed = Region.ready md ops' listed
  yields : ∀ t, yielded ops t = yielded ops' t
  same : ∀ i, i ≠ s → ops[i]? = ops'[i]?
  op : ∃ os, ops[s]? = some os ∧ os.dst = some d ∧ os.guard = none ∧ ∀ ρ W, (execOp ρ os).run P W = .ok (.value (ptr W)) (W.alloc obj)
  dst : ∀ o, ops'[s]? = some o → o.dst = some d
  looks : ∀ i o, i < n → i ≠ s → ops'[i]? = some o → d ∉ o.looksAt ops'
  apart : ∀ i j oi oj, i < n → j < n → i ≠ j → ops'[i]? = some oi → ops'[j]? = some oj → ∀ t, oi.dst = some t → oj.dst ≠ some t
  sel : Region.noSelect ops' = true
  sink : Region.sinkB md ops' n = true
  chain : Region.chainB md ops' n = true
  small : n < ops'.size
  sn : s < n

theorem wpOp_other {n s i : Nat} {d : Tmp} {obj : Obj} (B : Blank P md ops ops' n s d obj) (h : i ≠ s) {Q : Exit → Act → World → Prop} {K : Act → World → Prop} {a : Act} {w : World} (hh : wpOp P ops' Q i K a w) : wpOp P ops Q i K a w := by
  unfold wpOp at *
  rw [B.same i h]
  simp only [B.yields]
  exact hh

theorem alloc_any {n s g : Nat} {d : Tmp} {obj : Obj} {A : Act} {Q' : Exit → Act → World → Prop} (B : Blank P md ops ops' n s d obj)
    (hLeaf : ∀ listed, Region.seqB md ops' g n listed = true → ∀ W w', Cls w W → Below (W.heap.size + 1) (W.alloc obj) w' → wpAny P md ops Q' g listed (A.put (some d) (ptr W)) w') (hg : 0 < g) :
    ∀ (f : Nat) (listed : Array Bool) (a : Act), HeadInv md ops' n listed →
      (∀ C, Good w C → wpAnyC P md ops' C n (fun listed' a' => Region.seqB md ops' g n listed' = true ∧ a' = A) f listed a) →
      (listed.getD s true = false → ∀ w', Cls w w' → wpAny P md ops Q' (f + g) listed a w') ∧
      (listed.getD s true = true → ∀ W w', Cls w W → Below (W.heap.size + 1) (W.alloc obj) w' → wpAny P md ops Q' (f + g) listed (a.put (some d) (ptr W)) w')
  | 0, listed, a, inv, h => by
    obtain ⟨hq, rfl⟩ := h _ (Good.self w)
    rw [Nat.zero_add]
    refine ⟨fun hun => ?_, fun _ => hLeaf listed hq⟩
    obtain ⟨g, rfl⟩ : ∃ k, g = k + 1 := ⟨g - 1, by omega⟩
    simp only [Region.seqB, Bool.and_eq_true, decide_eq_true_eq] at hq
    have := tail_waits B.sink B.chain B.small inv _ s rfl B.sn hun n (Nat.le_refl _)
    rw [hq.1] at this
    exact absurd (List.mem_singleton.2 rfl) this
  | f + 1, listed, a, inv, h => by
    have h0 := h _ (Good.self w)
    rw [show f + 1 + g = (f + g) + 1 by omega]
    -- what an operation leaves does not depend on the class
    have key : ∀ i ∈ Region.ready md ops' listed, i < n ∧ ∃ oi v0, ops'[i]? = some oi ∧ YieldsIn P ops' (Cls w) oi v0 a ∧
        (∀ C, Good w C → wpAnyC P md ops' C n (fun listed' a' => Region.seqB md ops' g n listed' = true ∧ a' = A) f (listed.setIfInBounds i true) (a.put oi.dst v0)) ∧
        (∀ C, Good w C → ∃ v, YieldsIn P ops' C oi v a ∧ a.put oi.dst v = a.put oi.dst v0) := by
      intro i hi
      obtain ⟨hin, hq⟩ := h0.2 i hi
      obtain ⟨hun, oi, hoi, _⟩ := mem_ready.1 hi
      obtain ⟨v0, hy0, hK0⟩ := yieldsIn_of_qOp hoi hq
      have all : ∀ C, Good w C → ∃ v, YieldsIn P ops' C oi v a ∧ a.put oi.dst v = a.put oi.dst v0 ∧ wpAnyC P md ops' C n (fun listed' a' => Region.seqB md ops' g n listed' = true ∧ a' = A) f (listed.setIfInBounds i true) (a.put oi.dst v) := by
        intro C hC
        obtain ⟨v, hy, hK⟩ := yieldsIn_of_qOp hoi ((h C hC).2 i hi).2
        refine ⟨v, hy, ?_, hK⟩
        cases hd : oi.dst with
        | none => rfl
        | some t =>
          rw [hd] at hK hK0
          have hfree : ∀ j o, j < n → ops'[j]? = some o → (listed.setIfInBounds i true).getD j true = false → o.dst ≠ some t := fun j o hj ho hun' => by
            have hij : i ≠ j := fun e => by
              subst e
              rcases Nat.lt_or_ge i listed.size with h' | h'
              · simp [h'] at hun'
              · simp [Array.getElem?_eq_none h'] at hun
            exact B.apart i j oi o hin hj hij hoi ho t hd
          have e1 := keepC (fun _ _ h => h.2) t f _ _ hfree hK
          have e0 := keepC (fun _ _ h => h.2) t f _ _ hfree hK0
          exact put_same (e1.symm.trans e0)
      refine ⟨hin, oi, v0, hoi, hy0, fun C hC => ?_, fun C hC => ?_⟩
      · obtain ⟨v, _, he, hK⟩ := all C hC
        rw [← he]; exact hK
      · obtain ⟨v, hy, he, _⟩ := all C hC
        exact ⟨v, hy, he⟩
    refine ⟨fun hun w' hw' => ?_, fun hl W w' hW hw' => ?_⟩
    · refine ⟨fun e => absurd (by rw [← B.ready]; exact e) h0.1, fun i hi => ?_⟩
      rw [B.ready] at hi
      obtain ⟨hin, oi, v0, hoi, hy0, hK, _⟩ := key i hi
      by_cases his : i = s
      · subst his
        obtain ⟨os, hos, hod, hog, hex⟩ := B.op
        unfold wpOp
        simp only [hos]
        rw [if_pos (by unfold Region.wanted; rw [hog])]
        refine .inl ?_
        unfold Oper.wp
        rw [hex]
        simp only [Oper.upon]
        have ih := (alloc_any B hLeaf hg f _ _ (inv.set hi hin) hK).2 (by
          have := inv.size
          have := B.small
          have : i < listed.size := by omega
          simp [this]) w' (w'.alloc obj) hw' (Below.refl _ _)
        rw [B.dst oi hoi, put_put] at ih
        rw [hod]
        exact ih
      · refine wpOp_other B his (wpOp_of_qOp (C := Cls w) hw' (fun a' w'' hw'' e => ?_) (hy0.qOp (K := fun a' => a' = a.put oi.dst v0) hoi rfl))
        subst e
        exact (alloc_any B hLeaf hg f _ _ (inv.set hi hin) hK).1 (by rw [getD_set_ne true his]; exact hun) w'' hw''
    · refine ⟨fun e => absurd (by rw [← B.ready]; exact e) h0.1, fun i hi => ?_⟩
      rw [B.ready] at hi
      obtain ⟨hin, oi, v0, hoi, hy0, hK, hall⟩ := key i hi
      have hun := (mem_ready.1 hi).1
      have his : i ≠ s := fun e => by subst e; rw [hl] at hun; cases hun
      have hsz : (W.alloc obj).heap.size = W.heap.size + 1 := by simp
      have good : Good w (Below (W.heap.size + 1) (W.alloc obj)) := by
        refine ⟨fun W' h' => ?_, fun W1 W2 h1 h2 => Below.trans h1 (h2.mono (by have := h1.size; omega))⟩
        have h1 : Below w.heap.size w (W.alloc obj) := Below.alloc hW (Below.size hW) _
        exact Below.trans h1 (h'.mono (by have := Below.size hW; omega))
      obtain ⟨v2, hy2, he⟩ := hall _ good
      have hlook : ∀ t, some d = some t → t ∉ oi.looksAt ops' := fun t ht => by cases ht; exact B.looks i oi hin his hoi
      have hnsel := fun cs b => Region.noSelect_spec B.sel i oi cs b hoi
      have hy3 : YieldsIn P ops' (Below (W.heap.size + 1) (W.alloc obj)) oi v2 (a.put (some d) (ptr W)) := hy2.of_same (execOp_put oi hnsel a (some d) (ptr W) hlook) (wanted_put oi a (some d) (ptr W) hlook)
      refine wpOp_other B his (wpOp_of_qOp hw' (fun a' w'' hw'' e => ?_) (hy3.qOp (K := fun a' => a' = (a.put (some d) (ptr W)).put oi.dst v2) hoi rfl))
      subst e
      have hne : ∀ t, some d = some t → oi.dst ≠ some t := fun t ht hd' => by
        cases ht
        obtain ⟨os, hos, _⟩ := B.op
        have hs' : ∃ o, ops'[s]? = some o := ⟨ops'[s]'(Nat.lt_trans B.sn B.small), Array.getElem?_eq_getElem _⟩
        obtain ⟨o, ho⟩ := hs'
        exact B.apart s i o oi B.sn hin (Ne.symm his) ho hoi d (B.dst o ho) hd'
      rw [show (a.put (some d) (ptr W)).put oi.dst v2 = (a.put oi.dst v0).put (some d) (ptr W) by rw [← he]; exact Act.put_comm a (ptr W) v2 hne]
      exact (alloc_any B hLeaf hg f _ _ (inv.set hi hin) hK).2 (by rw [getD_set_ne true his]; exact hl) W w'' hW hw''

end

/-! ### an edge more -/
section
variable {P : Program} {ops ops' : Array Oper} {md : Region.Mode}

/-- The operations with one edge more: t waits for k, which takes a tuple apart and whose own edges t has. -/
structure Edged (md : Region.Mode) (ops ops' : Array Oper) (k t : Nat) : Prop where
  size : ops'.size = ops.size
  kt : k ≠ t
  other : ∀ i, i ≠ t → ops'[i]? = ops[i]?
  at_t : ∃ ot e, ops[t]? = some ot ∧ ops'[t]? = some { ot with after := ot.after.push e } ∧ Region.binds md e = true ∧ e.on = k
  at_k : ∃ ok x ix, ops[k]? = some ok ∧ ok.op = .extract x ix
  deps : ∀ ok ot, ops[k]? = some ok → ops[t]? = some ot → ∀ e ∈ ok.after, Region.binds md e = true → ∃ e' ∈ ot.after, Region.binds md e' = true ∧ e'.on = e.on
  free : ∀ ok j oj, ops[k]? = some ok → ops[j]? = some oj → j ≠ k → (∀ e ∈ ok.after, Region.binds md e = true → e.on ≠ j) → (∀ e ∈ oj.after, Region.binds md e = true → e.on ≠ k) → ok.apart ops oj = true
  sel : Region.noSelect ops = true

theorem wpOp_extract {i : Nat} {o : Oper} {x : Operand} {ix : Nat} {Q : Exit → Act → World → Prop} {K : Act → World → Prop} {a : Act} {w : World} (hi : ops[i]? = some o) (ho : o.op = .extract x ix) (h : wpOp P ops Q i K a w) :
    ∃ v, Yields P ops o v a ∧ K (a.put o.dst v) w := by
  unfold wpOp at h
  simp only [hi] at h
  by_cases hw : Region.wanted o (yielded ops a.tmps) = true
  · simp only [hw, if_true] at h
    cases hx : a.eval x with
    | tuple vs =>
      cases hv : vs[ix]? with
      | some v =>
        have hex : ∀ W, (execOp a.eval o).run P W = .ok (.value v) W := fun W => by
          unfold execOp; simp [ho, hx, Instr.extract, hv]
        refine ⟨v, .inl ⟨hw, hex⟩, ?_⟩
        rcases h with h | ⟨⟨h, _⟩, _⟩
        · unfold Oper.wp at h; rw [hex] at h; exact h
        · exfalso; unfold execOp at h; simp [ho, hx, Instr.extract, hv] at h; exact absurd h (Array.not_mem_empty _)
      | none =>
        exfalso
        rcases h with h | ⟨⟨h, _⟩, _⟩
        · unfold Oper.wp execOp at h; simp [ho, hx, Instr.extract, hv, Oper.upon, stuck, Sem.run] at h
        · unfold execOp at h; simp [ho, hx, Instr.extract, hv] at h; exact absurd h (Array.not_mem_empty _)
    | _ =>
      exfalso
      rcases h with h | ⟨⟨h, _⟩, _⟩
      · unfold Oper.wp execOp at h; simp [ho, hx, Instr.extract, Oper.upon, stuck, Sem.run] at h
      · unfold execOp at h; simp [ho, hx, Instr.extract] at h; exact absurd h (Array.not_mem_empty _)
  · simp only [hw] at h
    exact ⟨undef, .inr ⟨by simpa using hw, rfl⟩, h⟩

theorem wpAny_edge {k t : Nat} {Q : Exit → Act → World → Prop} (B : Edged md ops ops' k t) (hQ : ∀ (d : Option Tmp) v c a w, Q (.panic c) (a.put d v) w → Q (.panic c) a w) :
    ∀ (f : Nat) (listed : Array Bool) (a : Act) (w : World), listed.size = ops.size → (listed.getD t false = true → listed.getD k false = true) →
      wpAny P md ops' Q f listed a w → wpAny P md ops Q f listed a w := by
  obtain ⟨ot, e, hot, hot', hbe, hek⟩ := B.at_t
  obtain ⟨ok, x, ix, hok, hop⟩ := B.at_k
  have hks : k < ops.size := (Array.getElem?_eq_some_iff.1 hok).1
  have sub : ∀ (listed : Array Bool) i, i ∈ Region.ready md ops' listed → i ∈ Region.ready md ops listed := fun listed i hi => by
    rw [mem_ready] at *
    obtain ⟨h0, o, ho, hall⟩ := hi
    by_cases hit : i = t
    · subst hit
      rw [hot'] at ho
      cases ho
      exact ⟨h0, ot, hot, fun e' he' hb => hall e' (Array.mem_push.2 (.inl he')) hb⟩
    · rw [B.other i hit] at ho
      exact ⟨h0, o, ho, hall⟩
  have sup : ∀ (listed : Array Bool) i, i ∈ Region.ready md ops listed → (i = t → listed.getD k false = true) → i ∈ Region.ready md ops' listed := fun listed i hi hk => by
    rw [mem_ready] at *
    obtain ⟨h0, o, ho, hall⟩ := hi
    by_cases hit : i = t
    · subst hit
      rw [hot] at ho
      cases ho
      refine ⟨h0, _, hot', fun e' he' hb => ?_⟩
      rcases Array.mem_push.1 he' with h | h
      · exact hall e' h hb
      · subst h; rw [hek]; exact hk rfl
    · exact ⟨h0, o, by rw [B.other i hit]; exact ho, hall⟩
  have kr : ∀ (listed : Array Bool), listed.size = ops.size → t ∈ Region.ready md ops listed → listed.getD k false = false → k ∈ Region.ready md ops listed := fun listed hs ht hk => by
    rw [mem_ready] at ht
    obtain ⟨_, o, ho, hall⟩ := ht
    rw [hot] at ho
    cases ho
    refine mem_ready.2 ⟨getD_in (by omega) hk, ok, hok, fun e' he' hb => ?_⟩
    obtain ⟨e2, h1, h2, h3⟩ := B.deps ok ot hok hot e' he' hb
    rw [← h3]; exact hall e2 h1 h2
  have step : ∀ i (K : Act → World → Prop) a w, wpOp P ops' Q i K a w → wpOp P ops Q i K a w := fun i K a w h => by
    have hy : ∀ tm, yielded ops' tm = yielded ops tm := fun tm => by
      funext j
      unfold yielded
      by_cases hj : j = t
      · subst hj; rw [hot, hot']; rfl
      · rw [B.other j hj]
    unfold wpOp at *
    simp only [hy] at h
    by_cases hit : i = t
    · subst hit
      rw [hot'] at h
      rw [hot]
      exact h
    · rw [B.other i hit] at h
      exact h
  intro f
  induction f with
  | zero =>
    intro listed a w hs hinv h
    refine ⟨List.eq_nil_iff_forall_not_mem.2 fun i hi => ?_, h.2⟩
    cases hk : listed.getD k false with
    | true => have := sup listed i hi (fun _ => hk); rw [h.1] at this; cases this
    | false =>
      by_cases hit : i = t
      · subst hit
        have := sup listed k (kr listed hs hi hk) (fun e => absurd e B.kt)
        rw [h.1] at this; cases this
      · have := sup listed i hi (fun e => absurd e hit); rw [h.1] at this; cases this
  | succ f ih =>
    intro listed a w hs hinv h
    have inv' : ∀ i ∈ Region.ready md ops' listed, (listed.setIfInBounds i true).getD t false = true → (listed.setIfInBounds i true).getD k false = true := fun i hi ht => by
      by_cases hit : i = t
      · subst hit
        obtain ⟨_, o, ho, hall⟩ := mem_ready.1 hi
        rw [hot'] at ho
        cases ho
        have := hall e (Array.mem_push.2 (.inr rfl)) hbe
        rw [hek] at this
        exact getD_set_true this
      · rw [getD_set_ne false hit] at ht
        exact getD_set_true (hinv ht)
    have plain : (∀ i, i ∈ Region.ready md ops listed → i ∈ Region.ready md ops' listed) → wpAny P md ops Q (f + 1) listed a w := fun hall =>
      ⟨fun h0 => h.1 (List.eq_nil_iff_forall_not_mem.2 fun i hi => by have := sub listed i hi; rw [h0] at this; cases this),
       fun i hi => step i _ _ _ (wpOp_mono (fun a' w' h' => ih _ a' w' (by simpa using hs) (inv' i (hall i hi)) h') (h.2 i (hall i hi)))⟩
    cases hk : listed.getD k false with
    | true => exact plain fun i hi => sup listed i hi (fun _ => hk)
    | false =>
      by_cases ht : t ∈ Region.ready md ops listed
      · have hkr := kr listed hs ht hk
        have hkr' := sup listed k hkr (fun e => absurd e B.kt)
        obtain ⟨v, hy, hK⟩ := wpOp_extract (Q := Q) hok hop (step k _ _ _ (h.2 k hkr'))
        have hrec := ih _ _ _ (by simpa using hs) (inv' k hkr') hK
        exact wpAny_first hok (Region.noSelect_spec B.sel) (hQ ok.dst v) f listed a w (fun j oj hj hne hun hno => B.free ok j oj hok hj hne (fun e' he' hb heq => by
          obtain ⟨_, o, ho, hall⟩ := mem_ready.1 hkr
          rw [hok] at ho
          cases ho
          have := hall e' he' hb
          rw [heq, getD_both hun] at this
          cases this) hno) hkr hy hrec
      · exact plain fun i hi => sup listed i hi (fun e => absurd (e ▸ hi) ht)
end

/-! ### over a region that is written out -/
/-- The list with operation s blanked. -/
def blank : List Oper → Nat → List Oper
  | [], _ => []
  | o :: l, 0 => { o with op := .assign (.const undef) } :: l
  | o :: l, s + 1 => o :: blank l s
theorem blank_len : ∀ (l : List Oper) (s : Nat), (blank l s).length = l.length
  | [], _ => rfl
  | _ :: _, 0 => rfl
  | _ :: l, s + 1 => by simp [blank, blank_len l s]
theorem blank_ne : ∀ (l : List Oper) (s i : Nat), i ≠ s → l[i]? = (blank l s)[i]?
  | [], _, _, _ => rfl
  | _ :: _, 0, 0, h => absurd rfl h
  | _ :: _, 0, i + 1, _ => by simp [blank]
  | _ :: _, s + 1, 0, _ => by simp [blank]
  | _ :: l, s + 1, i + 1, h => by simpa [blank] using blank_ne l s i (by omega)
theorem blank_at : ∀ (l : List Oper) (s : Nat) (o : Oper), l[s]? = some o → (blank l s)[s]? = some { o with op := .assign (.const undef) }
  | [], _, _, h => by simp at h
  | _ :: _, 0, _, h => by simp at h; simp [blank, h]
  | _ :: l, s + 1, o, h => by simpa [blank] using blank_at l s o (by simpa using h)

/-- What is looked at in a region whose operation s makes a block: its slot d is read by no operation ahead of the tail, and no slot is written twice there. -/
def allocB (md : Region.Mode) (l : List Oper) (n s : Nat) (d : Tmp) : Bool :=
  let ops := (blank l s).toArray
  Region.lexTailB md ops n && decide (s < n) &&
  ((List.range n).all fun i => i == s || match ops[i]? with | some o => !(o.looksAt ops).contains d | none => true) &&
  ((List.range n).all fun i => (List.range n).all fun j => i == j || match ops[i]?, ops[j]? with
    | some a, some b => (match a.dst with | some t => b.dst != some t | none => true)
    | _, _ => true)

section
variable {P : Program} {w : World}
theorem blank_of {md : Region.Mode} {l : List Oper} {n s : Nat} {d : Tmp} {obj : Obj} {os : Oper} (hB : allocB md l n s d = true) (hos : l[s]? = some os) (hd : os.dst = some d) (hgd : os.guard = none)
    (hex : ∀ ρ W, (execOp ρ os).run P W = .ok (.value (ptr W)) (W.alloc obj)) : Blank P md l.toArray (blank l s).toArray n s d obj := by
  simp only [allocB, Region.lexTailB, Bool.and_eq_true, decide_eq_true_eq] at hB
  obtain ⟨⟨⟨⟨⟨⟨⟨hsel, hn⟩, hs⟩, hc⟩, hlex⟩, hsn⟩, hlook⟩, hap⟩ := hB
  have hsize : (blank l s).toArray.size = l.toArray.size := by simp [blank_len]
  have hat := blank_at l s os hos
  have hdst : ∀ t : Nat, (l.toArray[t]?).bind (·.dst) = ((blank l s).toArray[t]?).bind (·.dst) := fun t => by
    by_cases e : t = s
    · subst e; simp [hos, hat]
    · simp [blank_ne l s t e]
  have haft : ∀ t : Nat, (l.toArray[t]?).map (·.after) = ((blank l s).toArray[t]?).map (·.after) := fun t => by
    by_cases e : t = s
    · subst e; simp [hos, hat]
    · simp [blank_ne l s t e]
  refine { ready := fun listed => ?_, yields := fun t => ?_, same := fun i hi => by simpa using blank_ne l s i hi, op := ⟨os, by simpa using hos, hd, hgd, hex⟩, dst := fun o ho => ?_, looks := fun i o hi his ho => ?_, apart := fun i j oi oj hi hj hij hoi hoj t ht => ?_, sel := hsel, sink := hs, chain := hc, small := hn, sn := hsn }
  · unfold Region.ready
    rw [hsize]
    refine List.filter_congr fun i _ => ?_
    have := haft i
    congr 1
    have h2 : ∀ (x : Option Oper) (f : Array Edge → Bool), (x.map fun o => f o.after) = (x.map (·.after)).map f := fun x f => by cases x <;> rfl
    rw [h2 (l.toArray[i]?) (fun a => a.all fun e => !Region.binds md e || listed.getD e.on false), h2 ((blank l s).toArray[i]?) (fun a => a.all fun e => !Region.binds md e || listed.getD e.on false), this]
  · funext j
    unfold yielded
    rw [hdst]
  · simp only [List.getElem?_toArray, hat, Option.some.injEq] at ho
    subst ho; exact hd
  · have h1 := List.all_eq_true.1 hlook i (List.mem_range.2 hi)
    simp only [ho, Bool.or_eq_true, beq_iff_eq, his, false_or, Bool.not_eq_true', List.contains_eq_mem, decide_eq_false_iff_not] at h1
    exact h1
  · have h1 := List.all_eq_true.1 (List.all_eq_true.1 hap i (List.mem_range.2 hi)) j (List.mem_range.2 hj)
    simp only [hoi, hoj, ht, Bool.or_eq_true, beq_iff_eq, hij, false_or] at h1
    exact bne_iff_ne.1 h1

theorem any_alloc {Q : Exit → Act → World → Prop} {a : Act} {l : List Oper} (n s : Nat) (d : Tmp) (obj : Obj) (hB : allocB .any l n s d = true)
    (os : Oper) (hos : l[s]? = some os) (hd : os.dst = some d) (hgd : os.guard = none) (hex : ∀ ρ W, (execOp ρ os).run P W = .ok (.value (ptr W)) (W.alloc obj))
    (h : ∃ A, (∀ C, Good w C → wpQuiet P (blank l s).toArray C (fun a' => a' = A) ((blank l s).take n) a) ∧
      ∀ W w', Cls w W → Below (W.heap.size + 1) (W.alloc obj) w' → wpList P l.toArray Q (l.drop n) (A.put (some d) (ptr W)) w') (w0 : World) (hw0 : Cls w w0) :
    wpAny P .any l.toArray Q l.toArray.size (Array.replicate l.toArray.size false) a w0 := by
  obtain ⟨A, h, ht⟩ := h
  have B := blank_of hB hos hd hgd hex
  simp only [allocB, Region.lexTailB, Bool.and_eq_true, decide_eq_true_eq] at hB
  obtain ⟨⟨⟨⟨⟨⟨⟨hsel, hn⟩, hs⟩, hc⟩, hlex⟩, hsn⟩, hlook⟩, hap⟩ := hB
  have hsize : (blank l s).toArray.size = l.toArray.size := by simp [blank_len]
  have hlen := blank_len l s
  have hn' : n < l.length := by simpa [hlen] using hn
  have htl : ((blank l s).take n).length = n := by simp; omega
  have hdl : (l.drop n).length = l.toArray.size - n := by simp
  have inv0 : HeadInv .any (blank l s).toArray n (Array.replicate (blank l s).toArray.size false) :=
    ⟨by simp, fun j oj _ hl => (by rw [getD_replicate_false] at hl; cases hl), fun t _ ht => getD_in (by simpa using ht) (getD_replicate_false _ _)⟩
  have seq_eq : ∀ (g k : Nat) (listed : Array Bool), Region.seqB .any (blank l s).toArray g k listed = Region.seqB .any l.toArray g k listed := by
    intro g
    induction g with
    | zero => intro k listed; simp only [Region.seqB, B.ready]
    | succ g ih => intro k listed; simp only [Region.seqB, B.ready, ih]
  have H := fun C (hC : Good w C) => wpAnyC_lex (md := .any) (C := C) (g := (blank l s).toArray.size - n) hsel hs hc hn ((blank l s).take n) 0 _ a (fun j hj => by
    have hj' : j < n := by rw [htl] at hj; exact hj
    simp [hj']) (by simpa using htl) inv0 (by rw [htl]; exact hlex) (h C hC)
  have := (alloc_any (Q' := Q) (g := l.toArray.size - n) B (fun listed hq W w' hW hw' => by
    rw [seq_eq] at hq
    have := wpAny_of_seq (md := .any) (Q' := Q) (l.drop n) n listed (A.put (some d) (ptr W)) w' (fun j => by simp [List.getElem?_drop]) (by rw [hdl]; exact hq) (ht W w' hW hw')
    rwa [hdl] at this) (by simp; omega) _ _ a inv0 (by rw [← hsize]; exact H)).1 (by rw [hsize]; exact getD_in (by simp; omega) (getD_replicate_false _ _)) w0 hw0
  rw [htl, hsize, show n + (l.toArray.size - n) = l.toArray.size by simp; omega] at this
  exact this

/-- The list with one edge more: t waits for k. -/
def edge (k : Nat) : List Oper → Nat → List Oper
  | [], _ => []
  | o :: l, 0 => { o with after := o.after.push ⟨k, .data⟩ } :: l
  | o :: l, t + 1 => o :: edge k l t
theorem edge_len (k : Nat) : ∀ (l : List Oper) (t : Nat), (edge k l t).length = l.length
  | [], _ => rfl
  | _ :: _, 0 => rfl
  | _ :: l, t + 1 => by simp [edge, edge_len k l t]
theorem edge_ne (k : Nat) : ∀ (l : List Oper) (t i : Nat), i ≠ t → (edge k l t)[i]? = l[i]?
  | [], _, _, _ => rfl
  | _ :: _, 0, 0, h => absurd rfl h
  | _ :: _, 0, i + 1, _ => by simp [edge]
  | _ :: _, t + 1, 0, _ => by simp [edge]
  | _ :: l, t + 1, i + 1, h => by simpa [edge] using edge_ne k l t i (by omega)
theorem edge_at (k : Nat) : ∀ (l : List Oper) (t : Nat) (o : Oper), l[t]? = some o → (edge k l t)[t]? = some { o with after := o.after.push ⟨k, .data⟩ }
  | [], _, _, h => by simp at h
  | _ :: _, 0, _, h => by simp at h; simp [edge, h]
  | _ :: l, t + 1, o, h => by simpa [edge] using edge_at k l t o (by simpa using h)
/-- What is looked at before an edge is added. -/
def edgeB (md : Region.Mode) (l : List Oper) (k t : Nat) : Bool :=
  let ops := l.toArray
  Region.noSelect ops && k != t && match ops[k]?, ops[t]? with
  | some ok, some ot => (match ok.op with | .extract _ _ => true | _ => false) &&
      (ok.after.all fun e => !Region.binds md e || ot.after.any fun e' => Region.binds md e' && e'.on == e.on) &&
      (List.range ops.size).all fun j => j == k || match ops[j]? with
        | some oj => ok.after.any (fun e => Region.binds md e && e.on == j) || oj.after.any (fun e => Region.binds md e && e.on == k) || ok.apart ops oj
        | none => true
  | _, _ => false
theorem edged_of {md : Region.Mode} {l : List Oper} {k t : Nat} (h : edgeB md l k t = true) : Edged md l.toArray (edge k l t).toArray k t := by
  unfold edgeB at h
  simp only [Bool.and_eq_true, bne_iff_ne] at h
  obtain ⟨⟨hsel, hkt⟩, h⟩ := h
  split at h
  · rename_i ok ot hok hot
    simp only [Bool.and_eq_true] at h
    obtain ⟨⟨hop, hdep⟩, hfree⟩ := h
    have hot' : l[t]? = some ot := by simpa using hot
    refine ⟨by simp [edge_len], hkt, fun i hi => by simpa using edge_ne k l t i hi, ⟨ot, ⟨k, .data⟩, hot, by simpa using edge_at k l t ot hot', rfl, rfl⟩, ?_, fun ok' ot' h1 h2 e he hb => ?_, fun ok' j oj h1 h2 hne hnk hno => ?_, hsel⟩
    · split at hop
      · rename_i x ix hx
        exact ⟨ok, x, ix, hok, hx⟩
      · cases hop
    · rw [hok] at h1
      rw [hot] at h2
      cases h1
      cases h2
      have := Array.all_eq_true_iff_forall_mem.1 hdep e he
      simp only [hb, Bool.not_true, Bool.false_or] at this
      obtain ⟨e', he', h'⟩ := Array.any_eq_true'.1 this
      simp only [Bool.and_eq_true, beq_iff_eq] at h'
      exact ⟨e', he', h'.1, h'.2⟩
    · rw [hok] at h1
      cases h1
      have := List.all_eq_true.1 hfree j (List.mem_range.2 (Array.getElem?_eq_some_iff.1 h2).1)
      simp only [h2, Bool.or_eq_true, beq_iff_eq, hne, false_or] at this
      rcases this with (h' | h') | h'
      · obtain ⟨e, he, hb⟩ := Array.any_eq_true'.1 h'
        simp only [Bool.and_eq_true, beq_iff_eq] at hb
        exact absurd hb.2 (hnk e he hb.1)
      · obtain ⟨e, he, hb⟩ := Array.any_eq_true'.1 h'
        simp only [Bool.and_eq_true, beq_iff_eq] at hb
        exact absurd hb.2 (hno e he hb.1)
      · exact h'
  · cases h
/-- The list with some edges more. -/
def edges : List Oper → List (Nat × Nat) → List Oper
  | l, [] => l
  | l, (k, t) :: es => edges (edge k l t) es
def edgesB (md : Region.Mode) : List Oper → List (Nat × Nat) → Bool
  | _, [] => true
  | l, (k, t) :: es => edgeB md l k t && edgesB md (edge k l t) es
theorem any_edges {Q : Exit → Act → World → Prop} {a : Act} (hQ : ∀ (d : Option Tmp) v c a w, Q (.panic c) (a.put d v) w → Q (.panic c) a w) {w0 : World} : ∀ (es : List (Nat × Nat)) (l : List Oper), edgesB .any l es = true →
    wpAny P .any (edges l es).toArray Q (edges l es).toArray.size (Array.replicate (edges l es).toArray.size false) a w0 → wpAny P .any l.toArray Q l.toArray.size (Array.replicate l.toArray.size false) a w0
  | [], _, _, h => h
  | (k, t) :: es, l, hB, h => by
    simp only [edgesB, Bool.and_eq_true] at hB
    have hs : (edge k l t).toArray.size = l.toArray.size := by simp [edge_len]
    have := any_edges hQ es _ hB.2 h
    rw [hs] at this
    exact wpAny_edge (edged_of hB.1) hQ _ _ _ _ (by simp) (fun h => by rw [getD_replicate_false] at h; cases h) this

/-- A region that draws its order: n operations that read and call, among them operation s, which makes a block; then a tail in one order. es: pairs (k, t): operation k, which takes a tuple apart, is taken ahead of t. -/
theorem region_alloc {id : Nat} {Q : Exit → Act → World → Prop} {a : Act} {l : List Oper} (n s : Nat) (d : Tmp) (obj : Obj) (es : List (Nat × Nat)) (hm : P.follows .mixedOrders = true) (hE : edgesB .any l es = true) (hB : allocB .any (edges l es) n s d = true)
    (hQ : ∀ (d : Option Tmp) v c a w, Q (.panic c) (a.put d v) w → Q (.panic c) a w)
    (os : Oper) (hos : (edges l es)[s]? = some os) (hd : os.dst = some d) (hgd : os.guard = none) (hex : ∀ ρ W, (execOp ρ os).run P W = .ok (.value (ptr W)) (W.alloc obj))
    (h : ∃ A, (∀ C, Good w C → wpQuiet P (blank (edges l es) s).toArray C (fun a' => a' = A) ((blank (edges l es) s).take n) a) ∧
      ∀ W w', Cls w W → Below (W.heap.size + 1) (W.alloc obj) w' → wpList P (edges l es).toArray Q ((edges l es).drop n) (A.put (some d) (ptr W)) w') : (Code.region id l.toArray true).wp P Q a w :=
  wp_region_any hm (any_edges hQ es l hE (any_alloc n s d obj hB os hos hd hgd hex h _ (Below.refl _ _).drew))

theorem alc_back {w W w' : World} {obj : Obj} (hW : Cls w W) (hb : Below (W.heap.size + 1) (W.alloc obj) w') : Cls w w' := by
  have h1 : Below w.heap.size w (W.alloc obj) := Below.alloc hW (Below.size hW) _
  exact Below.trans h1 (hb.mono (by have := Below.size hW; omega))
theorem alc_cell2 {W w' : World} {u v : Value} {t : TypeId} (hb : Below (W.heap.size + 1) (W.alloc (.cells #[u, v] t)) w') :
    w'.cell? ⟨W.heap.size, 0, none⟩ = some u ∧ w'.cell? ⟨W.heap.size, 1, none⟩ = some v ∧ w'.frozen? ⟨W.heap.size, 0, none⟩ = false ∧ w'.frozen? ⟨W.heap.size, 1, none⟩ = false ∧ W.heap.size < w'.heap.size := by
  have c0 : (W.alloc (.cells #[u, v] t)).cell? ⟨W.heap.size, 0, none⟩ = some u := by simp [go_sem]
  have c1 : (W.alloc (.cells #[u, v] t)).cell? ⟨W.heap.size, 1, none⟩ = some v := by simp [go_sem]
  have f0 : (W.alloc (.cells #[u, v] t)).frozen? ⟨W.heap.size, 0, none⟩ = false := by simp [go_sem]
  have f1 : (W.alloc (.cells #[u, v] t)).frozen? ⟨W.heap.size, 1, none⟩ = false := by simp [go_sem]
  have h0 := hb.cell (p := ⟨W.heap.size, 0, none⟩) (Nat.lt_succ_self _)
  have h1 := hb.cell (p := ⟨W.heap.size, 1, none⟩) (Nat.lt_succ_self _)
  have g0 := hb.frozen (p := ⟨W.heap.size, 0, none⟩) (Nat.lt_succ_self _)
  have g1 := hb.frozen (p := ⟨W.heap.size, 1, none⟩) (Nat.lt_succ_self _)
  refine ⟨h0.trans c0, h1.trans c1, g0.trans f0, g1.trans f1, ?_⟩
  have := hb.size
  simp at this
  omega
end
end Go.Proofs.Ytaibocobeibobaa.Reg
