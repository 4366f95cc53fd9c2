/-
  Calls in a region that draws its order, one by one or two in either order.
-/
import Derived.Test.YtaibocobeibobaaHd
namespace Go.Proofs.Ytaibocobeibobaa.Ln
open Go.RowKit
open Go.Proofs.Ytaibocobeibobaa

section
variable {P : Program} {md : Region.Mode} {l : List Oper} {Q : Exit → Act → World → Prop} {S : World → Prop} {fuel : Nat} {listed : Array Bool} {a : Act} {w : World}
/-- A call met. -/
theorem call_wp {o : Oper} {K : Act → World → Prop} {f : FuncId} {args : Array Value} (hrun : (execOp a.eval o).run P w = .ok (.enter f args) w)
    (hc : Calls P f args w fun e w' => ∃ v, e = .returned v ∧ K (a.put o.dst v) w') : Oper.wp P o a w K Q := by
  unfold Oper.wp
  rw [hrun, Oper.upon_enter]
  exact hc.mono (by rintro e w' ⟨v, rfl, hk⟩; exact hk)
/-- A call that alone may come up. -/
theorem call_at (i : Nat) (hi : i < l.length) {Pi : Value → World → Prop} {f : FuncId} {args : Array Value} (hr : Region.ready md l.toArray listed = [i]) (hw : Region.wanted l[i] (yielded l.toArray a.tmps) = true)
    (he : (execOp a.eval l[i]).run P w = .ok (.enter f args) w) (hc : Calls P f args w fun e w' => ∃ v, e = .returned v ∧ Pi v w' ∧ S w')
    (h : ∀ W u, S W → Pi u W → wpAnyH P md l.toArray Q S fuel (listed.setIfInBounds i true) (a.put l[i].dst u) W) : wpAnyH P md l.toArray Q S (fuel + 1) listed a w :=
  one_at i hi hr hw fun K hK => call_wp he (hc.mono (by rintro e w' ⟨v, rfl, hp, hs⟩; exact ⟨v, rfl, hK.out _ _ hs (fun _ => h w' v hs hp)⟩))
/-- Two calls that may come up in either order. -/
theorem pair_at (i j : Nat) (hi : i < l.length) (hj : j < l.length) (hij : i ≠ j) {Pi Pj : Value → World → Prop} {fi fj : FuncId} {ai aj : Array Value} (hS : S w)
    (hr : Region.ready md l.toArray listed = [i, j]) (hri : Region.ready md l.toArray (listed.setIfInBounds i true) = [j]) (hrj : Region.ready md l.toArray (listed.setIfInBounds j true) = [i])
    (wi : Region.wanted l[i] (yielded l.toArray a.tmps) = true) (wj : Region.wanted l[j] (yielded l.toArray a.tmps) = true)
    (wi' : ∀ v, Region.wanted l[i] (yielded l.toArray (a.put l[j].dst v).tmps) = true) (wj' : ∀ v, Region.wanted l[j] (yielded l.toArray (a.put l[i].dst v).tmps) = true)
    (ei : ∀ W, (execOp a.eval l[i]).run P W = .ok (.enter fi ai) W) (ej : ∀ W, (execOp a.eval l[j]).run P W = .ok (.enter fj aj) W)
    (ei' : ∀ v W, (execOp (a.put l[j].dst v).eval l[i]).run P W = .ok (.enter fi ai) W) (ej' : ∀ v W, (execOp (a.put l[i].dst v).eval l[j]).run P W = .ok (.enter fj aj) W)
    (ci : ∀ W, S W → Calls P fi ai W fun e w' => ∃ v, e = .returned v ∧ Pi v w' ∧ S w' ∧ ∀ u, Pj u W → Pj u w')
    (cj : ∀ W, S W → Calls P fj aj W fun e w' => ∃ v, e = .returned v ∧ Pj v w' ∧ S w' ∧ ∀ u, Pi u W → Pi u w')
    (hd : ∀ u v, (a.put l[i].dst u).put l[j].dst v = (a.put l[j].dst v).put l[i].dst u)
    (h : ∀ W u v, S W → Pi u W → Pj v W → wpAnyH P md l.toArray Q S fuel ((listed.setIfInBounds i true).setIfInBounds j true) ((a.put l[i].dst u).put l[j].dst v) W) : wpAnyH P md l.toArray Q S (fuel + 1 + 1) listed a w := by
  refine wpAnyH_ready hr (by simp) (AllReadyH.cons (o := l[i]) (by simp [hi]) (fun K hK => ?_) (AllReadyH.cons (o := l[j]) (by simp [hj]) (fun K hK => ?_) AllReadyH.nil))
  · rw [if_pos wi]
    refine call_wp (ei w) ((ci w hS).mono ?_)
    rintro e w1 ⟨u, rfl, hu, hs1, _⟩
    refine ⟨u, rfl, hK.out _ _ hs1 (fun _ => ?_)⟩
    refine one_at j hj hri (wj' u) fun K2 hK2 => call_wp (ej' u w1) ((cj w1 hs1).mono ?_)
    rintro e w2 ⟨v, rfl, hv, hs2, hkeep⟩
    exact ⟨v, rfl, hK2.out _ _ hs2 (fun _ => h w2 u v hs2 (hkeep u hu) hv)⟩
  · rw [if_pos wj]
    refine call_wp (ej w) ((cj w hS).mono ?_)
    rintro e w1 ⟨v, rfl, hv, hs1, _⟩
    refine ⟨v, rfl, hK.out _ _ hs1 (fun _ => ?_)⟩
    refine one_at i hi hrj (wi' v) fun K2 hK2 => call_wp (ei' v w1) ((ci w1 hs1).mono ?_)
    rintro e w2 ⟨u, rfl, hu, hs2, hkeep⟩
    refine ⟨u, rfl, hK2.out _ _ hs2 (fun _ => ?_)⟩
    rw [← hd u v, Array.setIfInBounds_comm _ _ (Ne.symm hij)]
    exact h w2 u v hs2 hu (hkeep v hv)
/-- A contract, as the laws for regions want it. -/
theorem call_of {S : World → Prop} {Pi Pj : Value → World → Prop} {f : FuncId} {args : Array Value} {W : World} (hm : ∀ W W', S W → Below W.heap.size W W' → S W') (hp : ∀ u W W', Below W.heap.size W W' → Pj u W → Pj u W') (hS : S W)
    (h : Calls P f args W fun e w' => ∃ v, e = .returned v ∧ Pi v w' ∧ Below W.heap.size W w') : Calls P f args W fun e w' => ∃ v, e = .returned v ∧ Pi v w' ∧ S w' ∧ ∀ u, Pj u W → Pj u w' :=
  h.mono fun _ _ ⟨v, he, hv, hb⟩ => ⟨v, he, hv, hm _ _ hS hb, fun u => hp u _ _ hb⟩
theorem call_cst {S : World → Prop} {c : Value} {Pj : Value → World → Prop} {f : FuncId} {args : Array Value} {W : World} (hm : ∀ W W', S W → Below W.heap.size W W' → S W') (hp : ∀ u W W', Below W.heap.size W W' → Pj u W → Pj u W') (hS : S W)
    (h : Calls P f args W fun e w' => e = .returned c ∧ Below W.heap.size W w') : Calls P f args W fun e w' => ∃ v, e = .returned v ∧ v = c ∧ S w' ∧ ∀ u, Pj u W → Pj u w' :=
  h.mono fun _ _ ⟨he, hb⟩ => ⟨c, he, rfl, hm _ _ hS hb, fun u => hp u _ _ hb⟩
theorem call_pv {S : World → Prop} {Pi : Value → World → Prop} {f : FuncId} {args : Array Value} {W : World} (hm : ∀ W W', S W → Below W.heap.size W W' → S W') (hS : S W)
    (h : Calls P f args W fun e w' => ∃ v, e = .returned v ∧ Pi v w' ∧ Below W.heap.size W w') : Calls P f args W fun e w' => ∃ v, e = .returned v ∧ Pi v w' ∧ S w' :=
  h.mono fun _ _ ⟨v, he, hv, hb⟩ => ⟨v, he, hv, hm _ _ hS hb⟩
theorem call_pk {S : World → Prop} {Pi Pj : Value → World → Prop} {u : Value} {f : FuncId} {args : Array Value} {W : World} (hm : ∀ W W', S W → Below W.heap.size W W' → S W') (hp : ∀ u W W', Below W.heap.size W W' → Pj u W → Pj u W') (hS : S W) (hu : Pj u W)
    (h : Calls P f args W fun e w' => ∃ v, e = .returned v ∧ Pi v w' ∧ Below W.heap.size W w') : Calls P f args W fun e w' => ∃ v, e = .returned v ∧ (Pi v w' ∧ Pj u w') ∧ S w' :=
  h.mono fun _ _ ⟨v, he, hv, hb⟩ => ⟨v, he, ⟨hv, hp _ _ _ hb hu⟩, hm _ _ hS hb⟩
theorem call_keep {S : World → Prop} {c : Value} {f : FuncId} {args : Array Value} {W : World} (hS : S W) (h : Calls P f args W fun e w' => e = .returned c ∧ W = w') : Calls P f args W fun e w' => ∃ v, e = .returned v ∧ v = c ∧ S w' :=
  h.mono fun _ _ ⟨he, hb⟩ => ⟨c, he, rfl, hb ▸ hS⟩
theorem call_one {S : World → Prop} {c : Value} {f : FuncId} {args : Array Value} {W : World} (hm : ∀ W W', S W → Below W.heap.size W W' → S W') (hS : S W)
    (h : Calls P f args W fun e w' => e = .returned c ∧ Below W.heap.size W w') : Calls P f args W fun e w' => ∃ v, e = .returned v ∧ v = c ∧ S w' :=
  h.mono fun _ _ ⟨he, hb⟩ => ⟨c, he, rfl, hm _ _ hS hb⟩
end
/-- A block is known, and old memory is as it was. -/
def SQ (w0 : World) (g : Nat) (cs : Array Value) (t : TypeId) (W : World) : Prop := Bk.Blk W g cs t ∧ Below w0.heap.size w0 W
theorem SQ.mono {w0 : World} {g : Nat} {cs : Array Value} {t : TypeId} : ∀ W W', SQ w0 g cs t W → Below W.heap.size W W' → SQ w0 g cs t W' := fun _ _ h hb => ⟨h.1.later hb, bl2 hb h.2⟩
/-- Two blocks are known, and old memory is as it was. -/
def SQ2 (w0 : World) (g : Nat) (cs : Array Value) (g' : Nat) (cs' : Array Value) (t : TypeId) (W : World) : Prop := (Bk.Blk W g cs t ∧ Bk.Blk W g' cs' t) ∧ Below w0.heap.size w0 W
theorem SQ2.mono {w0 : World} {g g' : Nat} {cs cs' : Array Value} {t : TypeId} : ∀ W W', SQ2 w0 g cs g' cs' t W → Below W.heap.size W W' → SQ2 w0 g cs g' cs' t W' := fun _ _ h hb => ⟨⟨h.1.1.later hb, h.1.2.later hb⟩, bl2 hb h.2⟩
/-- Parts that a call has returned. -/
def PartsV (ps : List Pa) (v : Value) (W : World) : Prop := ∃ a c, v = .slice a ps.length c ∧ RowIn penc W a ps
theorem PartsV.mono {ps : List Pa} : ∀ u W W', Below W.heap.size W W' → PartsV ps u W → PartsV ps u W' := fun _ _ _ hb ⟨a, c, he, hr⟩ => ⟨a, c, he, hr.later hb⟩
end Go.Proofs.Ytaibocobeibobaa.Ln
