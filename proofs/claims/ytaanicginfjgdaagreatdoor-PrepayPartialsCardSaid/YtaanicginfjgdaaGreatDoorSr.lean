/-
 A slice of the call's own, nil or in a block of its own, that grows by append; its elements laid flat.
-/
import Derived.Test.YtaanicginfjgdaaGreatDoorLa
import Derived.Test.YtaanicginfjgdaaGreatDoorKc0
import Derived.Maps.AppendAt
namespace Go.Proofs.YtaanicginfjgdaaGreatDoor.Sr
open Go Go.RowKit
open Go.Proofs.YtaanicginfjgdaaGreatDoor
open Go.Proofs.YtaanicginfjgdaaGreatDoor.Ln (flat flat_len flat_get RowIn OwnR Du denc denc_one denc_len)

section
variable {α : Type} {enc : α → List Value} {k : Nat} {T : TypeId}
def GV (enc : α → List Value) (k : Nat) (T : TypeId) (W : World) (B : Nat) (v : Value) (xs : List α) : Prop := W.ownsRow B T k v xs.length (flat enc xs) ∧ ∃ a c, v = .slice a xs.length c
theorem GV.nil (W : World) (B : Nat) : GV enc k T W B (.slice none 0 0) [] := ⟨⟨by simp [flat], .inl ⟨rfl, rfl⟩⟩, none, 0, rfl⟩
theorem GV.row {W : World} {B : Nat} {v : Value} {xs : List α} (h : GV enc k T W B v xs) : ∃ a c, v = .slice a xs.length c ∧ RowIn enc W a xs ∧ (∀ ad, a = some ad → B ≤ ad.block) := by
 obtain ⟨ho, a, c, rfl⟩ := h
 by_cases hn : (Value.slice a xs.length c) = .slice none 0 0
 ·obtain ⟨rfl, h0, rfl⟩ := by simpa using hn
  exact ⟨none, 0, rfl, fun h => by simp [h0] at h, fun ad h => by cases h⟩
 ·obtain ⟨g, c', he, hr⟩ := OwnR.of ho hn
  obtain ⟨rfl, _, rfl⟩ := by simpa using he
  exact ⟨_, _, rfl, hr.row, fun ad h => by cases h; exact hr.1⟩
theorem GV.later {W w1 : World} {B : Nat} {v : Value} {xs : List α} (hb : Below W.heap.size W w1) (h : GV enc k T W B v xs) : GV enc k T w1 B v xs := by
 obtain ⟨⟨hl, ho⟩, hs⟩ := h
 refine ⟨⟨hl, ?_⟩, hs⟩
 rcases ho with ho | ⟨g, cap, cur, h1, h2, h3, h4⟩
 ·exact .inl ho
 ·exact .inr ⟨g, cap, cur, h1, h2, Bk.Blk.later hb h3, h4⟩
theorem GV.lt {W : World} {B : Nat} {v : Value} {xs : List α} (h : GV enc k T W B v xs) : ∀ j, v.ownBlock = some j → j < W.heap.size ∧ B ≤ j := by
 obtain ⟨⟨hl, ho⟩, hs⟩ := h
 rcases ho with ho | ⟨g, cap, cur, rfl, h2, h3, h4⟩
 ·intro j hj; rw [ho.1] at hj; cases hj
 ·intro j hj
  obtain rfl : g = j := by simpa [Value.ownBlock] using hj
  exact ⟨Bk.Blk.lt h3, h2⟩
theorem GV.len {W : World} {B : Nat} {v : Value} {xs : List α} (h : GV enc k T W B v xs) : ∃ a c, v = .slice a xs.length c := h.2
theorem OwnR.gv {W : World} {B g c : Nat} {xs : List α} (hk : ∀ x, (enc x).length = k) (k0 : 0 < k) (h : OwnR enc k T W B g c xs) : GV enc k T W B (.slice (some ⟨g, 0, none⟩) xs.length c) xs := by
 obtain ⟨h1, h2, X, h3, h4⟩ := h
 have hc : xs.length ≤ c := by
  apply Classical.byContradiction
  intro hn
  have : (c + 1) * k ≤ xs.length * k := Nat.mul_le_mul_right k (by omega)
  rw [Nat.add_mul] at this
  omega
 refine ⟨⟨flat_len hk xs, .inr ⟨g, c, _, rfl, h1, h4, hc, h2, ?_, ?_⟩⟩, _, _, rfl⟩
 ·simp only [List.size_toArray, List.length_append, flat_len hk xs]; exact h3
 ·simp only []
  rw [List.take_append_of_le_length (by rw [flat_len hk]; exact Nat.le_refl _), List.take_of_length_le (by rw [flat_len hk]; exact Nat.le_refl _)]
theorem app_gv {ST : TypeId} {z : Value} {bytes : Nat} (hk : ∀ x, (enc x).length = k) (he : ∀ x, ∀ u ∈ enc x, u.oneCell' = true) (k0 : 0 < k) (kb : bytes ≤ 1024) (hzs : z.cells.size = k)
  (hinfo : (Tryz.prog.info? T).map (fun i => (i.zero, i.size, i.bytes)) = some (some z, k, bytes)) (hu : Tryz.prog.underlying ST = some (.slice T))
  {ops : Array Oper} {rest : List Oper} {o : Oper} {a : Act} {Q : Exit → Act → World → Prop} {W : World} {B : Nat} {v : Value} {xs : List α} (x : α) (hgd : o.guard = none) (s y : Operand)
  (ho : o.op = .call { callee := .builtin .append, args := #[s, y], argTypes := #[ST, ST] }) (hs : a.eval s = v) (hr : GV enc k T W B v xs)
  (hy : a.eval y = .slice (some ⟨W.heap.size, 0, none⟩) 1 1) (hl : xs.length ≤ 1000000) (hB : B ≤ W.heap.size)
  (h : ∀ v' w', GV enc k T w' B v' (xs ++ [x]) → (W.alloc (.cells (enc x).toArray T)).grownBy w' v.ownBlock → (v'.ownBlock = v.ownBlock ∨ v'.ownBlock = some (W.heap.size + 1)) → wpList Tryz.prog ops Q rest (a.put o.dst v') w') :
  wpList Tryz.prog ops Q (o :: rest) a (W.alloc (.cells (enc x).toArray T)) := by
 obtain ⟨i, hi, hzz⟩ := Option.map_eq_some_iff.1 hinfo
 simp only [Prod.mk.injEq] at hzz
 obtain ⟨hz, hsz, hby⟩ := hzz
 refine wpList_append_own_at _ hgd s y ST ho B T i z k bytes hu hi hz hsz hby hzs k0 v xs.length (flat enc xs) hs (hr.1.alloc _) ⟨W.heap.size, 0, none⟩ 1 1 (enc x) hy (by rw [hk, Nat.one_mul]) ?_ (he x) (by unfold maxLen; omega) ?_ (by simp; omega) ?_
 ·intro j u hj
  rw [show (⟨W.heap.size, 0, none⟩ : Addr).add j = ⟨W.heap.size, 0 + j, none⟩ from Go.WideShapes.add_plain .., Nat.zero_add]
  have hk := Bk.Blk.nw10 (W := W) (cs := (enc x).toArray) (t := T)
  rw [hk.cell]
  simpa using hj
 ·calc (xs.length + 1) * bytes ≤ 1000001 * 1024 := Nat.mul_le_mul (by omega) kb
   _ ≤ 140737488355328 := by decide
 ·intro v' w' hown hgr hnil hat
  refine h v' w' ?_ hgr (by simpa using hat)
  have e : flat enc xs ++ enc x = flat enc (xs ++ [x]) := by simp [flat]
  rw [e, show xs.length + 1 = (xs ++ [x]).length by simp] at hown
  refine ⟨hown, ?_⟩
  have hn : v' ≠ .slice none 0 0 := fun hv => by have := (hnil.1 hv).2; omega
  obtain ⟨g, c, rfl, _⟩ := OwnR.of hown hn
  exact ⟨_, _, rfl⟩
theorem grown_below {W w1 : World} {v : Value} {xs : List α} {w : World} {cs : Array Value} (hb : Below w.heap.size w W) (hr : GV enc k T W w.heap.size v xs) (hg : (W.alloc (.cells cs T)).grownBy w1 v.ownBlock) : Below w.heap.size w w1 :=
 (hb.alloc hb.size _).grown hg (by have := hb.size; simp; omega) (fun j hj => (hr.lt j hj).2)
theorem grown_blk {W w1 : World} {v : Value} {g : Nat} {cs ds : Array Value} {t : TypeId} (hk : Bk.Blk W g ds t) (hg : (W.alloc (.cells cs T)).grownBy w1 v.ownBlock) (hne : v.ownBlock ≠ some g) : Bk.Blk w1 g ds t :=
 (hg.block _ (by have := Bk.Blk.lt hk; simp; omega) (Ne.symm hne)).trans hk.alloc
end
/-! ### numbers -/
def ienc (n : Int) : List Value := [.int .i64 n]
theorem ienc_len (n : Int) : (ienc n).length = 1 := rfl
theorem flat_ienc (l : List Int) : flat ienc l = l.map (Value.int .i64) := by
 induction l with
 | nil => rfl
 | cons x l ih =>
  unfold flat at ih ⊢
  rw [List.flatMap_cons, ih]
  rfl
theorem ints_of_row {W : World} {a : Option Addr} {l : List Int} (hn : l.length ≤ 9223372036854775807) (h : RowIn ienc W a l) : Bk.IntsIn W a l := ⟨hn, fun h0 => by
 obtain ⟨b, off, ha, hc⟩ := h h0
 refine ⟨b, off, ha, fun j hj => hc j _ ?_⟩
 rw [flat_ienc]
 simp [hj, List.getD_eq_getElem?_getD]⟩
abbrev IV (W : World) (B : Nat) (v : Value) (l : List Int) : Prop := GV ienc 1 3 W B v l
abbrev DV (W : World) (B : Nat) (v : Value) (l : List Du) : Prop := GV denc 4 53 W B v l
theorem app_due {ops : Array Oper} {rest : List Oper} {o : Oper} {a : Act} {Q : Exit → Act → World → Prop} {W : World} {B : Nat} {v : Value} {xs : List Du} (x : Du) (hgd : o.guard = none) (s y : Operand)
  (ho : o.op = .call { callee := .builtin .append, args := #[s, y], argTypes := #[24, 24] }) (hs : a.eval s = v) (hr : DV W B v xs)
  (hy : a.eval y = .slice (some ⟨W.heap.size, 0, none⟩) 1 1) (hl : xs.length ≤ 1000000) (hB : B ≤ W.heap.size)
  (h : ∀ v' w', DV w' B v' (xs ++ [x]) → (W.alloc (.cells #[.int .i64 x.no, .int .i64 x.day, .int .i64 x.pr, .int .i64 x.it] 53)).grownBy w' v.ownBlock → (v'.ownBlock = v.ownBlock ∨ v'.ownBlock = some (W.heap.size + 1)) → wpList Tryz.prog ops Q rest (a.put o.dst v') w') :
  wpList Tryz.prog ops Q (o :: rest) a (W.alloc (.cells #[.int .i64 x.no, .int .i64 x.day, .int .i64 x.pr, .int .i64 x.it] 53)) :=
 app_gv denc_len denc_one (by decide) (by decide) rfl Ln.due_info Tryz.underlying24 x hgd s y ho hs hr hy hl hB h
end Go.Proofs.YtaanicginfjgdaaGreatDoor.Sr
