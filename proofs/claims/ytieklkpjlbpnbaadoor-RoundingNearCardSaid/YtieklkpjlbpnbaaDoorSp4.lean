/-
  A row of whole numbers of the call's own that grows by append: which block holds it, how much room there is.
-/
import Derived.Test.YtieklkpjlbpnbaaDoorSp2
import Derived.Maps.AppendAt
namespace Go.Proofs.YtieklkpjlbpnbaaDoor.Sp
open Go.RowKit
open Go.Proofs.YtieklkpjlbpnbaaDoor

/-- Block g holds these numbers first; the slice has room for c. -/
def Row (W : World) (B g c : Nat) (l : List Int) : Prop := B ≤ g ∧ c ≤ maxLen ∧ ∃ X : List Value, l.length + X.length = c ∧ Bk.Blk W g ((l.map (Value.int .i64) ++ X).toArray) 3
section
variable {W w1 : World} {B g c : Nat} {l : List Int}
theorem Row.owns (h : Row W B g c l) : W.ownsRow B 3 1 (.slice (some ⟨g, 0, none⟩) l.length c) l.length (l.map (Value.int .i64)) := by
  obtain ⟨h1, h2, X, h3, h4⟩ := h
  refine ⟨by simp, .inr ⟨g, c, _, rfl, h1, h4, by omega, h2, by simp; omega, ?_⟩⟩
  rw [Nat.mul_one]
  show List.take l.length (l.map (Value.int .i64) ++ X) = _
  rw [List.take_append_of_le_length (by simp)]
  rw [List.take_of_length_le (by simp)]
theorem Row.of {v : Value} (h : W.ownsRow B 3 1 v l.length (l.map (Value.int .i64))) (hv : v ≠ .slice none 0 0) : ∃ g c, v = .slice (some ⟨g, 0, none⟩) l.length c ∧ Row W B g c l := by
  obtain ⟨_, h | ⟨g, c, cur, h1, h2, h3, h4, h5, h6, h7⟩⟩ := h
  · exact absurd h.1 hv
  · refine ⟨g, c, h1, h2, h5, cur.toList.drop l.length, ?_, ?_⟩
    · simp; omega
    · rw [← h7, Nat.mul_one, List.take_append_drop]
      exact h3
theorem Row.lt (h : Row W B g c l) : g < W.heap.size := h.2.2.elim fun _ h => h.2.lt
theorem Row.cell (h : Row W B g c l) {k : Nat} (hk : k < l.length) : W.cell? ⟨g, k, none⟩ = some (.int .i64 (l.getD k 0)) := by
  obtain ⟨_, _, X, h3, h4⟩ := h
  rw [h4.cell]
  simp [hk, List.getElem?_append_left, List.getD_eq_getElem?_getD]
theorem Row.free (h : Row W B g c l) (k : Nat) : W.frozen? ⟨g, k, none⟩ = false := h.2.2.elim fun _ h => h.2.free k
theorem Row.later (hb : Below W.heap.size W w1) (h : Row W B g c l) : Row w1 B g c l := by
  obtain ⟨h1, h2, X, h3, h4⟩ := h
  exact ⟨h1, h2, X, h3, h4.later hb⟩
theorem Row.alloc {o : Obj} (h : Row W B g c l) : Row (W.alloc o) B g c l := by
  obtain ⟨h1, h2, X, h3, h4⟩ := h
  exact ⟨h1, h2, X, h3, h4.alloc⟩
theorem Row.drewN {n : Nat} (h : Row W B g c l) : Row (W.drewN n) B g c l := h
theorem Row.set_ne {g' j : Nat} {u : Value} (h : Row W B g c l) (hne : g ≠ g') : Row (W.setCell ⟨g', j, none⟩ u) B g c l := by
  obtain ⟨h1, h2, X, h3, h4⟩ := h
  exact ⟨h1, h2, X, h3, h4.set_ne hne⟩
theorem Row.set {k : Nat} {v : Int} (h : Row W B g c l) (hk : k < l.length) : Row (W.setCell ⟨g, k, none⟩ (.int .i64 v)) B g c (l.set k v) := by
  obtain ⟨h1, h2, X, h3, h4⟩ := h
  refine ⟨h1, h2, X, by simpa using h3, ?_⟩
  have := h4.set_same (i := k) (u := .int .i64 v)
  rw [List.setIfInBounds_toArray, List.set_append_left (h := by simpa using hk), ← List.map_set] at this
  exact this
theorem Row.grown {row : Option Nat} (h : Row W B g c l) (hg : W.grownBy w1 row) (hne : some g ≠ row) : Row w1 B g c l := by
  have hl := h.lt
  obtain ⟨h1, h2, X, h3, h4⟩ := h
  exact ⟨h1, h2, X, h3, (hg.block g hl hne).trans h4⟩
theorem Row.new (hB : B ≤ W.heap.size) : Row (W.alloc (.cells #[] 3)) B W.heap.size 0 [] := ⟨hB, Nat.zero_le _, [], rfl, Bk.Blk.new rfl⟩
theorem map_succ (f : Int → Int) {ws : List Int} {k : Nat} (h : k < ws.length) : (ws.take (k + 1)).map f = (ws.take k).map f ++ [f (ws.getD k 0)] := by
  have e : ws[k]?.toList = [ws.getD k 0] := by simp [h, List.getD_eq_getElem?_getD]
  rw [List.take_add_one, List.map_append, e]
  rfl
theorem int_info : (Tryd.prog.info? 3).map (fun i => (i.zero, i.size, i.bytes)) = some (some (.int .i64 0), 1, 8) := by kernel_rfl
/-- append(row, v). -/
theorem app_row {ops : Array Oper} {rest : List Oper} {o : Oper} {a : Act} {Q : Exit → Act → World → Prop} (hgd : o.guard = none) (s x : Operand)
    (ho : o.op = .call { callee := .builtin .append, args := #[s, x], argTypes := #[41, 41] }) (v : Int) (n : Nat) (hs : a.eval s = .slice (some ⟨g, 0, none⟩) n c) (hn' : l.length = n) (hr : Row W B g c l)
    (hx : a.eval x = .slice (some ⟨W.heap.size, 0, none⟩) 1 1) (hl : l.length ≤ 64) (hB : B ≤ W.heap.size)
    (h : ∀ g' c' w', Row w' B g' c' (l ++ [v]) → (W.alloc (.cells #[.int .i64 v] 3)).grownBy w' (some g) → (g' = g ∨ g' = W.heap.size + 1) → wpList Tryd.prog ops Q rest (a.put o.dst (.slice (some ⟨g', 0, none⟩) (n + 1) c')) w') :
    wpList Tryd.prog ops Q (o :: rest) a (W.alloc (.cells #[.int .i64 v] 3)) := by
  subst hn'
  obtain ⟨i, hi, hzz⟩ := Option.map_eq_some_iff.1 int_info
  simp only [Prod.mk.injEq] at hzz
  obtain ⟨hz, hsz, hby⟩ := hzz
  refine wpList_append_own_at _ hgd s x 41 ho B 3 i (.int .i64 0) 1 8 (by kernel_rfl) hi hz hsz hby rfl (by decide) _ l.length (l.map (Value.int .i64)) hs (hr.alloc.owns) ⟨W.heap.size, 0, none⟩ 1 1 [.int .i64 v] hx rfl (cell_one_new _ _ _) (by intro u hu; simp at hu; subst hu; rfl) (by unfold maxLen; omega) (by omega) (by simp; omega) ?_
  intro v' w' hown hgr hnil hat
  have e : l.map (Value.int .i64) ++ [.int .i64 v] = (l ++ [v]).map (Value.int .i64) := by simp
  have e2 : l.length + 1 = (l ++ [v]).length := by simp
  rw [e, e2] at hown
  have hn : v' ≠ .slice none 0 0 := fun hv => by have := (hnil.1 hv).2; omega
  obtain ⟨g', c', rfl, hrow⟩ := Row.of hown hn
  rw [← e2]
  refine h g' c' w' hrow hgr ?_
  rcases hat with hat | hat
  · exact .inl (Option.some.inj hat)
  · exact .inr (by have := Option.some.inj hat; simpa using this)
end
end Go.Proofs.YtieklkpjlbpnbaaDoor.Sp
