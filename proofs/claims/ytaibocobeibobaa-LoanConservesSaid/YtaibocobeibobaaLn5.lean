/-
  Rows of structs in memory, laid flat; slices.Clone at installments and at changes.
-/
import Derived.Test.YtaibocobeibobaaLn1
import Derived.ProofKit
import Derived.Laws.AppendOwn
import Derived.Laws.OwnMore
import Derived.Lib.SliceRun
namespace Go.Proofs.Ytaibocobeibobaa.Ln
open Go.RowKit
open Go.Proofs.Ytaibocobeibobaa

section
variable {α : Type} (enc : α → List Value) (k : Nat)
/-- Elements laid flat. -/
def flat (xs : List α) : List Value := xs.flatMap enc
variable {enc k}
theorem flat_len (hk : ∀ x, (enc x).length = k) : ∀ xs : List α, (flat enc xs).length = xs.length * k
  | [] => by simp [flat]
  | x :: xs => by
    have := flat_len hk xs
    unfold flat at *
    rw [List.flatMap_cons, List.length_append, this, hk, List.length_cons, Nat.add_mul, Nat.one_mul, Nat.add_comm]
theorem flat_get [Inhabited α] (hk : ∀ x, (enc x).length = k) : ∀ (xs : List α) (j i : Nat), j < xs.length → i < k → (flat enc xs)[j * k + i]? = (enc xs[j]!)[i]?
  | [], j, i, h, _ => absurd h (Nat.not_lt_zero _)
  | x :: xs, 0, i, _, hi => by
    unfold flat
    rw [List.flatMap_cons, Nat.zero_mul, Nat.zero_add, List.getElem?_append_left (by rw [hk]; exact hi)]
    rfl
  | x :: xs, j + 1, i, h, hi => by
    have ih := flat_get hk xs j i (by simpa using h) hi
    unfold flat at *
    rw [List.flatMap_cons, List.getElem?_append_right (by rw [hk, Nat.add_mul]; omega), hk, show (j + 1) * k + i - k = j * k + i by rw [Nat.add_mul]; omega, ih]
    simp
theorem flat_mem {Q : Value → Prop} (h : ∀ x, ∀ u ∈ enc x, Q u) : ∀ (xs : List α), ∀ u ∈ flat enc xs, Q u := by
  intro xs u hu
  unfold flat at hu
  obtain ⟨x, _, hx⟩ := List.mem_flatMap.1 hu
  exact h x u hx
/-- A row of structs that is read: its cells. -/
def RowIn (enc : α → List Value) (W : World) (a : Option Addr) (xs : List α) : Prop := 0 < xs.length → ∃ b off, a = some ⟨b, off, none⟩ ∧ ∀ j u, (flat enc xs)[j]? = some u → W.cell? ⟨b, off + j, none⟩ = some u
theorem RowIn.later {W w1 : World} {a : Option Addr} {xs : List α} (hb : Below W.heap.size W w1) (h : RowIn enc W a xs) : RowIn enc w1 a xs := fun h0 => by
  obtain ⟨b, off, ha, hc⟩ := h h0
  exact ⟨b, off, ha, fun j u hj => cell_later hb (hc j u hj)⟩
/-- A row of the call's own, known: which block, how much room. -/
def OwnR (enc : α → List Value) (k : Nat) (e : TypeId) (W : World) (B g c : Nat) (xs : List α) : Prop := B ≤ g ∧ c ≤ maxLen ∧ ∃ X : List Value, xs.length * k + X.length = c * k ∧ Bk.Blk W g ((flat enc xs ++ X).toArray) e
theorem OwnR.lt {e : TypeId} {W : World} {B g c : Nat} {xs : List α} (h : OwnR enc k e W B g c xs) : g < W.heap.size := h.2.2.elim fun _ h => h.2.lt
theorem OwnR.later {e : TypeId} {W w1 : World} {B g c : Nat} {xs : List α} (hb : Below W.heap.size W w1) (h : OwnR enc k e W B g c xs) : OwnR enc k e w1 B g c xs := by
  obtain ⟨h1, h2, X, h3, h4⟩ := h
  exact ⟨h1, h2, X, h3, h4.later hb⟩
theorem OwnR.row {e : TypeId} {W : World} {B g c : Nat} {xs : List α} (h : OwnR enc k e W B g c xs) : RowIn enc W (some ⟨g, 0, none⟩) xs := fun _ => by
  obtain ⟨_, _, X, _, h4⟩ := h
  refine ⟨g, 0, rfl, fun j u hj => ?_⟩
  rw [Nat.zero_add, h4.cell]
  have := (List.getElem?_eq_some_iff.1 hj).1
  simp [List.getElem?_append_left this, hj]
theorem OwnR.of {e : TypeId} {W : World} {B : Nat} {v : Value} {xs : List α} (h : W.ownsRow B e k v xs.length (flat enc xs)) (hv : v ≠ .slice none 0 0) : ∃ g c, v = .slice (some ⟨g, 0, none⟩) xs.length c ∧ OwnR enc k e W B g c xs := by
  obtain ⟨_, h | ⟨g, c, cur, h1, h2, h3, h4, h5, h6, h7⟩⟩ := h
  · exact absurd h.1 hv
  · refine ⟨g, c, h1, h2, h5, cur.toList.drop (xs.length * k), ?_, ?_⟩
    · have : xs.length * k ≤ c * k := Nat.mul_le_mul_right k h4
      simp only [List.length_drop, Array.length_toList, h6]; omega
    · rw [← h7, List.take_append_drop]
      exact h3
end

/-! ### installments -/
def denc (d : Du) : List Value := [.int .i64 d.no, .int .i64 d.day, .int .i64 d.pr, .int .i64 d.it]
theorem denc_len (d : Du) : (denc d).length = 4 := rfl
theorem denc_one (d : Du) : ∀ u ∈ denc d, u.oneCell' = true := by
  intro u hu
  simp only [denc, List.mem_cons, List.not_mem_nil, or_false] at hu
  rcases hu with rfl | rfl | rfl | rfl <;> rfl
theorem DuesIn.row {W : World} {a : Option Addr} {ds : List Du} (h : DuesIn W a ds) : RowIn denc W a ds := fun h0 => by
  obtain ⟨b, off, ha, hc⟩ := h.2 h0
  refine ⟨b, off, ha, fun m u hm => ?_⟩
  have hlt : m < ds.length * 4 := by
    have := (List.getElem?_eq_some_iff.1 hm).1
    rwa [flat_len denc_len] at this
  have hj : m / 4 < ds.length := by omega
  have hi : m % 4 < 4 := Nat.mod_lt _ (by omega)
  have e : m / 4 * 4 + m % 4 = m := by omega
  rw [← e, flat_get denc_len ds _ _ hj hi] at hm
  obtain ⟨c0, c1, c2, c3⟩ := hc (m / 4) hj
  rw [← e]
  generalize m / 4 = j at *
  generalize m % 4 = i at *
  have : i = 0 ∨ i = 1 ∨ i = 2 ∨ i = 3 := by omega
  rcases this with rfl | rfl | rfl | rfl
  · simp [denc] at hm; rw [← hm]; simpa using c0
  · simp [denc] at hm; rw [← hm]; simpa [Nat.add_assoc] using c1
  · simp [denc] at hm; rw [← hm]; simpa [Nat.add_assoc] using c2
  · simp [denc] at hm; rw [← hm]; simpa [Nat.add_assoc] using c3
theorem dues_of_row {W : World} {a : Option Addr} {ds : List Du} (hn : ds.length ≤ 2305843009213693951) (h : RowIn denc W a ds) : DuesIn W a ds := ⟨hn, fun h0 => by
  obtain ⟨b, off, ha, hc⟩ := h h0
  refine ⟨b, off, ha, fun j hj => ?_⟩
  have c : ∀ i, i < 4 → W.cell? ⟨b, off + (j * 4 + i), none⟩ = (denc ds[j]!)[i]? := fun i hi => by
    have hg := flat_get denc_len ds j i hj hi
    have : i < (denc ds[j]!).length := hi
    rw [List.getElem?_eq_getElem this] at hg ⊢
    exact hc _ _ hg
  have c0 := c 0 (by omega)
  have c1 := c 1 (by omega)
  have c2 := c 2 (by omega)
  have c3 := c 3 (by omega)
  simp only [denc, ← Nat.add_assoc] at c0 c1 c2 c3
  exact ⟨by simpa using c0, by simpa using c1, by simpa using c2, by simpa using c3⟩⟩
theorem due_info : (Try.prog.info? 51).map (fun i => (i.zero, i.size, i.bytes)) = some (some (.agg #[.int .i64 0, .int .i64 0, .int .i64 0, .int .i64 0]), 4, 32) := by kernel_rfl

set_option maxHeartbeats 2000000 in
/-- slices.Clone at installments. -/
theorem cloned_any (a : Option Addr) (cap : Nat) (ds : List Du) (w : World) (h : DuesIn w a ds) (hl : ds.length ≤ 100000) :
    Calls Try.prog 37 #[.slice a ds.length cap] w fun e w' => Below w.heap.size w w' ∧
      ((a = none ∧ ds = [] ∧ e = .returned (.slice none 0 0)) ∨ ∃ g c, e = .returned (.slice (some ⟨g, 0, none⟩) ds.length c) ∧ OwnR denc 4 51 w' w.heap.size g c ds) := by
  have HR := Lib.hid h.row
  cases a with
  | none =>
    have h0 : ds = [] := by
      rcases Nat.eq_zero_or_pos ds.length with h0 | h0
      · exact List.length_eq_zero_iff.1 h0
      · obtain ⟨b, off, ha, _⟩ := h.2 h0; cases ha
    subst h0
    clear h hl
    have q24 : ∀ (w : World) (n c n' c' : Nat), (binOp .eql 24 (.slice none n c) (.slice none n' c')).run Try.prog w = .ok (.bool true) w := fun w n c n' c' => Lib.run_eql_slice_nil w _ _ none n c n' c' Try.underlying24
    go_enter Try.func37, Try.ntmps37
    go_wp2_with fail
    go_ret
    exact ⟨Below.refl _ _, .inl (by simp)⟩
  | some ad =>
    obtain ⟨i, hi, hzz⟩ := Option.map_eq_some_iff.1 due_info
    simp only [Prod.mk.injEq] at hzz
    obtain ⟨hz, hsz, hby⟩ := hzz
    have HI := Lib.hid (And.intro hi (And.intro hz (And.intro hsz hby)))
    have hn := h.1
    clear h hi hz hsz hby
    have q24 : ∀ (w : World) (n c n' c' : Nat), (binOp .eql 24 (.slice (some ad) n c) (.slice none n' c')).run Try.prog w = .ok (.bool false) w := fun w n c n' c' => Lib.run_eql_slice_nil w _ _ (some ad) n c n' c' Try.underlying24
    go_enter Try.func37, Try.ntmps37
    go_wp2_with (at_builtin; refine wpList_append_own _ rfl _ _ 24 rfl w.heap.size 51 i (.agg #[.int .i64 0, .int .i64 0, .int .i64 0, .int .i64 0]) 4 32 Try.underlying24 HI.out.1 HI.out.2.1 HI.out.2.2.1 HI.out.2.2.2 rfl (by decide) _ _ _ rfl (World.ownsRow_made w #[] 0 (Nat.le_refl _) (Nat.zero_le _) (by simp)) ad ds.length cap (flat denc ds) rfl ?qc1 ?qc2 ?qc3 ?qc4 ?qc5 ?qc6 ?_)
    case qc1 => exact flat_len denc_len ds
    case qc2 =>
      intro j u hj
      have h0 : 0 < ds.length := by
        rcases Nat.eq_zero_or_pos ds.length with h0 | h0
        · rw [List.length_eq_zero_iff.1 h0] at hj; simp [flat] at hj
        · exact h0
      obtain ⟨b, off, ha, hc⟩ := HR.out h0
      obtain rfl := Option.some.inj ha
      rw [show (⟨b, off, none⟩ : Addr).add j = ⟨b, off + j, none⟩ from Go.WideShapes.add_plain ..]
      exact Lib.cell?_alloc_some _ (hc j u hj)
    case qc3 => exact flat_mem denc_one ds
    case qc4 => rw [Nat.zero_add]; unfold maxLen; omega
    case qc5 => rw [Nat.zero_add]; omega
    case qc6 => simp
    intro v' w1 hown hgrow hnl
    have hnn : v' ≠ .slice none 0 0 := hnl
    obtain ⟨g, c, rfl, ho⟩ := OwnR.of hown hnn
    go_wp2_with fail
    go_ret
    exact ⟨((Below.refl _ w).alloc (Nat.le_refl _) _).grown hgrow (by simp) (by intro k hk; simp [Value.ownBlock] at hk; omega), .inr ⟨g, c, rfl, ho⟩⟩
end Go.Proofs.Ytaibocobeibobaa.Ln
