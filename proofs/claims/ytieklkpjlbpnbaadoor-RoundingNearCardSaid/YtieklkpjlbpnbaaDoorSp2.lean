/-
  Rows of whole numbers in memory; Split's plain results.
-/
import Derived.Test.YtieklkpjlbpnbaaDoorSp1
import Derived.Laws.MakeOwn
namespace Go.Proofs.YtieklkpjlbpnbaaDoor.Sp
open Go.RowKit
open Go.Proofs.YtieklkpjlbpnbaaDoor
open Go.Proofs.YtieklkpjlbpnbaaDoor.Wm Go.Proofs.YtieklkpjlbpnbaaDoor.Wt Go.Proofs.YtieklkpjlbpnbaaDoor.Rd

/-- A row of whole numbers, as cells. -/
def ints (l : List Int) : Array Value := (l.map (Value.int .i64)).toArray
theorem ints_size (l : List Int) : (ints l).size = l.length := by simp [ints]
theorem ints_get {l : List Int} {k : Nat} (h : k < l.length) : (ints l)[k]? = some (.int .i64 (l.getD k 0)) := by
  simp [ints, h, List.getD_eq_getElem?_getD]
theorem ints_set (l : List Int) (k : Nat) (v : Int) : (ints l).setIfInBounds k (.int .i64 v) = ints (l.set k v) := by
  simp [ints, List.map_set]
theorem ints_zero (n : Nat) : madeCells #[.int .i64 0] n = ints (List.replicate n 0) := by
  apply Array.ext
  · simp [madeCells, ints]
  · intro i h1 h2
    simp [madeCells, ints, Nat.mod_one]
/-- The shares of the first k weights, zeros behind. -/
def upto (f : Int → Int) (ws : List Int) (k : Nat) : List Int := (ws.take k).map f ++ List.replicate (ws.length - k) 0
theorem upto_zero (f : Int → Int) (ws : List Int) : upto f ws 0 = List.replicate ws.length 0 := by simp [upto]
theorem upto_all (f : Int → Int) (ws : List Int) : upto f ws ws.length = ws.map f := by simp [upto]
theorem upto_len (f : Int → Int) {ws : List Int} {k : Nat} (h : k ≤ ws.length) : (upto f ws k).length = ws.length := by simp [upto]; omega
theorem upto_set (f : Int → Int) {ws : List Int} {k : Nat} (h : k < ws.length) : (upto f ws k).set k (f (ws.getD k 0)) = upto f ws (k + 1) := by
  unfold upto
  have hl : ((ws.take k).map f).length = k := by simp; omega
  have hr : ws.length - k = (ws.length - (k + 1)) + 1 := by omega
  rw [List.set_append_right (h := by omega), hl, Nat.sub_self, hr, List.replicate_succ, List.set_cons_zero, List.take_add_one]
  have e : ws[k]?.toList = [ws.getD k 0] := by simp [h, List.getD_eq_getElem?_getD]
  rw [e, List.map_append, List.append_assoc]
  rfl
theorem sum_succ (f : Int → Int) {ws : List Int} {k : Nat} (h : k < ws.length) : sm ((ws.take (k + 1)).map f) = sm ((ws.take k).map f) + f (ws.getD k 0) := by
  have e : ws[k]?.toList = [ws.getD k 0] := by simp [h, List.getD_eq_getElem?_getD]
  rw [List.take_add_one, List.map_append, sm_append, e]
  simp [sm]
theorem quo_facts {A s x : Int} (hA : 0 ≤ A) (hs : 0 < s) (hx : 0 ≤ x) (hxs : x ≤ s) : 0 ≤ A * x ∧ 0 ≤ A * x / s ∧ A * x / s ≤ A ∧ 0 ≤ A * x % s ∧ A * x % s < s := by
  have h0 := Int.mul_nonneg hA hx
  refine ⟨h0, Int.ediv_nonneg h0 (by omega), ?_, Int.emod_nonneg _ (by omega), Int.emod_lt_of_pos _ hs⟩
  have : A * x ≤ A * s := Int.mul_le_mul_of_nonneg_left hxs hA
  have h2 := Int.ediv_le_ediv hs this
  rwa [Int.mul_ediv_cancel _ (by omega)] at h2
theorem wt_facts {ws : List Int} (h : rng ws) {k : Nat} (hk : k < ws.length) : 0 ≤ ws.getD k 0 ∧ ws.getD k 0 ≤ 1000000000000 ∧ ws.getD k 0 ≤ sm ws := by
  obtain ⟨h1, h2⟩ := h.2 k hk
  refine ⟨h1, h2, sm_ge ws k (fun x hx => ?_) hk⟩
  obtain ⟨j, hj, rfl⟩ := List.mem_iff_getElem.1 hx
  have := (h.2 j hj).1
  simpa [List.getD_eq_getElem?_getD, hj] using this
theorem sm_le {ws : List Int} (h : rng ws) : sm ws ≤ 64000000000000 := by
  have : ∀ k, k ≤ ws.length → sm (ws.take k) ≤ k * 1000000000000 := by
    intro k
    induction k with
    | zero => intro _; simp [sm]
    | succ k ih => intro hk; rw [take_succ_sm (by omega)]; have := ih (by omega); have := (h.2 k (by omega)).2; omega
  have h2 := this ws.length (Nat.le_refl _)
  rw [List.take_length] at h2
  have := h.1.2
  omega
theorem parts_bd {A : Int} {ws : List Int} (hS : 0 < sm ws) (hA : 0 ≤ A) {j : Nat} (hj : j < ws.length) (h0 : 0 ≤ ws.getD j 0) (h1 : ws.getD j 0 ≤ sm ws) : 0 ≤ (parts A (sm ws) ws).getD j 0 ∧ (parts A (sm ws) ws).getD j 0 ≤ A := by
  obtain ⟨_, _, h⟩ := parts_spec (A := A) hS
  obtain ⟨a, b⟩ := h j hj
  have c0 := Int.mul_nonneg hA h0
  have c1 : A * ws.getD j 0 ≤ A * sm ws := Int.mul_le_mul_of_nonneg_left h1 hA
  generalize (parts A (sm ws) ws).getD j 0 = p at *
  constructor
  · rcases Classical.em (0 ≤ p) with h | h
    · exact h
    · have : p * sm ws ≤ (-1) * sm ws := Int.mul_le_mul_of_nonneg_right (by omega) (by omega)
      omega
  · rcases Classical.em (p ≤ A) with h | h
    · exact h
    · have : (A + 1) * sm ws ≤ p * sm ws := Int.mul_le_mul_of_nonneg_right (by omega) (by omega)
      rw [Int.add_mul] at this
      omega
theorem give_bd {S : Int} {qs os ps rs : List Int} {n : Nat} (h : GRel S qs os ps rs n) {j : Nat} (hj : j < qs.length) : qs.getD j 0 ≤ ps.getD j 0 ∧ ps.getD j 0 ≤ qs.getD j 0 + 1 := by
  rcases h.each j hj with ⟨_, e⟩ | ⟨_, _, e⟩ <;> omega
theorem amF_step {rs : List Int} {g k j : Nat} (h : j + g = rs.length) (hg : 0 < g) : amF rs g k = amF rs (g - 1) (if rs.getD k 0 < rs.getD j 0 then j else k) := by
  obtain ⟨g', rfl⟩ : ∃ g', g = g' + 1 := ⟨g - 1, by omega⟩
  conv => lhs; unfold amF
  rw [show rs.length - (g' + 1) = j by omega]
  rfl
/-- The last loop: the first k parts have their sign. -/
def signed (σ : Int) (ps : List Int) (k : Nat) : List Int := (ps.take k).map (· * σ) ++ ps.drop k
theorem signed_zero (σ : Int) (ps : List Int) : signed σ ps 0 = ps := by simp [signed]
theorem signed_all (σ : Int) (ps : List Int) : signed σ ps ps.length = ps.map (· * σ) := by simp [signed]
theorem signed_len (σ : Int) {ps : List Int} {k : Nat} (h : k ≤ ps.length) : (signed σ ps k).length = ps.length := by simp [signed]; omega
theorem signed_get (σ : Int) {ps : List Int} {k : Nat} (h : k < ps.length) : (signed σ ps k).getD k 0 = ps.getD k 0 := by
  have hl : ((ps.take k).map (· * σ)).length = k := by simp; omega
  unfold signed
  rw [List.getD_eq_getElem?_getD, List.getElem?_append_right (by omega), hl, Nat.sub_self, List.getElem?_drop, Nat.add_zero, ← List.getD_eq_getElem?_getD]
theorem signed_set (σ : Int) {ps : List Int} {k : Nat} (h : k < ps.length) : (signed σ ps k).set k (ps.getD k 0 * σ) = signed σ ps (k + 1) := by
  have hl : ((ps.take k).map (· * σ)).length = k := by simp; omega
  have e : ps[k]?.toList = [ps.getD k 0] := by simp [h, List.getD_eq_getElem?_getD]
  have hd : ps.drop k = ps[k] :: ps.drop (k + 1) := List.drop_eq_getElem_cons h
  unfold signed
  rw [List.set_append_right (h := by omega), hl, Nat.sub_self, hd, List.set_cons_zero, List.take_add_one, e, List.map_append, List.append_assoc]
  rfl
/-- What Split returns. -/
def okS (a : Int) (ws : List Int) : Prop := gd a ∧ tB ws = true
def sg (a : Int) : Int := if a < 0 then -1 else 1
def out (a : Int) (ws : List Int) : List Int := (parts (sg a * a) (sm ws) ws).map (· * sg a)
end Go.Proofs.YtieklkpjlbpnbaaDoor.Sp
