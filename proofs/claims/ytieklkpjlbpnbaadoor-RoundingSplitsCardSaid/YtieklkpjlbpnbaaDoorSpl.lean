/-
  Plain facts of a distribution: what the theorem of the stage asks of each part.
-/
import Derived.Test.YtieklkpjlbpnbaaDoorSp2
namespace Go.Proofs.YtieklkpjlbpnbaaDoor.Sp
open Go.RowKit
open Go.Proofs.YtieklkpjlbpnbaaDoor
open Go.Proofs.YtieklkpjlbpnbaaDoor.Wm Go.Proofs.YtieklkpjlbpnbaaDoor.Wt Go.Proofs.YtieklkpjlbpnbaaDoor.Rd

theorem sm_mul (σ : Int) : ∀ l : List Int, sm (l.map (· * σ)) = sm l * σ
  | [] => by simp [sm]
  | x :: l => by simp only [List.map_cons, sm, sm_mul σ l, Int.add_mul]
theorem sg_cases (a : Int) : (a < 0 ∧ sg a = -1) ∨ (0 ≤ a ∧ sg a = 1) := by
  unfold sg; split
  · exact .inl ⟨by assumption, rfl⟩
  · exact .inr ⟨by omega, rfl⟩
theorem okS_rng {a : Int} {ws : List Int} (h : okS a ws) : gd a ∧ rng ws ∧ 0 < sm ws := by
  by_cases hr : rng ws
  · have := h.2
    rw [(t_yes hr).2] at this
    exact ⟨h.1, hr, of_decide_eq_true this⟩
  · have := h.2
    rw [(t_no hr).2] at this
    simp at this
/-- What the law asks of a part o of an amount a at a weight w, the weights' sum S. -/
structure OutOk (a S w o : Int) : Prop where
  g : gd o
  p : 0 < o → 0 ≤ a
  n : o < 0 → a ≤ 0
  lo : -S < o * S - a * w
  hi : o * S - a * w < S
theorem out_len (a : Int) {ws : List Int} (hs : 0 < sm ws) : (out a ws).length = ws.length := by
  unfold out
  rw [List.length_map]
  exact (parts_spec hs).1
theorem out_get (a : Int) (ws : List Int) (j : Nat) : (out a ws).getD j 0 = (parts (sg a * a) (sm ws) ws).getD j 0 * sg a := by
  unfold out
  rw [List.getD_eq_getElem?_getD, List.getElem?_map, List.getD_eq_getElem?_getD]
  cases (parts (sg a * a) (sm ws) ws)[j]? <;> simp
theorem out_ok {a : Int} {ws : List Int} (h : okS a ws) {j : Nat} (hj : j < ws.length) : OutOk a (sm ws) (ws.getD j 0) ((out a ws).getD j 0) := by
  obtain ⟨hg, hr, hs⟩ := okS_rng h
  obtain ⟨w0, w1, w2⟩ := wt_facts hr hj
  have hA : 0 ≤ sg a * a ∧ sg a * a ≤ 1000000000000 := by
    unfold gd at hg
    rcases sg_cases a with ⟨h, e⟩ | ⟨h, e⟩ <;> rw [e] <;> omega
  obtain ⟨b0, b1⟩ := parts_bd hs hA.1 hj w0 w2
  obtain ⟨d0, d1⟩ := (parts_spec (A := sg a * a) hs).2.2 j hj
  rw [out_get]
  generalize (parts (sg a * a) (sm ws) ws).getD j 0 = p at *
  generalize ws.getD j 0 = x at *
  generalize sm ws = S at *
  unfold gd at hg
  rcases sg_cases a with ⟨hn, e⟩ | ⟨hn, e⟩
  · rw [e] at d0 d1 b1 hA ⊢
    have e1 : p * -1 * S = -(p * S) := by rw [Int.mul_neg, Int.mul_one, Int.neg_mul]
    have e2 : -1 * a * x = -(a * x) := by rw [Int.neg_mul, Int.neg_mul, Int.one_mul]
    rw [e2] at d0 d1
    exact ⟨by unfold gd; omega, by omega, by omega, by rw [e1]; omega, by rw [e1]; omega⟩
  · rw [e] at d0 d1 b1 hA ⊢
    have e1 : p * 1 * S = p * S := by rw [Int.mul_one]
    have e2 : 1 * a * x = a * x := by rw [Int.one_mul]
    rw [e2] at d0 d1
    exact ⟨by unfold gd; omega, by omega, by omega, by rw [e1]; omega, by rw [e1]; omega⟩
theorem out_sum {a : Int} {ws : List Int} (h : okS a ws) : sm (out a ws) = a := by
  obtain ⟨hg, hr, hs⟩ := okS_rng h
  unfold out
  rw [sm_mul, (parts_spec (A := sg a * a) hs).2.1]
  rcases sg_cases a with ⟨_, e⟩ | ⟨_, e⟩ <;> rw [e] <;> omega
theorem out_part {a : Int} {ws : List Int} (h : okS a ws) : ∀ k, k ≤ ws.length → -(k * 1000000000000) ≤ sm ((out a ws).take k) ∧ sm ((out a ws).take k) ≤ k * 1000000000000 := by
  intro k
  obtain ⟨hg, hr, hs⟩ := okS_rng h
  have hl := out_len a hs
  induction k with
  | zero => intro _; simp [sm]
  | succ k ih =>
    intro hk
    have := ih (by omega)
    have hgk := (out_ok h (show k < ws.length by omega)).g
    unfold gd at hgk
    rw [take_succ_sm (by omega)]
    omega
end Go.Proofs.YtieklkpjlbpnbaaDoor.Sp
