/-
  Provisions, plain: days of arrears and what is expected do not fall as days go by.
-/
import Derived.Test.YtjicnlgndkcahaaDoorPv2
namespace Go.Proofs.YtjicnlgndkcahaaDoor.Ln
open Go.RowKit
open Go.Proofs.YtjicnlgndkcahaaDoor

theorem ord_at {ds : List Du} (h : ordB ds = true) {i : Nat} (hi : i + 1 < ds.length) : ds[i]!.day ≤ ds[i + 1]!.day := by
  unfold ordB at h
  rw [List.all_eq_true] at h
  have := h (i + 1) (List.mem_range.2 hi)
  rw [Bool.and_eq_true, Bool.or_eq_true] at this
  rcases this.2 with h1 | h1
  · exact absurd (of_decide_eq_true h1) (by omega)
  · exact of_decide_eq_true h1
theorem ord_far {ds : List Du} (h : ordB ds = true) {i : Nat} : ∀ k, i + k < ds.length → ds[i]!.day ≤ ds[i + k]!.day
  | 0, _ => Int.le_refl _
  | k + 1, hk => Int.le_trans (ord_far h k (by omega)) (ord_at h (i := i + k) (by omega))
theorem ord_pw {ds : List Du} (h : ordB ds = true) : ds.Pairwise (fun a b => a.day ≤ b.day) := by
  rw [List.pairwise_iff_getElem]
  intro i j hi hj hij
  have := ord_far h (i := i) (j - i) (by omega)
  rw [show i + (j - i) = j by omega, getElem!_pos ds i hi, getElem!_pos ds j hj] at this
  exact this
theorem dys_far {pp pi on : Int} : ∀ (ds : List Du) (p i : Int), (∀ d ∈ ds, on < d.day) → dys pp pi on ds p i = 0
  | [], _, _, _ => rfl
  | d :: ds, p, i, h => by
    unfold dys
    rw [if_neg (fun hh => by have := h d List.mem_cons_self; omega)]
    exact dys_far ds _ _ (fun x hx => h x (List.mem_cons_of_mem _ hx))
theorem dys_mono {pp pi on later : Int} (h1 : on ≤ later) (h0 : 0 ≤ on) (h2 : later ≤ 73048) : ∀ (ds : List Du) (p i : Int), ds.Pairwise (fun a b => a.day ≤ b.day) → (∀ d ∈ ds, 0 ≤ d.day ∧ d.day ≤ 73048) → 0 ≤ dys pp pi on ds p i ∧ dys pp pi on ds p i ≤ dys pp pi later ds p i
  | [], _, _, _, _ => ⟨Int.le_refl _, Int.le_refl _⟩
  | d :: ds, p, i, hs, hd => by
    have hdd := hd d List.mem_cons_self
    rw [List.pairwise_cons] at hs
    have ih := dys_mono (pp := pp) (pi := pi) h1 h0 h2 ds (wrap64 (p + d.pr)) (wrap64 (i + d.it)) hs.2 (fun x hx => hd x (List.mem_cons_of_mem _ hx))
    unfold dys
    by_cases hc : pp < wrap64 (p + d.pr) ∨ pi < wrap64 (i + d.it)
    · by_cases ho : d.day ≤ on
      · rw [if_pos ⟨ho, hc⟩, if_pos ⟨by omega, hc⟩, wrap_in (by omega) (by omega), wrap_in (by omega) (by omega)]
        omega
      · rw [if_neg (fun hh => ho hh.1), dys_far ds _ _ (fun x hx => by have := hs.1 x hx; omega)]
        by_cases hl : d.day ≤ later
        · rw [if_pos ⟨hl, hc⟩, wrap_in (by omega) (by omega)]
          omega
        · rw [if_neg (fun hh => hl hh.1), dys_far ds _ _ (fun x hx => by have := hs.1 x hx; omega)]
          omega
    · rw [if_neg (fun hh => hc hh.2), if_neg (fun hh => hc hh.2)]
      exact ih
theorem Ok.day {l : Lo} (h : Ok l) : ∀ d ∈ l.ds, 0 ≤ d.day ∧ d.day ≤ 73048 := by
  intro d hd
  have := List.all_eq_true.1 h.each d hd
  unfold dueB dayB at this
  simp only [Bool.and_eq_true] at this
  exact of_decide_eq_true this.1.1
theorem Ok.days {l : Lo} (h : Ok l) {on later : Int} (h1 : on ≤ later) (h0 : 0 ≤ on) (h2 : later ≤ 73048) : 0 ≤ daysL l on ∧ daysL l on ≤ daysL l later :=
  dys_mono h1 h0 h2 l.ds 0 0 (ord_pw h.ord) h.day
theorem rte_mono {a b : Int} (h : a ≤ b) : rteS (stgB (bkt a)) ≤ rteS (stgB (bkt b)) := by
  have ha := bkt_ways a
  have hb := bkt_ways b
  have : bkt a ≤ bkt b := by omega
  generalize bkt a = x at *
  generalize bkt b = y at *
  have hx : x = 0 ∨ x = 1 ∨ x = 2 ∨ x = 3 ∨ x = 4 := by omega
  have hy : y = 0 ∨ y = 1 ∨ y = 2 ∨ y = 3 ∨ y = 4 := by omega
  rcases hx with rfl | rfl | rfl | rfl | rfl <;> rcases hy with rfl | rfl | rfl | rfl | rfl <;> first | (exfalso; omega) | decide
/-- Rounded up. -/
theorem up_rd {x : Int} (hx : 0 ≤ x) : x ≤ Rd.rd x 1000000 2 * 1000000 ∧ Rd.rd x 1000000 2 * 1000000 < x + 1000000 := by
  have h1 := Int.mul_ediv_add_emod x 1000000
  by_cases h : 0 < x % 1000000
  · rw [Rd.rd_step h]
    have hm : Rd.moreI (decide (x < 0)) (decide (x / 1000000 % 2 = 1)) (x % 1000000) 1000000 2 = 1 := by
      unfold Rd.moreI Rd.upB
      rw [decide_eq_false (show ¬ x < 0 by omega)]
      rfl
    rw [hm]
    omega
  · rw [Rd.rd_exact h]
    omega
theorem up_pc {a p : Int} (ha : 0 ≤ a) (ha2 : a ≤ 1000000000000) (hp : 0 ≤ p) (hp2 : p ≤ 450000) : Rd.pcE a p 2 = 0 ∧ Rd.pcV a p 2 = Rd.rd (a * p) 1000000 2 ∧ 0 ≤ a * p ∧ a * p ≤ a * 450000 := by
  have h0 : 0 ≤ a * p := Int.mul_nonneg ha hp
  have h1 : a * p ≤ a * 450000 := Int.mul_le_mul_of_nonneg_left hp2 ha
  have hb := up_rd h0
  have hk : Rd.rok 1000000 2 := ⟨by omega, by omega, by omega⟩
  have hg : Rd.gd a ∧ 0 ≤ p ∧ p ≤ 1000000 := ⟨⟨by omega, by omega⟩, by omega, by omega⟩
  unfold Rd.pcE Rd.pcV
  rw [if_pos hg, if_pos hg, (Rd.rd_yes hk).1, (Rd.rd_yes hk).2]
  generalize a * p = x at *
  have hi : Wm.I64 (Rd.rd x 1000000 2) := by unfold Wm.I64; omega
  exact ⟨by rw [show Wt.iin (Rd.rd x 1000000 2) = true from decide_eq_true hi]; rfl, if_pos hi, h0, h1⟩
theorem Ok.out0 {l : Lo} (h : Ok l) : wrap64 (P l.ds - l.pp) = P l.ds - l.pp ∧ 0 ≤ P l.ds - l.pp := by
  have h1 := h.pp
  have h2 := h.pp'
  have : P l.ds ≤ 9223372036854775807 := by unfold P wrap64; omega
  exact ⟨wrap_in (by omega) (by omega), by omega⟩
/-- What is expected of a valid loan. -/
theorem ex_ok {l : Lo} (h : Ok l) (hg : Rd.gd (wrap64 (P l.ds - l.pp))) (on : Int) : exE l on = 0 ∧ 0 ≤ exV l on ∧ exV l on ≤ wrap64 (P l.ds - l.pp) := by
  have h0 := h.out0
  unfold exE exV
  rw [h0.1] at hg ⊢
  have hr := rte_bd (stgL l on)
  obtain ⟨e1, e2, e3, e4⟩ := up_pc h0.2 hg.2 hr.1 hr.2
  have hb := up_rd e3
  rw [e1, e2]
  generalize P l.ds - l.pp = a at *
  generalize a * rteS (stgL l on) = x at *
  generalize Rd.rd x 1000000 2 = r at *
  refine ⟨rfl, by omega, by omega⟩
theorem ex_mono {l : Lo} (h : Ok l) (hg : Rd.gd (wrap64 (P l.ds - l.pp))) {on later : Int} (h1 : on ≤ later) (h0 : 0 ≤ on) (h2 : later ≤ 73048) : exV l on ≤ exV l later := by
  have ho := h.out0
  have hr := rte_bd (stgL l on)
  have hr2 := rte_bd (stgL l later)
  have hle : rteS (stgL l on) ≤ rteS (stgL l later) := by
    unfold stgL
    split
    · exact rte_mono (h.days h1 h0 h2).2
    · exact Int.le_refl _
  unfold exV
  rw [ho.1] at hg ⊢
  obtain ⟨_, e2, e3, _⟩ := up_pc ho.2 hg.2 hr.1 hr.2
  obtain ⟨_, e2', e3', _⟩ := up_pc ho.2 hg.2 hr2.1 hr2.2
  have hm : (P l.ds - l.pp) * rteS (stgL l on) ≤ (P l.ds - l.pp) * rteS (stgL l later) := Int.mul_le_mul_of_nonneg_left hle ho.2
  have hb := up_rd e3
  have hb' := up_rd e3'
  rw [e2, e2']
  generalize P l.ds - l.pp = a at *
  generalize a * rteS (stgL l on) = x at *
  generalize a * rteS (stgL l later) = x' at *
  generalize Rd.rd x 1000000 2 = r at *
  generalize Rd.rd x' 1000000 2 = r' at *
  omega
theorem ex_idle {l : Lo} (h : Ok l) (hg : Rd.gd (wrap64 (P l.ds - l.pp))) (hs : ¬ l.st = 1) (on : Int) : exV l on = 0 := by
  have ho := h.out0
  have e : stgL l on = 0 := if_neg hs
  unfold exV
  rw [ho.1] at hg ⊢
  obtain ⟨_, e2, _, _⟩ := up_pc (p := rteS (stgL l on)) ho.2 hg.2 (by rw [e]; decide) (by rw [e]; decide)
  rw [e2, e, show rteS 0 = 0 by decide, Int.mul_zero]
  decide
end Go.Proofs.YtjicnlgndkcahaaDoor.Ln
