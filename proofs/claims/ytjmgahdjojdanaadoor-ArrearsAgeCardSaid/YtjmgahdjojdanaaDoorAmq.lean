/-
  Arrears, plain: days of arrears from one day to the next; what a payment of all that is owed leaves; charges.
-/
import Derived.Test.YtjmgahdjojdanaaDoorAm
import Derived.Test.YtjmgahdjojdanaaDoorLc
namespace Go.Proofs.YtjmgahdjojdanaaDoor.Ln
open Go.RowKit
open Go.Proofs.YtjmgahdjojdanaaDoor

theorem dys_touch {pp pi on : Int} : ∀ (ds : List Du) (p i : Int), (∀ d ∈ ds, on ≤ d.day) → dys pp pi on ds p i = 0
  | [], _, _, _ => rfl
  | d :: ds, p, i, h => by
    have hd := h d List.mem_cons_self
    unfold dys
    split
    · rename_i hh
      rw [show on - d.day = 0 by omega, wrap_in (by omega) (by omega)]
    · exact dys_touch ds _ _ (fun x hx => h x (List.mem_cons_of_mem _ hx))
theorem due_cons_in {d : Du} {ds : List Du} {on : Int} (h : d.day ≤ on) : due (d :: ds) on = d :: due ds on := by
  unfold due
  rw [List.filter_cons, if_pos (by simpa using h)]
theorem due_none {ds : List Du} {on : Int} (h : ∀ d ∈ ds, on < d.day) : due ds on = [] := by
  unfold due
  rw [List.filter_eq_nil_iff]
  intro d hd
  have := h d hd
  simp
  omega
theorem dys_age {pp pi on : Int} (h0 : 0 ≤ on) (h1 : on < 73048) : ∀ (ds : List Du) (p i : Int), ds.Pairwise (fun a b => a.day ≤ b.day) → (∀ d ∈ ds, 0 ≤ d.day ∧ d.day ≤ 73048 ∧ 0 ≤ d.pr ∧ d.pr ≤ 1000000000000 ∧ 0 ≤ d.it ∧ d.it ≤ 1000000000000) →
    0 ≤ p → 0 ≤ i → p + ds.length * 1000000000000 ≤ 4000000000000000000 → i + ds.length * 1000000000000 ≤ 4000000000000000000 → ¬ (pp < p ∨ pi < i) →
    ((pp < p + sum (prs (due ds on)) ∨ pi < i + sum (its (due ds on))) → 0 ≤ dys pp pi on ds p i ∧ dys pp pi (on + 1) ds p i = dys pp pi on ds p i + 1) ∧
    (¬ (pp < p + sum (prs (due ds on)) ∨ pi < i + sum (its (due ds on))) → dys pp pi on ds p i = 0 ∧ dys pp pi (on + 1) ds p i = 0)
  | [], p, i, _, _, _, _, _, _, hu => by
    simp [due, prs, its, sum, dys]
    omega
  | d :: ds, p, i, hs, hd, hp, hi, bp, bi, hu => by
    have hdd := hd d List.mem_cons_self
    rw [List.pairwise_cons] at hs
    simp only [List.length_cons] at bp bi
    by_cases ho : d.day ≤ on
    · rw [due_cons_in ho]
      have hn1 : 0 ≤ sum (prs (due ds on)) := sum_nonneg _ (fun x hx => by
        obtain ⟨y, hy, rfl⟩ := List.mem_map.1 hx
        exact (hd y (List.mem_cons_of_mem _ (List.mem_filter.1 hy).1)).2.2.1)
      have hn2 : 0 ≤ sum (its (due ds on)) := sum_nonneg _ (fun x hx => by
        obtain ⟨y, hy, rfl⟩ := List.mem_map.1 hx
        exact (hd y (List.mem_cons_of_mem _ (List.mem_filter.1 hy).1)).2.2.2.2.1)
      have e1 : sum (prs (d :: due ds on)) = d.pr + sum (prs (due ds on)) := rfl
      have e2 : sum (its (d :: due ds on)) = d.it + sum (its (due ds on)) := rfl
      rw [e1, e2]
      unfold dys
      rw [wrap_in (n := p + d.pr) (by omega) (by omega), wrap_in (n := i + d.it) (by omega) (by omega)]
      by_cases hc : pp < p + d.pr ∨ pi < i + d.it
      · rw [if_pos ⟨ho, hc⟩, if_pos ⟨by omega, hc⟩, wrap_in (by omega) (by omega), wrap_in (by omega) (by omega)]
        omega
      · rw [if_neg (fun hh => hc hh.2), if_neg (fun hh => hc hh.2)]
        have ih := dys_age h0 h1 ds (p + d.pr) (i + d.it) hs.2 (fun x hx => hd x (List.mem_cons_of_mem _ hx)) (by omega) (by omega) (by omega) (by omega) hc
        rw [show p + (d.pr + sum (prs (due ds on))) = p + d.pr + sum (prs (due ds on)) by omega, show i + (d.it + sum (its (due ds on))) = i + d.it + sum (its (due ds on)) by omega]
        exact ih
    · have hall : ∀ x ∈ d :: ds, on < x.day := fun x hx => by
        rcases List.mem_cons.1 hx with rfl | hx
        · omega
        · have := hs.1 x hx; omega
      rw [due_none hall, dys_far _ _ _ hall, dys_touch _ _ _ (fun x hx => by have := hall x hx; omega)]
      simp [prs, its, sum]
      omega
theorem Ok.duD {l : Lo} (h : Ok l) : ∀ d ∈ l.ds, 0 ≤ d.day ∧ d.day ≤ 73048 ∧ 0 ≤ d.pr ∧ d.pr ≤ 1000000000000 ∧ 0 ≤ d.it ∧ d.it ≤ 1000000000000 := by
  intro d hd
  have := List.all_eq_true.1 h.each d hd
  simp only [dueB, amt, dayB, Bool.and_eq_true, decide_eq_true_eq] at this
  omega
theorem Ok.sumP {l : Lo} (h : Ok l) (day : Int) : P (due l.ds day) = sum (prs (due l.ds day)) ∧ I (due l.ds day) = sum (its (due l.ds day)) := by
  have hn := h.n2
  have h1 : ∀ x ∈ prs (due l.ds day), 0 ≤ x ∧ x ≤ 1000000000000 := fun x hx => by
    obtain ⟨y, hy, rfl⟩ := List.mem_map.1 hx
    have := h.duD y (List.mem_filter.1 hy).1
    omega
  have h2 : ∀ x ∈ its (due l.ds day), 0 ≤ x ∧ x ≤ 1000000000000 := fun x hx => by
    obtain ⟨y, hy, rfl⟩ := List.mem_map.1 hx
    have := h.duD y (List.mem_filter.1 hy).1
    omega
  have hl : (due l.ds day).length ≤ 240 := Nat.le_trans (List.length_filter_le ..) hn
  have l1 : (prs (due l.ds day)).length ≤ 240 := by simpa [prs] using hl
  have l2 : (its (due l.ds day)).length ≤ 240 := by simpa [its] using hl
  have a1 := sum_nonneg _ (fun x hx => (h1 x hx).1)
  have a2 := sum_nonneg _ (fun x hx => (h2 x hx).1)
  have b1 := sum_le _ 1000000000000 (fun x hx => (h1 x hx).2)
  have b2 := sum_le _ 1000000000000 (fun x hx => (h2 x hx).2)
  exact ⟨wrap_in (by omega) (by omega), wrap_in (by omega) (by omega)⟩
/-- From one day to the next. -/
theorem age_ok {l : Lo} (h : Ok l) {on : Int} (h0 : 0 ≤ on) (h1 : on < 73048) :
    ((0 < oI l on ∨ 0 < oP l on) → 0 ≤ daysL l on ∧ daysL l (on + 1) = daysL l on + 1) ∧ (¬ (0 < oI l on ∨ 0 < oP l on) → daysL l on = 0 ∧ daysL l (on + 1) = 0) := by
  have hn := h.n2
  have hp := h.pp
  have hi := h.pi
  have ha := dys_age (pp := l.pp) (pi := l.pi) h0 h1 l.ds 0 0 (ord_pw h.ord) h.duD (by omega) (by omega) (by omega) (by omega) (by omega)
  rw [← (h.sumP on).1, ← (h.sumP on).2] at ha
  rw [h.oI, h.oP]
  exact ⟨fun hh => ha.1 (by omega), fun hh => ha.2 (by omega)⟩
/-- All that is owed. -/
def allO (l : Lo) (on : Int) : Int := pos l.fee + pos l.pen + pos (oI l on) + pos (oP l on)
theorem pay_all {l : Lo} (h : Ok l) (hst : l.st = 1) {on : Int} (h0 : 0 ≤ on) (h1 : on < 73048) : daysL (payL l (allO l on) on) on = 0 ∧ ovL (payL l (allO l on) on) on = 0 := by
  have hfee := (amt_iff.1 h.fee).1
  have q1 := pos_of (o := l.fee); have q2 := pos_of (o := l.pen); have q3 := pos_of (o := oI l on); have q4 := pos_of (o := oP l on)
  have hn : 0 ≤ allO l on := by unfold allO; omega
  have hk := h.pay hst (day := on) hn
  have hd := dist_ok (n := allO l on) (oa := l.fee) (ob := l.pen) (oc := Ln.oI l on) (od := Ln.oP l on) hn
  have hx : (payL l (allO l on) on).ds = l.ds ∧ (payL l (allO l on) on).pp = l.pp + (payD l (allO l on) on).d ∧ (payL l (allO l on) on).pi = l.pi + (payD l (allO l on) on).c := by
    unfold payL Lo.done
    split <;> exact ⟨rfl, rfl, rfl⟩
  have hq : payD l (allO l on) on = dist (allO l on) l.fee l.pen (oI l on) (oP l on) := rfl
  rw [hq] at hx
  have hall : allO l on = pos l.fee + pos l.pen + pos (oI l on) + pos (oP l on) := rfl
  have e1 := h.oI on
  have e2 := h.oP on
  generalize dist (allO l on) l.fee l.pen (oI l on) (oP l on) = x at *
  generalize payL l (allO l on) on = L at *
  have ag := age_ok hk h0 h1
  rw [hk.oI, hk.oP, hx.1, hx.2.1, hx.2.2] at ag
  have ov := (hk.ov on).1
  rw [hx.1, hx.2.1] at ov
  obtain ⟨a0, a1, b0, b1, c0, c1, d0, d1, r0, sm, hr⟩ := hd
  have hrr : x.r = 0 := by
    rcases Int.lt_or_eq_of_le r0 with hlt | heq
    · have := hr hlt; omega
    · exact heq.symm
  exact ⟨(ag.2 (by omega)).1, by rw [ov]; omega⟩
end Go.Proofs.YtjmgahdjojdanaaDoor.Ln
