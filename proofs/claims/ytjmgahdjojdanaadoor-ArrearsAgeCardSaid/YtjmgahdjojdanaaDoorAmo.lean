/-
  Arrears, plain: what is owed, summed; whether it is late.
-/
import Derived.Test.YtjmgahdjojdanaaDoorAmq
namespace Go.Proofs.YtjmgahdjojdanaaDoor.Ln
open Go.RowKit
open Go.Proofs.YtjmgahdjojdanaaDoor

/-- The sum of parts. -/
def amW (ps : List Pa) : Int := wrap64 (sum (ps.map Pa.am))
theorem amW_nil : amW [] = 0 := by simp [amW, sum, wrap64]
theorem amW_succ {ps : List Pa} {i : Nat} (h : i < ps.length) : amW (ps.take (i + 1)) = wrap64 (amW (ps.take i) + ps[i]!.am) := by
  unfold amW
  rw [List.take_add_one, List.map_append, sum_append, List.getElem?_eq_getElem h, getElem!_pos ps i h]
  simp [sum, wrap_add]
/-- Interest or principal is among the parts. -/
def lateB (ps : List Pa) : Bool := ps.any fun p => p.kd == 3 || p.kd == 4
theorem lateB_succ {ps : List Pa} {i : Nat} (h : i < ps.length) : lateB (ps.take (i + 1)) = (lateB (ps.take i) || (ps[i]!.kd == 3 || ps[i]!.kd == 4)) := by
  unfold lateB
  rw [List.take_add_one, List.any_append, List.getElem?_eq_getElem h, getElem!_pos ps i h]
  simp
/-- The last part is of principal. -/
def endP (ps : List Pa) : Bool := decide (0 < ps.length) && ps[ps.length - 1]!.kd == 4
theorem owed_sum {a b c d : Int} (ha : a ≤ 1000000000000000) (hb : b ≤ 1000000000000000) (hc : c ≤ 1000000000000000) (hd : d ≤ 1000000000000000) :
    amW (pparts [⟨1, a⟩, ⟨2, b⟩, ⟨3, c⟩, ⟨4, d⟩]) = pos a + pos b + pos c + pos d ∧ lateB (pparts [⟨1, a⟩, ⟨2, b⟩, ⟨3, c⟩, ⟨4, d⟩]) = decide (0 < c ∨ 0 < d) ∧ endP (pparts [⟨1, a⟩, ⟨2, b⟩, ⟨3, c⟩, ⟨4, d⟩]) = decide (0 < d) := by
  unfold amW lateB endP pparts pos
  by_cases h1 : 0 < a <;> by_cases h2 : 0 < b <;> by_cases h3 : 0 < c <;> by_cases h4 : 0 < d <;> simp [h1, h2, h3, h4, sum] <;> (unfold wrap64; omega)
theorem dys_le {pp pi on : Int} : ∀ (ds : List Du) (p i : Int), dys pp pi on ds p i ≤ 9223372036854775807
  | [], _, _ => by simp [dys]
  | d :: ds, p, i => by
    unfold dys
    split
    · unfold wrap64; omega
    · exact dys_le ds _ _
theorem days_le (l : Lo) (on : Int) : daysL l on ≤ 9223372036854775807 := dys_le _ _ _
theorem age_owed {l : Lo} (h : Ok l) (on : Int) : amW (powed l on) = allO l on ∧ lateB (powed l on) = decide (0 < oI l on ∨ 0 < oP l on) ∧ endP (powed l on) = decide (0 < ovL l on) := by
  obtain ⟨f0, f1⟩ := amt_iff.1 h.fee
  obtain ⟨e0, e1⟩ := amt_iff.1 h.pen
  have s := h.sums on
  have := h.pp; have := h.pi; have := s.p2; have := s.i2; have := s.p1; have := s.i1
  have hI := h.oI on
  have hP := h.oP on
  have ho := owed_sum (a := l.fee) (b := l.pen) (c := oI l on) (d := oP l on) (by omega) (by omega) (by omega) (by omega)
  refine ⟨ho.1, ho.2.1, ?_⟩
  have hov : ovL l on = max (oP l on) 0 := rfl
  rw [show endP (powed l on) = _ from ho.2.2, hov]
  exact decide_eq_decide.2 (by omega)
end Go.Proofs.YtjmgahdjojdanaaDoor.Ln
