/-
  Schedules, plain: days do not descend; what is left; the sums of an annuity.
-/
import Derived.Test.YtmdjikmpgckpbaaDoorSm2
namespace Go.Proofs.YtmdjikmpgckpbaaDoor.Kl
open Go Go.RowKit
open Go.Proofs.YtmdjikmpgckpbaaDoor.Cal
open Go.Proofs.YtmdjikmpgckpbaaDoor.Ln (Tm Du)
open Go.Proofs.YtmdjikmpgckpbaaDoor.An (intr intr_bd intr_mono Rate enough Least restA stepA restA_add)

theorem dn_max {f : Int → Bool} {x : Int} : ∀ (n : Nat) (d : Int), dn f n d = some x → ∀ y, x < y → y ≤ d → f y = false
  | 0, _, h => by cases h
  | n + 1, d, h => by
    unfold dn at h
    split at h
    · cases h
      intro y h1 h2
      omega
    · rename_i hf
      intro y h1 h2
      by_cases e : y = d
      · subst e; simpa using hf
      · exact dn_max n (d - 1) h y h1 (by omega)
theorem mend_lt {d e y m k y' m' k' : Int} (h : IsCivil d y m k) (h' : IsCivil e y' m' k') (hl : 12 * y + m < 12 * y' + m') : mend d < e := by
  have hv := h.valid
  obtain ⟨c1, c2, c3⟩ := civ_eq h
  have hm : mend d = d - k + mlen y m := by unfold mend; rw [c1, c2, c3]
  rw [hm]
  have ha := h.at_
  have ha' := h'.at_
  have hs := cum_succ y m
  have h0 := h.y0; have h1 := h.y1; have h2 := h.m0; have h3 := h.m1
  have g0 := h'.y0; have g1 := h'.y1; have g2 := h'.m0; have g3 := h'.m1; have g4 := h'.k0
  by_cases e : y = y'
  · subst e
    have := cum_mono y (m + 1) m' (by omega) (by omega)
    omega
  · have hb := begin_succ y h0 h1
    have hb2 := begin_mono (y + 1) y' (by omega) (by omega)
    have hc := cum_mono y (m + 1) 13 (by omega) (by omega)
    rw [cum_13] at hc
    have hd := (cum_bd y' m' g2 (by omega)).1
    omega
theorem adj_open {c : Cl} {d x : Int} (h0 : 0 ≤ d) (h1 : d ≤ 73048) (h : adj c d = some x) : openB c x = true ∧ x ≤ mend d ∧ (d ≤ x ∨ prv c d = some x) := by
  have hm := mend_bd h0 h1
  unfold adj at h
  split at h
  · rename_i z hz
    split at h
    · cases h
      have := up_bd _ _ hz
      exact ⟨this.2.2, by omega, .inl this.1⟩
    · have := dn_bd _ _ h
      exact ⟨this.2.2, by omega, .inr h⟩
  · have := dn_bd _ _ h
    exact ⟨this.2.2, by omega, .inr h⟩
theorem adj_mono {c : Cl} {d e x x' : Int} (h0 : 0 ≤ d) (h1 : d ≤ 73048) (g0 : 0 ≤ e) (g1 : e ≤ 73048) (hl : mend d < e) (h : adj c d = some x) (h' : adj c e = some x') : x ≤ x' := by
  have ho := adj_open h0 h1 h
  have ho' := adj_open g0 g1 h'
  rcases ho'.2.2 with hh | hh
  · omega
  · apply Classical.byContradiction
    intro hn
    have := dn_max _ _ hh x (by omega) (by omega)
    rw [ho.1] at this
    cases this
/-- Days of installments do not descend. -/
theorem dV_mono {t : Tm} {c : Cl} (ht : TOk t) {i : Int} (_ : 0 ≤ i) (h1 : dE t c i = 0) (h2 : dE t c (i + 1) = 0) : dV t c i ≤ dV t c (i + 1) := by
  have hk := civ_spec t.stt ht.stt.1 ht.stt.2
  have ha := hk.k0
  unfold dE at h1 h2
  unfold dV
  split at h1
  · rename_i d hd
    split at h2
    · rename_i e he
      have c1 := addM_civ ha hd
      have c2 := addM_civ ha he
      have v1 := c1.2.2.valid
      have v2 := c2.2.2.valid
      have hl : mend d < e := mend_lt c1.2.2 c2.2.2 (by
        have : (i + 1) * t.ev = i * t.ev + t.ev := by rw [Int.add_mul, Int.one_mul]
        have := ht.ev
        omega)
      cases hx : adj c d with
      | none => rw [hx] at h1; simp [oE] at h1
      | some x =>
        cases hy : adj c e with
        | none => rw [hy] at h2; simp [oE] at h2
        | some y =>
          show x ≤ y
          exact adj_mono v1.1 v1.2 v2.1 v2.2 hl hx hy
    · omega
  · omega
theorem ann_sum {t : Tm} (_ : TOk t) (ha : annB t = true) {i : Nat} (hi : i + 1 < t.ct.toNat) : prt t (payV t) i (lf t (payV t) i) = min (payV t - intr (t.ppm * t.ev) t.mo (lf t (payV t) i)) (lf t (payV t) i) := by
  have h23 : t.me ≠ 2 ∧ t.me ≠ 3 := by
    unfold annB at ha
    simp at ha
    omega
  unfold prt
  rw [if_pos hi, if_neg h23.1, if_neg h23.2]
/-- The sums of an annuity's installments. -/
theorem ann_rest {t : Tm} (h : TOk t) (ha : annB t = true) (hp : PayOk t (payV t)) : ∀ i : Nat, i + 1 ≤ t.ct.toNat → restA (t.ppm * t.ev) t.mo (payV t) i t.pr = some (lf t (payV t) i)
  | 0, _ => rfl
  | i + 1, hi => by
    have hb := (lf_bd h hp (i + 1)).1
    have hb0 := (lf_bd h hp i).1
    rw [restA_add, ann_rest h ha hp i (by omega)]
    show restA _ _ _ (0 + 1) _ = _
    have hpr := h.pr
    have hs : stepA (t.ppm * t.ev) t.mo (payV t) (lf t (payV t) i) = lf t (payV t) (i + 1) := by
      rw [lf_succ, ann_sum h ha (by omega)]
      unfold stepA
      split <;> omega
    unfold restA
    rw [hs, if_neg (by omega)]
    rfl
/-- The sum of installment i. -/
noncomputable def nAt (t : Tm) (i : Nat) : Int := prt t (payV t) i (lf t (payV t) i) + intr (t.ppm * t.ev) t.mo (lf t (payV t) i)
theorem level {t : Tm} (h : TOk t) (ha : annB t = true) (he : payE t = 0) (hc : 2 ≤ t.ct) {i : Nat} :
    (i + 1 = t.ct.toNat → nAt t i ≤ nAt t 0 + t.ba) ∧ (i + 1 < t.ct.toNat → nAt t i = nAt t 0 ∨ (lf t (payV t) (i + 1) = 0 ∧ nAt t i ≤ nAt t 0)) := by
  obtain ⟨hp, hl⟩ := h.pay he
  have hb := (lf_bd h hp i).1
  have hr := h.rate
  have hpr := h.pr
  have hm := intr_mono (m := t.mo) hr hb.1 hb.2
  have hba := h.ba0
  have e0 : nAt t 0 = min (payV t) (t.pr + intr (t.ppm * t.ev) t.mo t.pr) := by
    unfold nAt
    rw [ann_sum h ha (by omega)]
    show min (payV t - intr _ _ t.pr) t.pr + intr _ _ t.pr = _
    omega
  rw [e0]
  constructor
  · intro hlast
    have hen := (hl ha).2.1
    have hrr := ann_rest h ha hp i (by omega)
    unfold enough at hen
    rw [← hlast, restA_add, hrr] at hen
    have e1 : nAt t i = lf t (payV t) i + intr (t.ppm * t.ev) t.mo (lf t (payV t) i) := by
      unfold nAt
      rw [prt_last (by omega)]
    rw [e1]
    have e2 : (some (lf t (payV t) i)).bind (restA (t.ppm * t.ev) t.mo (payV t) 1) = if 1000000000000 < stepA (t.ppm * t.ev) t.mo (payV t) (lf t (payV t) i) then none else some (stepA (t.ppm * t.ev) t.mo (payV t) (lf t (payV t) i)) := rfl
    rw [e2] at hen
    split at hen
    · cases hen
    · rename_i n hn
      split at hn
      · cases hn
      · have := Option.some.inj hn
        unfold stepA at this
        have h2 := of_decide_eq_true hen
        split at this <;> omega
  · intro hlt
    have e1 : nAt t i = min (payV t) (lf t (payV t) i + intr (t.ppm * t.ev) t.mo (lf t (payV t) i)) := by
      unfold nAt
      rw [ann_sum h ha hlt]
      omega
    have e2 : lf t (payV t) (i + 1) = lf t (payV t) i - min (payV t - intr (t.ppm * t.ev) t.mo (lf t (payV t) i)) (lf t (payV t) i) := by
      rw [lf_succ, ann_sum h ha hlt]
    rw [e1, e2]
    omega
end Go.Proofs.YtmdjikmpgckpbaaDoor.Kl
