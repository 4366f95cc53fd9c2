/-
  Plain mathematics of day counts: parts of a year as differences of one sum; no Go in sight.
-/
import Derived.Test.YtjmgahdjojdanaaDoorCal
namespace Go.Proofs.YtjmgahdjojdanaaDoor.Cal

/-- The days of 30E/360 up to a day. -/
noncomputable def u30 (d : Int) : Int := 360 * cy d + 30 * cm d + min (ck d) 30
/-- The weight of a day of a year, on the basis BaActual. -/
def wt (y : Int) : Int := 4392 - 12 * lp y
noncomputable def act (d : Int) : Int := 1603080 * (cy d - 2000) + (d - begin_ (cy d)) * wt (cy d)
/-- The part of a year up to a day. -/
noncomputable def cw (b d : Int) : Int := if b = 1 then 4453 * d else if b = 2 then 4392 * d else if b = 3 then act d else 4453 * u30 d

theorem wt_01 (y : Int) : (lp y = 1 ∧ wt y = 4380) ∨ (lp y = 0 ∧ wt y = 4392) := by
  rcases lp_01 y with h | h
  · exact .inr ⟨h, by unfold wt; omega⟩
  · exact .inl ⟨h, by unfold wt; omega⟩
theorem wt_year (y : Int) : (365 + lp y) * wt y = 1603080 := by
  rcases wt_01 y with ⟨h, g⟩ | ⟨h, g⟩ <;> rw [h, g] <;> rfl
theorem civ_bd (d : Int) (h0 : 0 ≤ d) (h1 : d ≤ 73048) : 2000 ≤ cy d ∧ cy d ≤ 2199 ∧ 1 ≤ cm d ∧ cm d ≤ 12 ∧ 1 ≤ ck d ∧ ck d ≤ 31 := by
  have h := civ_spec d h0 h1
  have := mlen_bd (cy d) (cm d) h.m0 h.m1
  exact ⟨h.y0, h.y1, h.m0, h.m1, h.k0, by have := h.k1; omega⟩
/-- The part up to a day of a known year. -/
theorem act_in (d y : Int) (h0 : 0 ≤ d) (h1 : d ≤ 73048) (hy : 2000 ≤ y) (hb : begin_ y ≤ d ∧ d < begin_ (y + 1)) : cy d = y ∧ act d = 1603080 * (y - 2000) + (d - begin_ y) * wt y := by
  have h := civ_spec d h0 h1
  have e := year_uniq h.y0 hy h.year hb
  exact ⟨e, by unfold act; rw [e]⟩
/-- Within a year the parts are in proportion. -/
theorem act_within (d e : Int) (h0 : 0 ≤ d) (h1 : e ≤ 73048) (hde : d ≤ e) (hb : e < begin_ (cy d + 1)) : act e - act d = (e - d) * wt (cy d) := by
  have h := civ_spec d h0 (by omega)
  have hy := h.year
  have a := act_in e (cy d) (by omega) h1 h.y0 ⟨by omega, hb⟩
  rw [a.2]; unfold act
  have : (e - begin_ (cy d)) * wt (cy d) = (e - d) * wt (cy d) + (d - begin_ (cy d)) * wt (cy d) := by rw [← Int.add_mul]; congr 1; omega
  omega
/-- Up to the first day of the next year. -/
theorem act_to_next (d : Int) (h0 : 0 ≤ d) (h1 : begin_ (cy d + 1) ≤ 73048) (hd : d ≤ 73048) : act (begin_ (cy d + 1)) - act d = (begin_ (cy d + 1) - d) * wt (cy d) ∧ cy (begin_ (cy d + 1)) = cy d + 1 := by
  have h := civ_spec d h0 hd
  have hy := h.year
  have hs := begin_succ (cy d) h.y0 h.y1
  have hlt : cy d + 1 ≤ 2199 := by
    by_cases q : cy d = 2199
    · rw [q] at h1; have := begin_200; simp only [show (2199 : Int) + 1 = 2200 from rfl] at h1; omega
    · have := h.y1; omega
  have hs2 := begin_succ (cy d + 1) (by have := h.y0; omega) hlt
  have lb := lp_bd (cy d + 1)
  have a := act_in (begin_ (cy d + 1)) (cy d + 1) (by omega) h1 (by have := h.y0; omega) ⟨by omega, by omega⟩
  refine ⟨?_, a.1⟩
  rw [a.2]; unfold act
  have w := wt_year (cy d)
  have e1 : (begin_ (cy d + 1) - d) * wt (cy d) = (365 + lp (cy d)) * wt (cy d) - (d - begin_ (cy d)) * wt (cy d) := by rw [← Int.sub_mul]; congr 1; omega
  have e2 : (begin_ (cy d + 1) - begin_ (cy d + 1)) * wt (cy d + 1) = 0 := by rw [Int.sub_self, Int.zero_mul]
  omega
/-- The weight of one day. -/
theorem act_day (d : Int) (h0 : 0 ≤ d) (h1 : d + 1 ≤ 73048) : act (d + 1) - act d = wt (cy d) := by
  have h := civ_spec d h0 (by omega)
  have hy := h.year
  by_cases hb : d + 1 < begin_ (cy d + 1)
  · have := act_within d (d + 1) h0 h1 (by omega) hb
    rw [this, show d + 1 - d = 1 by omega, Int.one_mul]
  · have hb' : begin_ (cy d + 1) = d + 1 := by omega
    have := (act_to_next d h0 (by omega) (by omega)).1
    rw [hb', show d + 1 - d = 1 by omega, Int.one_mul] at this
    exact this

/-- The weight of a day that is not the last one, and of any day. -/
noncomputable def wgt (b d : Int) : Int := if b = 1 then 4453 else if b = 2 then 4392 else if b = 3 then wt (cy d) else if b = 4 then (if d + 1 ≤ 73048 then 4453 * (u30 (d + 1) - u30 d) else 0) else 0
theorem wgt_cw (b d : Int) (hb : 1 ≤ b ∧ b ≤ 4) (h0 : 0 ≤ d) (h1 : d + 1 ≤ 73048) : wgt b d = cw b (d + 1) - cw b d := by
  unfold wgt cw
  by_cases c1 : b = 1
  · simp only [if_pos c1]; omega
  by_cases c2 : b = 2
  · simp only [if_neg c1, if_pos c2]; omega
  by_cases c3 : b = 3
  · simp only [if_neg c1, if_neg c2, if_pos c3]; have := act_day d h0 h1; omega
  have c4 : b = 4 := by omega
  simp only [if_neg c1, if_neg c2, if_neg c3, if_pos c4, if_pos h1]; omega
theorem wt_bd (y : Int) : 4380 ≤ wt y ∧ wt y ≤ 4392 := by rcases wt_01 y with ⟨_, g⟩ | ⟨_, g⟩ <;> omega
theorem u30_bd (d : Int) (h0 : 0 ≤ d) (h1 : d ≤ 73048) : 720000 ≤ u30 d ∧ u30 d ≤ 800000 := by
  have := civ_bd d h0 h1; unfold u30; omega
theorem act_bd (d : Int) (h0 : 0 ≤ d) (h1 : d ≤ 73048) : 0 ≤ act d ∧ act d ≤ 400000000 := by
  have h := civ_spec d h0 h1
  have hy := h.year
  have hs := begin_succ (cy d) h.y0 h.y1
  have lb := lp_bd (cy d)
  have := h.y0; have := h.y1
  unfold act
  rcases wt_01 (cy d) with ⟨_, g⟩ | ⟨_, g⟩ <;> rw [g] <;> omega
theorem cw_bd (b d : Int) (h0 : 0 ≤ d) (h1 : d ≤ 73048) : 0 ≤ cw b d ∧ cw b d ≤ 4000000000 := by
  have := act_bd d h0 h1
  have := u30_bd d h0 h1
  unfold cw; split <;> (try split) <;> (try split) <;> omega
theorem wgt_bd (b d : Int) (h0 : 0 ≤ d) (h1 : d ≤ 73048) : -4000000000 ≤ wgt b d ∧ wgt b d ≤ 4000000000 := by
  unfold wgt
  have := wt_bd (cy d)
  have := u30_bd d h0 h1
  by_cases c : d + 1 ≤ 73048
  · have := u30_bd (d + 1) (by omega) c
    simp only [if_pos c]
    split <;> (try split) <;> (try split) <;> (try split) <;> omega
  · simp only [if_neg c]
    split <;> (try split) <;> (try split) <;> (try split) <;> omega

/-- The part of a year of a span, as the chapter says it. -/
noncomputable def sumv (b f t : Int) : Int := if (1 ≤ b ∧ b ≤ 4) ∧ 0 ≤ f ∧ f ≤ t ∧ t ≤ 73048 then cw b t - cw b f else 0
theorem sumv_in {b f t : Int} (h : (1 ≤ b ∧ b ≤ 4) ∧ 0 ≤ f ∧ f ≤ t ∧ t ≤ 73048) : sumv b f t = cw b t - cw b f := if_pos h
theorem sumv_out {b f t : Int} (h : ¬ ((1 ≤ b ∧ b ≤ 4) ∧ 0 ≤ f ∧ f ≤ t ∧ t ≤ 73048)) : sumv b f t = 0 := if_neg h
/-- 30E/360, as the chapter says it. -/
noncomputable def thi (f t : Int) : Int := if (0 ≤ f ∧ f ≤ 73048) ∧ (0 ≤ t ∧ t ≤ 73048) then u30 t - u30 f else 0
theorem thi_in {f t : Int} (h : (0 ≤ f ∧ f ≤ 73048) ∧ (0 ≤ t ∧ t ≤ 73048)) : thi f t = u30 t - u30 f := if_pos h
theorem thi_out {f t : Int} (h : ¬ ((0 ≤ f ∧ f ≤ 73048) ∧ (0 ≤ t ∧ t ≤ 73048))) : thi f t = 0 := if_neg h
/-- The weight, as the chapter says it. -/
noncomputable def wei (b d : Int) : Int := if 0 ≤ d ∧ d ≤ 73048 then wgt b d else 0
theorem wei_in {b d : Int} (h0 : 0 ≤ d) (h1 : d ≤ 73048) : wei b d = wgt b d := if_pos ⟨h0, h1⟩
theorem wei_out {b d : Int} (h : d < 0 ∨ 73048 < d) : wei b d = 0 := if_neg (by omega)

end Go.Proofs.YtjmgahdjojdanaaDoor.Cal
