/-
  A loan that is disbursed, plain: it is accepted.
-/
import Derived.Test.YtaanicginfjgdaaDoorSma
import Derived.Test.YtaanicginfjgdaaDoorZl
namespace Go.Proofs.YtaanicginfjgdaaDoor.Ln
open Go Go.RowKit
open Go.Proofs.YtaanicginfjgdaaDoor
open Go.Proofs.YtaanicginfjgdaaDoor.Kl (Cl blE blV bl_facts bl_len bl_each bl_ord bl_P bl_I)

/-- What Disburse answers. -/
noncomputable def disE (id ac : Int) (t : Tm) (c : Cl) : Int := if id < 1 ∨ ac < 1000 then 1 else blE t c
/-- The loan that Disburse makes. -/
noncomputable def disO (id ac : Int) (t : Tm) (c : Cl) : Lo := ⟨id, ac, 1, 0, 0, 0, 0, t.stt, 0, 0, 0, t, blV t c, []⟩
noncomputable def disL (id ac : Int) (t : Tm) (c : Cl) : Lo := if disE id ac t c = 0 then disO id ac t c else zLo
theorem dis_parts {id ac : Int} {t : Tm} {c : Cl} (h : disE id ac t c = 0) : 1 ≤ id ∧ 1000 ≤ ac ∧ blE t c = 0 := by
  unfold disE at h
  split at h
  · cases h
  · exact ⟨by omega, by omega, h⟩
theorem dis_chk {id ac : Int} {t : Tm} {c : Cl} (h : disE id ac t c = 0) : chk (disL id ac t c) = 0 := by
  obtain ⟨h1, h2, hb⟩ := dis_parts h
  obtain ⟨_, ht, _, _, _⟩ := bl_facts hb
  have hl := bl_len hb
  have hct := ht.ct
  have hst := ht.stt
  have hpr := ht.pr
  have hpn := ht.pn
  have hfe := ht.fe
  have hP := bl_P hb
  have hI := (bl_I hb).1
  unfold disL
  rw [if_pos h]
  have hr : rangedB (disO id ac t c) = true := by
    unfold rangedB disO dayB rateB amt
    simp only [Bool.and_eq_true, decide_eq_true_eq, bl_each hb, hl, List.length_nil, and_true]
    omega
  have ho : ordB (disO id ac t c).ds = true := bl_ord hb
  have hs : sumsB (disO id ac t c) = true := by
    have hlf : leftB (disO id ac t c) = true := by
      unfold leftB disO
      rw [hP, decide_eq_true (by omega : (0 : Int) ≠ t.pr)]
      rfl
    unfold sumsB
    rw [hlf]
    unfold disO
    simp only [Bool.and_eq_true, Bool.or_eq_true, decide_eq_true_eq, beq_iff_eq, hP, List.length_nil]
    refine ⟨⟨⟨⟨⟨by omega, hI⟩, by omega⟩, .inr trivial⟩, .inr (by simp)⟩, .inr ⟨trivial, trivial⟩⟩
  unfold chk
  rw [hr, ho, hs]
  rfl
end Go.Proofs.YtaanicginfjgdaaDoor.Ln
