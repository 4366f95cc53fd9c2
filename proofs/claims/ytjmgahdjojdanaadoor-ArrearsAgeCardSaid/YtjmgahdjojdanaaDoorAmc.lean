/-
  Arrears, plain: what Charge returns.
-/
import Derived.Test.YtjmgahdjojdanaaDoorAmq
import Derived.Test.YtjmgahdjojdanaaDoorRd4
namespace Go.Proofs.YtjmgahdjojdanaaDoor.Ln
open Go.RowKit
open Go.Proofs.YtjmgahdjojdanaaDoor

/-- The grains of a charge, its amount. -/
noncomputable def chgG (l : Lo) (on : Int) : Int := penV l l.chg on
noncomputable def chgM (l : Lo) (on : Int) : Int := Rd.amV (chgG l on) 6
noncomputable def chgE (l : Lo) (on : Int) : Int := if chk l = 0 ∧ dayB on = true then (if l.st = 1 then (if on < l.chg then 10 else if penE l l.chg on = 0 then (if Rd.amE (chgG l on) 6 = 0 ∧ l.pen + chgM l on ≤ 1000000000000 then 0 else 6) else 1) else 17) else 1
noncomputable def chgN (l : Lo) (on : Int) : Int := if chgE l on = 0 then chgM l on else 0
/-- A loan that is charged. -/
def Lo.chd (l : Lo) (n on : Int) : Lo := { l with pen := l.pen + n, chg := on }
def zTmA : Tm := ⟨0, 0, 0, 0, 0, 0, 0, 0, 0, 0, .empty, .empty⟩
def zLoA : Lo := ⟨0, 0, 0, 0, 0, 0, 0, 0, 0, 0, 0, zTmA, [], []⟩
noncomputable def chgL (l : Lo) (on : Int) : Lo := if chgE l on = 0 then l.chd (chgM l on) on else zLoA
theorem chg_no {l : Lo} {on e : Int} (h : chgE l on = e) (he : e ≠ 0) : chgE l on = e ∧ chgN l on = 0 ∧ chgL l on = zLoA := ⟨h, if_neg (by rw [h]; exact he), if_neg (by rw [h]; exact he)⟩
theorem chg_ways (l : Lo) (on : Int) :
    (chk l ≠ 0 ∧ chgE l on = 1 ∧ chgN l on = 0 ∧ chgL l on = zLoA) ∨ (chk l = 0 ∧ dayB on = false ∧ chgE l on = 1 ∧ chgN l on = 0 ∧ chgL l on = zLoA) ∨ (chk l = 0 ∧ dayB on = true ∧ l.st ≠ 1 ∧ chgE l on = 17 ∧ chgN l on = 0 ∧ chgL l on = zLoA) ∨
    (chk l = 0 ∧ dayB on = true ∧ l.st = 1 ∧ on < l.chg ∧ chgE l on = 10 ∧ chgN l on = 0 ∧ chgL l on = zLoA) ∨ (chk l = 0 ∧ dayB on = true ∧ l.st = 1 ∧ l.chg ≤ on ∧ penE l l.chg on = 1 ∧ chgE l on = 1 ∧ chgN l on = 0 ∧ chgL l on = zLoA) ∨
    (chk l = 0 ∧ dayB on = true ∧ l.st = 1 ∧ l.chg ≤ on ∧ penE l l.chg on = 0 ∧ Rd.amE (chgG l on) 6 ≠ 0 ∧ chgE l on = 6 ∧ chgN l on = 0 ∧ chgL l on = zLoA) ∨
    (chk l = 0 ∧ dayB on = true ∧ l.st = 1 ∧ l.chg ≤ on ∧ penE l l.chg on = 0 ∧ Rd.amE (chgG l on) 6 = 0 ∧ 1000000000000 < l.pen + chgM l on ∧ chgE l on = 6 ∧ chgN l on = 0 ∧ chgL l on = zLoA) ∨
    (chk l = 0 ∧ dayB on = true ∧ l.st = 1 ∧ l.chg ≤ on ∧ penE l l.chg on = 0 ∧ Rd.amE (chgG l on) 6 = 0 ∧ l.pen + chgM l on ≤ 1000000000000 ∧ chgE l on = 0 ∧ chgN l on = chgM l on ∧ chgL l on = l.chd (chgM l on) on) := by
  by_cases h1 : chk l = 0
  · cases h2 : dayB on
    · exact .inr (.inl ⟨h1, rfl, chg_no (if_neg (fun h => absurd (h2.symm.trans h.2) (by decide))) (by decide)⟩)
    · have g : chgE l on = (if l.st = 1 then (if on < l.chg then 10 else if penE l l.chg on = 0 then (if Rd.amE (chgG l on) 6 = 0 ∧ l.pen + chgM l on ≤ 1000000000000 then 0 else 6) else 1) else 17) := if_pos ⟨h1, h2⟩
      by_cases h3 : l.st = 1
      · rw [if_pos h3] at g
        by_cases h4 : on < l.chg
        · rw [if_pos h4] at g
          exact .inr (.inr (.inr (.inl ⟨h1, rfl, h3, h4, chg_no g (by decide)⟩)))
        · rw [if_neg h4] at g
          by_cases h5 : penE l l.chg on = 0
          · rw [if_pos h5] at g
            by_cases h6 : Rd.amE (chgG l on) 6 = 0
            · by_cases h7 : l.pen + chgM l on ≤ 1000000000000
              · rw [if_pos ⟨h6, h7⟩] at g
                exact .inr (.inr (.inr (.inr (.inr (.inr (.inr ⟨h1, rfl, h3, by omega, h5, h6, h7, g, if_pos g, if_pos g⟩))))))
              · rw [if_neg (fun h => h7 h.2)] at g
                exact .inr (.inr (.inr (.inr (.inr (.inr (.inl ⟨h1, rfl, h3, by omega, h5, h6, by omega, chg_no g (by decide)⟩))))))
            · rw [if_neg (fun h => h6 h.1)] at g
              exact .inr (.inr (.inr (.inr (.inr (.inl ⟨h1, rfl, h3, by omega, h5, h6, chg_no g (by decide)⟩)))))
          · rw [if_neg h5] at g
            have h5' : penE l l.chg on = 1 := by unfold penE at h5 ⊢; split <;> simp_all
            exact .inr (.inr (.inr (.inr (.inl ⟨h1, rfl, h3, by omega, h5', chg_no g (by decide)⟩))))
      · rw [if_neg h3] at g
        exact .inr (.inr (.inl ⟨h1, rfl, h3, chg_no g (by decide)⟩))
  · exact .inl ⟨h1, chg_no (if_neg (fun h => h1 h.1)) (by decide)⟩
theorem am_pos {g : Int} (h0 : 0 ≤ g) (h : Rd.amE g 6 = 0) : 0 ≤ Rd.amV g 6 ∧ Rd.amV g 6 ≤ 1000000000000 := by
  have hr : Rd.rdE g 1603080000000 6 = 0 := by
    rcases Classical.em (Rd.rdE g 1603080000000 6 = 0) with h' | h'
    · exact h'
    · exact absurd ((Rd.am_bad h').1.symm.trans h) h'
  by_cases hg : Rd.gd (Rd.rdV g 1603080000000 6)
  · obtain ⟨_, e, _⟩ := Rd.am_ok hr hg
    rw [e]
    have hn := Rd.rd_near (x := g) (n := 1603080000000) (mode := 6) (by omega)
    rw [(Rd.rdE_0 hr).2.1] at hg ⊢
    have := hg.2
    generalize Rd.rd g 1603080000000 6 = r at *
    omega
  · obtain ⟨e, _⟩ := Rd.am_over hr hg
    omega
theorem am_zero : Rd.amE 0 6 = 0 ∧ Rd.amV 0 6 = 0 := by
  have hk : Rd.rok 1603080000000 6 := ⟨by omega, by omega, by omega⟩
  have hz : Rd.rd 0 1603080000000 6 = 0 := by rw [Rd.rd_exact (by decide)]; decide
  have h1 : Rd.rdE 0 1603080000000 6 = 0 := by rw [(Rd.rd_yes hk).2, hz]; rfl
  have h2 : Rd.rdV 0 1603080000000 6 = 0 := by rw [(Rd.rdE_0 h1).2.1, hz]
  have := Rd.am_ok h1 (by rw [h2]; exact ⟨by decide, by decide⟩)
  exact ⟨this.1, by rw [this.2.1, h2]⟩
theorem chgG_pos {l : Lo} (h : Ok l) (on : Int) : 0 ≤ chgG l on := by
  unfold chgG penV
  split
  · exact (h.penS _ _).1
  · exact Int.le_refl _
theorem Ok.chd {l : Lo} (h : Ok l) (hst : l.st = 1) {n on : Int} (hn : 0 ≤ n) (hm : l.pen + n ≤ 1000000000000) (hd : dayB on = true) : Ok (l.chd n on) := by
  have hp := amt_iff.1 h.pen
  have hl : leftB l = true := by
    rcases h.left with h3 | h3
    · omega
    · rw [h3, hst]; rfl
  have hl' : leftB (l.chd n on) = true := by
    rw [left_iff] at hl ⊢
    show l.pp ≠ P l.ds ∨ l.pi ≠ I l.ds ∨ l.fee ≠ 0 ∨ l.pen + n ≠ 0
    omega
  exact { id := h.id, ac := h.ac, st1 := h.st1, st3 := h.st3, pp := h.pp, pi := h.pi, rcv := h.rcv, chg := hd, rp := h.rp, rf := h.rf, n1 := h.n1, n2 := h.n2, cs := h.cs, fee := h.fee, pen := amt_iff.2 ⟨by show 0 ≤ l.pen + n; omega, hm⟩, prov := h.prov, loss := h.loss, each := h.each, ord := h.ord, pp' := h.pp', pi' := h.pi', rcv' := h.rcv', tm := h.tm, left := .inr (by rw [hl']; show true = decide (l.st = 1); rw [hst]; rfl), los := h.los }
/-- Charging again on the same day. -/
theorem chg_again {l : Lo} {on : Int} (h : chgE l on = 0) : Ok (chgL l on) ∧ 0 ≤ chgN l on ∧ chgL l on = l.chd (chgN l on) on ∧ chgE (chgL l on) on = 0 ∧ chgN (chgL l on) on = 0 ∧ chgL (chgL l on) on = chgL l on := by
  rcases chg_ways l on with ⟨_, e, _⟩ | ⟨_, _, e, _⟩ | ⟨_, _, _, e, _⟩ | ⟨_, _, _, _, e, _⟩ | ⟨_, _, _, _, _, e, _⟩ | ⟨_, _, _, _, _, _, e, _⟩ | ⟨_, _, _, _, _, _, _, e, _⟩ | ⟨h1, h2, h3, h4, h5, h6, h7, _, eN, eL⟩
  iterate 7 omega
  have hk := ok_iff.1 h1
  have hp : 0 ≤ chgM l on ∧ chgM l on ≤ 1000000000000 := am_pos (chgG_pos hk on) h6
  have hx : Ok (l.chd (chgM l on) on) := hk.chd h3 hp.1 h7 h2
  rw [eL, eN]
  generalize chgM l on = n at *
  have hxp := amt_iff.1 hx.pen
  have hpe : penOk (l.chd n on) on on := ⟨ok_iff.2 hx, h2, h2, Int.le_refl _, by omega⟩
  have hg : chgG (l.chd n on) on = 0 := by
    show penV (l.chd n on) on on = 0
    unfold penV
    rw [if_pos hpe, Int.sub_self]
    rfl
  have hm : chgM (l.chd n on) on = 0 := by unfold chgM; rw [hg]; exact am_zero.2
  have e1 : chgE (l.chd n on) on = 0 := by
    unfold chgE
    rw [if_pos ⟨ok_iff.2 hx, h2⟩, if_pos (show (l.chd n on).st = 1 from h3), if_neg (show ¬ on < (l.chd n on).chg from Int.lt_irrefl _), if_pos (show penE (l.chd n on) (l.chd n on).chg on = 0 from if_pos hpe), hg, hm, if_pos ⟨am_zero.1, by omega⟩]
  refine ⟨hx, hp.1, rfl, e1, ?_, ?_⟩
  · unfold chgN; rw [if_pos e1, hm]
  · unfold chgL
    rw [if_pos e1, hm]
    unfold Lo.chd
    simp
end Go.Proofs.YtjmgahdjojdanaaDoor.Ln
