/-
  A payment conserves; plain.
-/
import Derived.Test.YtaibocobeibobaaLm2
namespace Go.Proofs.Ytaibocobeibobaa.Ln
open Go.RowKit
open Go.Proofs.Ytaibocobeibobaa

theorem pps_mem {x : Dist} {p : Pa} (h : p ∈ x.pps) : 0 < p.am ∧ ((p.kd = 1 ∧ p.am = x.a) ∨ (p.kd = 2 ∧ p.am = x.b) ∨ (p.kd = 3 ∧ p.am = x.c) ∨ (p.kd = 4 ∧ p.am = x.d) ∨ (p.kd = 5 ∧ p.am = x.r)) := by
  unfold Dist.pps pparts at h
  rw [List.mem_filter] at h
  obtain ⟨h1, h2⟩ := h
  simp only [List.mem_cons, List.not_mem_nil, or_false] at h1
  refine ⟨by simpa using h2, ?_⟩
  rcases h1 with rfl | rfl | rfl | rfl | rfl <;> simp
theorem pps_sorted (x : Dist) : x.pps.Pairwise (fun p q => p.kd < q.kd) := by
  unfold Dist.pps pparts
  apply List.Pairwise.filter
  simp
theorem pps_kind {x : Dist} {i : Nat} (h0 : 0 < i) (h : i < x.pps.length) : x.pps[i - 1]!.kd < x.pps[i]!.kd := by
  rw [getElem!_pos _ i h, getElem!_pos _ (i - 1) (by omega)]
  exact List.pairwise_iff_getElem.1 (pps_sorted x) (i - 1) i (by omega) h (by omega)
theorem pps_sum (x : Dist) (ha : 0 ≤ x.a) (hb : 0 ≤ x.b) (hc : 0 ≤ x.c) (hd : 0 ≤ x.d) (hr : 0 ≤ x.r) : sum (x.pps.map Pa.am) = x.a + x.b + x.c + x.d + x.r := by
  have one : ∀ (k a : Int) (ps : List Pa), 0 ≤ a → sum ((pparts (⟨k, a⟩ :: ps)).map Pa.am) = a + sum ((pparts ps).map Pa.am) := fun k a ps h => by
    unfold pparts
    by_cases h1 : 0 < a
    · simp [h1, sum]
    · have : a = 0 := by omega
      subst this; simp
  unfold Dist.pps
  rw [one _ _ _ ha, one _ _ _ hb, one _ _ _ hc, one _ _ _ hd, one _ _ _ hr]
  simp only [pparts, List.filter_nil, List.map_nil, sum]
  omega
/-- The sum so far. -/
def sumT (ps : List Pa) (k : Nat) : Int := sum ((ps.take k).map Pa.am)
theorem sumT_zero (ps : List Pa) : sumT ps 0 = 0 := by simp [sumT, sum]
theorem sumT_succ {ps : List Pa} {k : Nat} (h : k < ps.length) : sumT ps (k + 1) = sumT ps k + ps[k]!.am := by
  unfold sumT
  rw [List.take_add_one, List.map_append, sum_append, List.getElem?_eq_getElem h, getElem!_pos ps k h]
  simp [sum]
theorem sumT_all (ps : List Pa) : sumT ps ps.length = sum (ps.map Pa.am) := by unfold sumT; rw [List.take_length]
theorem sumT_bd {ps : List Pa} (h : ∀ p ∈ ps, 0 ≤ p.am) (k : Nat) : 0 ≤ sumT ps k ∧ sumT ps k ≤ sum (ps.map Pa.am) := by
  unfold sumT
  have e : sum (ps.map Pa.am) = sum ((ps.take k).map Pa.am) + sum ((ps.drop k).map Pa.am) := by
    rw [← sum_append, ← List.map_append, List.take_append_drop]
  have h1 := sum_nonneg ((ps.take k).map Pa.am) (fun a ha => by
    obtain ⟨p, hp, rfl⟩ := List.mem_map.1 ha
    exact h p (List.mem_of_mem_take hp))
  have h2 := sum_nonneg ((ps.drop k).map Pa.am) (fun a ha => by
    obtain ⟨p, hp, rfl⟩ := List.mem_map.1 ha
    exact h p (List.mem_of_mem_drop hp))
  omega
/-- What is owed of a kind. -/
def owK (l : Lo) (on k : Int) : Int := if k = 1 then l.fee else if k = 2 then l.pen else if k = 3 then oI l on else oP l on
theorem ofK_owed {l : Lo} {on k : Int} (h1 : 1 ≤ k) (h4 : k ≤ 4) (hb : pos (owK l on k) ≤ 1000000000000000) : ofK (powed l on) k = pos (owK l on k) := by
  have e : sum (((powed l on).filter fun p => p.kd == k).map Pa.am) = pos (owK l on k) := by
    unfold powed
    rw [ofK_one, ofK_one, ofK_one, ofK_one]
    simp only [pparts, List.filter_nil, List.map_nil, sum]
    unfold owK pos
    have : k = 1 ∨ k = 2 ∨ k = 3 ∨ k = 4 := by omega
    rcases this with rfl | rfl | rfl | rfl <;> simp
  unfold ofK
  rw [e]
  have : 0 ≤ pos (owK l on k) := by unfold pos; split <;> omega
  exact wrap_in (by omega) (by omega)
/-- All that the statement asks of a payment. -/
structure Consv (l : Lo) (n on : Int) (A : Lo) (ps : List Pa) : Prop where
  each : ∀ i, i < ps.length → 1 ≤ ps[i]!.am ∧ ps[i]!.am ≤ 1000000000000 ∧ 1 ≤ ps[i]!.kd ∧ ps[i]!.kd ≤ 5
  kind : ∀ i, 0 < i → i < ps.length → ps[i - 1]!.kd < ps[i]!.kd
  bd : ∀ k, 0 ≤ sumT ps k ∧ sumT ps k ≤ 1000000000000
  all : sumT ps ps.length = n
  falls : ∀ k, 1 ≤ k → k ≤ 4 → ofK (powed l on) k - ofK ps k = ofK (powed A on) k ∧ 0 ≤ ofK (powed l on) k ∧ ofK (powed l on) k ≤ 1000000000000000 ∧ 0 ≤ ofK ps k ∧ ofK ps k ≤ 1000000000000
  rest : 0 < ofK ps 5 → powed A on = []
  r5 : 0 ≤ ofK ps 5 ∧ ofK ps 5 ≤ 1000000000000
  out : wrap64 (P l.ds - l.pp) - wrap64 (P A.ds - A.pp) = ofK ps 4 ∧ 0 ≤ wrap64 (P l.ds - l.pp) ∧ wrap64 (P l.ds - l.pp) ≤ 1000000000000000 ∧ 0 ≤ wrap64 (P A.ds - A.pp) ∧ wrap64 (P A.ds - A.pp) ≤ 1000000000000000
  ok : chk A = 0
  id : A.id = l.id
  chg : A.chg = l.chg
  ds : A.ds = l.ds
theorem consv {l : Lo} {n on : Int} (he : payE l n on = 0) : Consv l n on (payL l n on) (payD l n on).pps := by
  obtain ⟨hk, n1, n2, _, _, hs⟩ := payE_zero he
  have hx := payD_ok (l := l) (n := n) (on := on) (by omega)
  have a0 := hx.a0; have b0 := hx.b0; have c0 := hx.c0; have d0 := hx.d0; have r0 := hx.r0; have sm := hx.s
  have a1 := hx.a1; have b1 := hx.b1; have c1 := hx.c1; have d1 := hx.d1
  have hA := hk.pay hs (n := n) (day := on) (by omega)
  obtain ⟨o1, o2, o3, o4⟩ := owed_after he
  have s := hk.sums on
  obtain ⟨f0, f1⟩ := amt_iff.1 hk.fee
  obtain ⟨e0, e1⟩ := amt_iff.1 hk.pen
  have hpp := hk.pp; have hpp' := hk.pp'; have hpi := hk.pi; have hpi' := hk.pi'
  have p1 := s.p1; have p2 := s.p2; have i1 := s.i1; have i2 := s.i2
  have sA := payL_same l n on
  have dn := done_f (l.take (payD l n on))
  have epp : (payL l n on).pp = l.pp + (payD l n on).d := dn.2.2.2
  have hApp := hA.pp'
  have hApp0 := hA.pp
  rw [sA.1] at hApp
  have oid : (payL l n on).id = l.id ∧ (payL l n on).chg = l.chg := by
    unfold payL Lo.done
    split <;> exact ⟨rfl, rfl⟩
  have hsum := pps_sum (payD l n on) a0 b0 c0 d0 r0
  have hpos : ∀ p ∈ (payD l n on).pps, 0 ≤ p.am := fun p hp => by have := (pps_mem hp).1; omega
  have oI' := hk.oI on
  have oP' := hk.oP on
  have q1 := pos_of (o := l.fee); have q2 := pos_of (o := l.pen); have q3 := pos_of (o := oI l on); have q4 := pos_of (o := oP l on)
  have hbl : ∀ k, pos (owK l on k) ≤ 1000000000000000 := fun k => by
    unfold owK
    split <;> (try split) <;> (try split) <;> omega
  have hfall : ∀ k, 1 ≤ k → k ≤ 4 → pos (owK l on k) - (payD l n on).at k = pos (owK (payL l n on) on k) := fun k k1 k4 => by
    have : k = 1 ∨ k = 2 ∨ k = 3 ∨ k = 4 := by omega
    rcases this with rfl | rfl | rfl | rfl
    · show pos l.fee - (payD l n on).a = pos (payL l n on).fee
      rw [o1]; unfold pos at *; split <;> split <;> omega
    · show pos l.pen - (payD l n on).b = pos (payL l n on).pen
      rw [o2]; unfold pos at *; split <;> split <;> omega
    · show pos (oI l on) - (payD l n on).c = pos (oI (payL l n on) on)
      rw [o3]; unfold pos at *; split <;> split <;> omega
    · show pos (oP l on) - (payD l n on).d = pos (oP (payL l n on) on)
      rw [o4]; unfold pos at *; split <;> split <;> omega
  have at0 : ∀ k, 0 ≤ (payD l n on).at k ∧ (payD l n on).at k ≤ n := fun k => payD_bd (by omega)
  have hK : ∀ k, 1 ≤ k → k ≤ 5 → ofK (payD l n on).pps k = (payD l n on).at k := fun k k1 k5 => ofK_pay (by omega) (by omega) k1 k5
  have hO : ∀ k, 1 ≤ k → k ≤ 4 → ofK (powed l on) k = pos (owK l on k) := fun k k1 k4 => ofK_owed k1 k4 (hbl k)
  have hOA : ∀ k, 1 ≤ k → k ≤ 4 → ofK (powed (payL l n on) on) k = pos (owK (payL l n on) on k) := fun k k1 k4 => ofK_owed k1 k4 (by have := hfall k k1 k4; have := hbl k; have := at0 k; omega)
  refine ⟨fun i hi => ?_, fun i h0 hi => pps_kind h0 hi, fun k => ?_, ?_, fun k k1 k4 => ?_, fun h5 => ?_, ?_, ?_, ok_iff.2 hA, oid.1, oid.2, sA.1⟩
  · have hm := pps_mem (x := payD l n on) (p := (payD l n on).pps[i]!) (by rw [getElem!_pos _ i hi]; exact List.getElem_mem hi)
    omega
  · have := sumT_bd hpos k
    omega
  · rw [sumT_all, hsum]; omega
  · rw [hO k k1 k4, hOA k k1 k4, hK k k1 (by omega)]
    have := hfall k k1 k4
    have := hbl k
    have := at0 k
    have : 0 ≤ pos (owK l on k) := by unfold pos; split <;> omega
    omega
  · rw [hK 5 (by omega) (by omega)] at h5
    have hr : 0 < (payD l n on).r := h5
    obtain ⟨r1, r2, r3, r4⟩ := hx.rest hr
    unfold powed pparts
    rw [List.filter_eq_nil_iff]
    intro p hp
    simp only [List.mem_cons, List.not_mem_nil, or_false] at hp
    rcases hp with rfl | rfl | rfl | rfl
    · simp only [decide_eq_true_eq]; rw [o1]; omega
    · simp only [decide_eq_true_eq]; rw [o2]; omega
    · simp only [decide_eq_true_eq]; rw [o3]; omega
    · simp only [decide_eq_true_eq]; rw [o4]; omega
  · rw [hK 5 (by omega) (by omega)]
    have := at0 5
    omega
  · rw [hK 4 (by omega) (by omega), sA.1, epp]
    have e4 : (payD l n on).at 4 = (payD l n on).d := rfl
    rw [e4, wrap_in (by omega) (by omega), wrap_in (by omega) (by omega)]
    omega
end Go.Proofs.Ytaibocobeibobaa.Ln
