/-
  Payments on one day: what is paid of each kind; two payments and one; plain.
-/
import Derived.Test.YtaibocobeibobaaLw0
namespace Go.Proofs.Ytaibocobeibobaa.Ln
open Go.RowKit
open Go.Proofs.Ytaibocobeibobaa

theorem wf_n {a : Int} (h : (Lit.int .i64 a).wf = true) : -9223372036854775808 ≤ a ∧ a ≤ 9223372036854775807 := by
  simp [Lit.wf, IntKind.min, IntKind.max, IntKind.signed, IntKind.bits] at h
  omega
/-- What a distribution gives to a kind. -/
def Dist.at (x : Dist) (k : Int) : Int := if k = 1 then x.a else if k = 2 then x.b else if k = 3 then x.c else if k = 4 then x.d else x.r
theorem ofK_one (k j a : Int) (ps : List Pa) : sum (((pparts (⟨j, a⟩ :: ps)).filter fun p => p.kd == k).map Pa.am) = (if j = k then (if 0 < a then a else 0) else 0) + sum (((pparts ps).filter fun p => p.kd == k).map Pa.am) := by
  unfold pparts
  by_cases h1 : 0 < a
  · by_cases h2 : j = k
    · subst h2; simp [h1, sum]
    · simp [h1, h2]
  · simp [h1]
theorem ofK_pps {x : Dist} {k : Int} (h1 : 1 ≤ k) (h5 : k ≤ 5) (ha : 0 ≤ x.a ∧ x.a ≤ 1000000000000) (hb : 0 ≤ x.b ∧ x.b ≤ 1000000000000) (hc : 0 ≤ x.c ∧ x.c ≤ 1000000000000) (hd : 0 ≤ x.d ∧ x.d ≤ 1000000000000) (hr : 0 ≤ x.r ∧ x.r ≤ 1000000000000) : ofK x.pps k = x.at k := by
  have e : sum ((x.pps.filter fun p => p.kd == k).map Pa.am) = x.at k := by
    unfold Dist.pps
    rw [ofK_one, ofK_one, ofK_one, ofK_one, ofK_one]
    simp only [pparts, List.filter_nil, List.map_nil, sum]
    unfold Dist.at
    have : k = 1 ∨ k = 2 ∨ k = 3 ∨ k = 4 ∨ k = 5 := by omega
    rcases this with rfl | rfl | rfl | rfl | rfl <;> simp <;> omega
  unfold ofK
  rw [e]
  unfold Dist.at
  apply wrap_in
  · split <;> (try split) <;> (try split) <;> (try split) <;> omega
  · split <;> (try split) <;> (try split) <;> (try split) <;> omega
theorem give_two {n m o : Int} (hn : 0 ≤ n) (hm : 0 ≤ m) : give n o + give m (o - give n o) = give (n + m) o := by
  unfold give pos
  (repeat' split) <;> omega
theorem dist_two {n m oa ob oc od : Int} (hn : 0 ≤ n) (hm : 0 ≤ m) {x y z : Dist} (hx : x = dist n oa ob oc od) (hy : y = dist m (oa - x.a) (ob - x.b) (oc - x.c) (od - x.d)) (hz : z = dist (n + m) oa ob oc od) :
    x.a + y.a = z.a ∧ x.b + y.b = z.b ∧ x.c + y.c = z.c ∧ x.d + y.d = z.d ∧ x.r + y.r = z.r := by
  have ex := dist_ok (oa := oa) (ob := ob) (oc := oc) (od := od) hn
  rw [← hx] at ex
  have ey := dist_ok (oa := oa - x.a) (ob := ob - x.b) (oc := oc - x.c) (od := od - x.d) hm
  rw [← hy] at ey
  have ez := dist_ok (n := n + m) (oa := oa) (ob := ob) (oc := oc) (od := od) (by omega)
  rw [← hz] at ez
  have a0 := ex.a0; have b0 := ex.b0; have c0 := ex.c0; have d0 := ex.d0; have r0 := ex.r0; have s0 := ex.s
  have a1 := ey.a0; have b1 := ey.b0; have c1 := ey.c0; have d1 := ey.d0; have r1 := ey.r0; have s1 := ey.s
  have s2 := ez.s
  have xa : x.a = give n oa := by rw [hx]; rfl
  have xb : x.b = give (n - x.a) ob := by rw [xa, hx]; rfl
  have xc : x.c = give (n - x.a - x.b) oc := by rw [xb, xa, hx]; rfl
  have xd : x.d = give (n - x.a - x.b - x.c) od := by rw [xc, xb, xa, hx]; rfl
  have ya : y.a = give m (oa - x.a) := by rw [hy]; rfl
  have yb : y.b = give (m - y.a) (ob - x.b) := by rw [ya, hy]; rfl
  have yc : y.c = give (m - y.a - y.b) (oc - x.c) := by rw [yb, ya, hy]; rfl
  have yd : y.d = give (m - y.a - y.b - y.c) (od - x.d) := by rw [yc, yb, ya, hy]; rfl
  have za : z.a = give (n + m) oa := by rw [hz]; rfl
  have zb : z.b = give (n + m - z.a) ob := by rw [za, hz]; rfl
  have zc : z.c = give (n + m - z.a - z.b) oc := by rw [zb, za, hz]; rfl
  have zd : z.d = give (n + m - z.a - z.b - z.c) od := by rw [zc, zb, za, hz]; rfl
  have t1 : x.a + y.a = z.a := by
    have := give_two (n := n) (m := m) (o := oa) hn hm
    rw [← xa, ← ya, ← za] at this
    exact this
  have t2 : x.b + y.b = z.b := by
    have := give_two (n := n - x.a) (m := m - y.a) (o := ob) (by omega) (by omega)
    rw [show n - x.a + (m - y.a) = n + m - z.a by omega, ← xb, ← yb, ← zb] at this
    exact this
  have t3 : x.c + y.c = z.c := by
    have := give_two (n := n - x.a - x.b) (m := m - y.a - y.b) (o := oc) (by omega) (by omega)
    rw [show n - x.a - x.b + (m - y.a - y.b) = n + m - z.a - z.b by omega, ← xc, ← yc, ← zc] at this
    exact this
  have t4 : x.d + y.d = z.d := by
    have := give_two (n := n - x.a - x.b - x.c) (m := m - y.a - y.b - y.c) (o := od) (by omega) (by omega)
    rw [show n - x.a - x.b - x.c + (m - y.a - y.b - y.c) = n + m - z.a - z.b - z.c by omega, ← xd, ← yd, ← zd] at this
    exact this
  exact ⟨t1, t2, t3, t4, by omega⟩
theorem payE_zero {l : Lo} {n on : Int} (h : payE l n on = 0) : Ok l ∧ 1 ≤ n ∧ n ≤ 1000000000000 ∧ 0 ≤ on ∧ on ≤ 73048 ∧ l.st = 1 := by
  unfold payE at h
  split at h
  · rename_i hc
    split at h
    · rename_i hs
      exact ⟨ok_iff.1 hc.1, hc.2.1, hc.2.2.1, hc.2.2.2.1, hc.2.2.2.2, hs⟩
    · omega
  · omega
theorem payE_mk {l : Lo} {n on : Int} (h : Ok l) (hs : l.st = 1) (ho : 0 ≤ on ∧ on ≤ 73048) : payE l n on = if 1 ≤ n ∧ n ≤ 1000000000000 then 0 else 1 := by
  unfold payE
  rw [ok_iff.2 h, if_pos hs]
  by_cases hn : 1 ≤ n ∧ n ≤ 1000000000000
  · rw [if_pos hn, if_pos ⟨rfl, hn.1, hn.2, ho.1, ho.2⟩]
  · rw [if_neg hn, if_neg (fun hh => hn ⟨hh.2.1, hh.2.2.1⟩)]
theorem done_f (L : Lo) : L.done.fee = L.fee ∧ L.done.pen = L.pen ∧ L.done.pi = L.pi ∧ L.done.pp = L.pp := by unfold Lo.done; split <;> exact ⟨rfl, rfl, rfl, rfl⟩
/-- What is owed behind a payment. -/
theorem owed_after {l : Lo} {n on : Int} (h : payE l n on = 0) : (payL l n on).fee = l.fee - (payD l n on).a ∧ (payL l n on).pen = l.pen - (payD l n on).b ∧ oI (payL l n on) on = oI l on - (payD l n on).c ∧ oP (payL l n on) on = oP l on - (payD l n on).d := by
  obtain ⟨hk, n1, n2, _, _, hs⟩ := payE_zero h
  have hk2 := hk.pay hs (n := n) (day := on) (by omega)
  rw [hk.oI, hk.oP, hk2.oI, hk2.oP]
  have s := payL_same l n on
  rw [s.1]
  have f := done_f (l.take (payD l n on))
  have e1 : (payL l n on).pi = l.pi + (payD l n on).c := f.2.2.1
  have e2 : (payL l n on).pp = l.pp + (payD l n on).d := f.2.2.2
  exact ⟨f.1, f.2.1, by rw [e1]; omega, by rw [e2]; omega⟩
theorem payD_ok {l : Lo} {n on : Int} (hn : 0 ≤ n) : DistOk n l.fee l.pen (oI l on) (oP l on) (payD l n on) := dist_ok hn
theorem payD_bd {l : Lo} {n on k : Int} (hn : 0 ≤ n) : 0 ≤ (payD l n on).at k ∧ (payD l n on).at k ≤ n := by
  have h := payD_ok (l := l) (on := on) hn
  have := h.a0; have := h.b0; have := h.c0; have := h.d0; have := h.r0; have := h.s
  unfold Dist.at
  constructor
  · split <;> (try split) <;> (try split) <;> (try split) <;> omega
  · split <;> (try split) <;> (try split) <;> (try split) <;> omega
theorem ofK_pay {l : Lo} {n on k : Int} (hn : 0 ≤ n) (hm : n ≤ 1000000000000) (h1 : 1 ≤ k) (h5 : k ≤ 5) : ofK (payD l n on).pps k = (payD l n on).at k := by
  have h := payD_ok (l := l) (on := on) hn
  have := h.a0; have := h.b0; have := h.c0; have := h.d0; have := h.r0; have := h.s
  exact ofK_pps h1 h5 (by omega) (by omega) (by omega) (by omega) (by omega)
/-- Two payments on a day have the effect of one. -/
theorem twice_plain {l : Lo} {n m on : Int} (he : payE l n on = 0) (hs : (payL l n on).st = 1) (hf : payE (payL l n on) m on = 0) :
    (∀ k, (payD l n on).at k + (payD (payL l n on) m on).at k = (payD l (n + m) on).at k) ∧ payL (payL l n on) m on = payL l (n + m) on := by
  obtain ⟨hk, n1, n2, _, _, hst⟩ := payE_zero he
  obtain ⟨_, m1, m2, _, _, _⟩ := payE_zero hf
  obtain ⟨o1, o2, o3, o4⟩ := owed_after he
  have hx : payD l n on = dist n l.fee l.pen (oI l on) (oP l on) := rfl
  have hy : payD (payL l n on) m on = dist m (l.fee - (payD l n on).a) (l.pen - (payD l n on).b) (oI l on - (payD l n on).c) (oP l on - (payD l n on).d) := by
    conv => lhs; unfold payD
    rw [o1, o2, o3, o4]
  have hz : payD l (n + m) on = dist (n + m) l.fee l.pen (oI l on) (oP l on) := rfl
  obtain ⟨t1, t2, t3, t4, t5⟩ := dist_two (by omega) (by omega) hx hy hz
  refine ⟨fun k => ?_, ?_⟩
  · unfold Dist.at
    split <;> (try split) <;> (try split) <;> (try split) <;> assumption
  · have hdone : payL l n on = l.take (payD l n on) := by
      unfold payL Lo.done at hs ⊢
      split
      · rfl
      · rename_i hl; rw [if_neg hl] at hs; exact absurd hs (by show ¬(2 : Int) = 1; decide)
    show ((payL l n on).take _).done = (l.take _).done
    congr 1
    generalize payD (payL l n on) m on = y at *
    rw [hdone]
    generalize payD l n on = x at *
    generalize payD l (n + m) on = z at *
    unfold Lo.take
    simp only [Lo.mk.injEq, true_and, and_true]
    refine ⟨by omega, by omega, by omega, by omega⟩
end Go.Proofs.Ytaibocobeibobaa.Ln
