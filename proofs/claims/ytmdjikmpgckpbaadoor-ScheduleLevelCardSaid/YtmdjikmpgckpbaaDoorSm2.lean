/-
  Schedules, plain: checks, days, installments.
-/
import Derived.Test.YtmdjikmpgckpbaaDoorKm
import Derived.Test.YtmdjikmpgckpbaaDoorLnm
import Derived.Test.YtmdjikmpgckpbaaDoorAnm
namespace Go.Proofs.YtmdjikmpgckpbaaDoor.Kl
open Go Go.RowKit
open Go.Proofs.YtmdjikmpgckpbaaDoor.Cal
open Go.Proofs.YtmdjikmpgckpbaaDoor.Ln (Tm Du)
open Go.Proofs.YtmdjikmpgckpbaaDoor.An (intr intr_bd intr_mono Rate enough Least restA stepA)

def rateB (n : Int) : Bool := decide (0 ≤ n ∧ n ≤ 1000000)
/-- The numbers of terms. -/
def numB (t : Tm) : Bool := decide (1 ≤ t.me ∧ t.me ≤ 4) && decide (1 ≤ t.pr ∧ t.pr ≤ 1000000000000) && rateB t.ppm && rateB t.pen && rateB t.fe && dOk t.stt && decide (1 ≤ t.ev ∧ t.ev ≤ 12) && decide (1 ≤ t.ct ∧ t.ct ≤ 120) && decide (1 ≤ t.mo ∧ t.mo ≤ 6)
def balB (t : Tm) : Bool := if t.me = 4 then decide (0 ≤ t.ba ∧ t.ba < t.pr) else decide (t.ba = 0)
/-- What Check answers. -/
def skE (t : Tm) (c : Cl) : Int :=
  if numB t = false ∨ balB t = false then 1
  else if codeB t.cur = false then 14
  else if clE c ≠ 0 then clE c
  else if t.cal ≠ c.nm then 11
  else 0
structure TOk (t : Tm) : Prop where
  me : 1 ≤ t.me ∧ t.me ≤ 4
  pr : 1 ≤ t.pr ∧ t.pr ≤ 1000000000000
  ppm : 0 ≤ t.ppm ∧ t.ppm ≤ 1000000
  stt : 0 ≤ t.stt ∧ t.stt ≤ 73048
  ev : 1 ≤ t.ev ∧ t.ev ≤ 12
  ct : 1 ≤ t.ct ∧ t.ct ≤ 120
  mo : 1 ≤ t.mo ∧ t.mo ≤ 6
  ba0 : 0 ≤ t.ba
  ba1 : t.ba < t.pr
  ba : t.me ≠ 4 → t.ba = 0
  pn : 0 ≤ t.pen ∧ t.pen ≤ 1000000
  fe : 0 ≤ t.fe ∧ t.fe ≤ 1000000
theorem sk_ok {t : Tm} {c : Cl} (h : skE t c = 0) : TOk t ∧ clE c = 0 ∧ codeB t.cur = true ∧ t.cal = c.nm := by
  unfold skE at h
  split at h
  · cases h
  rename_i hn
  split at h
  · cases h
  rename_i hcu
  split at h
  · rename_i hc; exact absurd h hc
  rename_i hc
  split at h
  · cases h
  rename_i hnm
  rw [not_or] at hn
  have h1 : numB t = true := by simpa using hn.1
  have h2 : balB t = true := by simpa using hn.2
  unfold numB rateB dOk at h1
  simp only [Bool.and_eq_true, decide_eq_true_eq] at h1
  obtain ⟨⟨⟨⟨⟨⟨⟨⟨a1, a2⟩, a3⟩, a4⟩, a5⟩, a6⟩, a7⟩, a8⟩, a9⟩ := h1
  unfold balB at h2
  have hb : (0 ≤ t.ba ∧ t.ba < t.pr) ∧ (t.me ≠ 4 → t.ba = 0) := by
    split at h2
    · rename_i h4
      rw [decide_eq_true_eq] at h2
      exact ⟨h2, fun h => absurd h4 h⟩
    · rw [decide_eq_true_eq] at h2
      exact ⟨by omega, fun _ => h2⟩
  exact ⟨⟨a1, a2, a3, a6, a7, a8, a9, hb.1.1, hb.1.2, hb.2, a4, a5⟩, by simpa using hc, by simpa using hcu, by simpa using hnm⟩
/-- The day of an installment; its error. -/
noncomputable def dE (t : Tm) (c : Cl) (i : Int) : Int := match addM t.stt (i * t.ev) (ck t.stt) with
  | some d => oE (adj c d) 11
  | none => 1
noncomputable def dV (t : Tm) (c : Cl) (i : Int) : Int := match addM t.stt (i * t.ev) (ck t.stt) with
  | some d => oV (adj c d)
  | none => 0
noncomputable def dsE (t : Tm) (c : Cl) : Nat → Int
  | 0 => 0
  | n + 1 => if dsE t c n = 0 then dE t c (n + 1) else dsE t c n
theorem dsE_stop {t : Tm} {c : Cl} {n : Nat} (h : dsE t c n ≠ 0) : ∀ k, dsE t c (n + k) = dsE t c n
  | 0 => rfl
  | k + 1 => by
    have ih := dsE_stop h k
    show (if dsE t c (n + k) = 0 then dE t c ((n + k : Nat) + 1) else dsE t c (n + k)) = _
    rw [ih, if_neg h]
theorem dsE_le {t : Tm} {c : Cl} {n m : Nat} (hn : n ≤ m) (h : dsE t c n ≠ 0) : dsE t c m = dsE t c n := by
  have := dsE_stop h (m - n)
  rwa [show n + (m - n) = m by omega] at this
theorem dsE_ok {t : Tm} {c : Cl} {m : Nat} (h : dsE t c m = 0) : ∀ i, i < m → dE t c (i + 1) = 0 := by
  intro i hi
  have h1 : dsE t c (i + 1) = 0 := by
    apply Classical.byContradiction
    intro hn
    have := dsE_le (show i + 1 ≤ m by omega) hn
    omega
  have h0 : dsE t c i = 0 := by
    apply Classical.byContradiction
    intro hn
    have := dsE_le (show i ≤ m by omega) hn
    omega
  have : (if dsE t c i = 0 then dE t c (i + 1) else dsE t c i) = 0 := h1
  rwa [if_pos h0] at this
noncomputable def daysE (t : Tm) (c : Cl) : Int := if skE t c = 0 then dsE t c t.ct.toNat else skE t c
noncomputable def dList (t : Tm) (c : Cl) (n : Nat) : List Int := (List.range n).map fun i : Nat => dV t c ((i : Int) + 1)
noncomputable def daysV (t : Tm) (c : Cl) : List Int := if daysE t c = 0 then dList t c t.ct.toNat else []
theorem dList_len (t : Tm) (c : Cl) (n : Nat) : (dList t c n).length = n := by simp [dList]
theorem dList_succ (t : Tm) (c : Cl) (n : Nat) : dList t c (n + 1) = dList t c n ++ [dV t c ((n : Int) + 1)] := by
  simp [dList, List.range_succ]
theorem dList_get (t : Tm) (c : Cl) {n i : Nat} (h : i < n) : (dList t c n).getD i 0 = dV t c ((i : Int) + 1) := by
  simp [dList, h]
open Classical in
/-- The payment of an annuity. -/
noncomputable def pyV (t : Tm) : Int := if h : ∃ x, Least (t.ppm * t.ev) t.mo t.ct.toNat t.pr t.ba x then Classical.choose h else 0
def pyE (t : Tm) : Int := if enough (t.ppm * t.ev) t.mo t.ct.toNat t.pr t.ba 1000000000000 then 0 else 6
theorem pyV_eq {t : Tm} {x : Int} (h : Least (t.ppm * t.ev) t.mo t.ct.toNat t.pr t.ba x) : pyV t = x := by
  have hx : ∃ x, Least (t.ppm * t.ev) t.mo t.ct.toNat t.pr t.ba x := ⟨x, h⟩
  unfold pyV
  rw [dif_pos hx]
  exact (Classical.choose_spec hx).unique h
/-- An annuity. -/
def annB (t : Tm) : Bool := t.me == 1 || t.me == 4
noncomputable def payV (t : Tm) : Int := if annB t then pyV t else 0
def payE (t : Tm) : Int := if annB t then pyE t else 0
/-- The principal of an installment. -/
def prt (t : Tm) (pay : Int) (i : Nat) (left : Int) : Int :=
  if i + 1 < t.ct.toNat then
    (if t.me = 2 then (if i < t.pr % t.ct then t.pr / t.ct + 1 else t.pr / t.ct)
    else if t.me = 3 then 0
    else min (pay - intr (t.ppm * t.ev) t.mo left) left)
  else left
/-- What is left ahead of an installment. -/
def lf (t : Tm) (pay : Int) : Nat → Int
  | 0 => t.pr
  | i + 1 => lf t pay i - prt t pay i (lf t pay i)
noncomputable def blE (t : Tm) (c : Cl) : Int := if daysE t c = 0 then payE t else daysE t c
noncomputable def duAt (t : Tm) (c : Cl) (i : Nat) : Du := ⟨(i : Int) + 1, dV t c ((i : Int) + 1), prt t (payV t) i (lf t (payV t) i), intr (t.ppm * t.ev) t.mo (lf t (payV t) i)⟩
noncomputable def bList (t : Tm) (c : Cl) (n : Nat) : List Du := (List.range n).map (duAt t c)
noncomputable def blV (t : Tm) (c : Cl) : List Du := if blE t c = 0 then bList t c t.ct.toNat else []
theorem bList_len (t : Tm) (c : Cl) (n : Nat) : (bList t c n).length = n := by simp [bList]
theorem bList_succ (t : Tm) (c : Cl) (n : Nat) : bList t c (n + 1) = bList t c n ++ [duAt t c n] := by
  simp [bList, List.range_succ]
theorem TOk.rate {t : Tm} (h : TOk t) : Rate (t.ppm * t.ev) := by
  obtain ⟨a, b⟩ := h.ppm
  obtain ⟨c, d⟩ := h.ev
  have h1 := Int.mul_nonneg a (show 0 ≤ t.ev by omega)
  have h2 := Int.mul_le_mul b d (by omega) (by omega)
  exact ⟨h1, by omega⟩
/-- A payment below the interest leaves no less. -/
theorem rest_up {c m pay : Int} (hc : Rate c) : ∀ (k : Nat) (q p n : Int), 0 ≤ p → p ≤ q → pay < intr c m p → restA c m pay k q = some n → p ≤ n
  | 0, q, p, n, h0, h, hp, hr => by
    cases hr
    exact h
  | k + 1, q, p, n, h0, h, hp, hr => by
    unfold restA at hr
    have hm := intr_mono (m := m) hc h0 h
    have hs : p ≤ stepA c m pay q := by
      unfold stepA
      split <;> omega
    split at hr
    · cases hr
    · exact rest_up hc k _ p n h0 hs hp hr
theorem pay_ge {t : Tm} (h : TOk t) {x : Int} (hl : Least (t.ppm * t.ev) t.mo t.ct.toNat t.pr t.ba x) : intr (t.ppm * t.ev) t.mo t.pr ≤ x := by
  apply Classical.byContradiction
  intro hn
  have he := hl.2.1
  unfold enough at he
  split at he
  · cases he
  · rename_i n hr
    have := rest_up h.rate t.ct.toNat t.pr t.pr n (by have := h.pr; omega) (Int.le_refl _) (by omega) hr
    have := h.ba1
    have := of_decide_eq_true he
    omega
/-- There is a least payment where the greatest one is enough. -/
theorem least_below {c m p bal : Int} {k : Nat} : ∀ n : Nat, enough c m k p bal n = true → ∃ x : Nat, x ≤ n ∧ enough c m k p bal x = true ∧ ∀ y : Nat, y < x → enough c m k p bal y = false := by
  intro n
  induction n using Nat.strongRecOn with
  | ind n ih =>
    intro hn
    by_cases h : ∃ y : Nat, y < n ∧ enough c m k p bal y = true
    · obtain ⟨y, hy, he⟩ := h
      obtain ⟨x, hx, h1, h2⟩ := ih y hy he
      exact ⟨x, by omega, h1, h2⟩
    · refine ⟨n, Nat.le_refl _, hn, fun y hy => ?_⟩
      cases he : enough c m k p bal y
      · rfl
      · exact absurd ⟨y, hy, he⟩ h
theorem least_ex {t : Tm} (_ : TOk t) (he : enough (t.ppm * t.ev) t.mo t.ct.toNat t.pr t.ba 1000000000000 = true) : ∃ x, Least (t.ppm * t.ev) t.mo t.ct.toNat t.pr t.ba x := by
  obtain ⟨x, hx, h1, h2⟩ := least_below 1000000000000 he
  refine ⟨x, ⟨by omega, by omega⟩, h1, fun y h0 hy => ?_⟩
  have := h2 y.toNat (by omega)
  rwa [Int.toNat_of_nonneg h0] at this
/-- The payment is high enough. -/
def PayOk (t : Tm) (pay : Int) : Prop := annB t = true → intr (t.ppm * t.ev) t.mo t.pr ≤ pay
theorem TOk.pay {t : Tm} (h : TOk t) (he : payE t = 0) : PayOk t (payV t) ∧ (annB t = true → Least (t.ppm * t.ev) t.mo t.ct.toNat t.pr t.ba (payV t)) := by
  have key : annB t = true → Least (t.ppm * t.ev) t.mo t.ct.toNat t.pr t.ba (payV t) := by
    intro ha
    unfold payE at he
    rw [if_pos ha] at he
    unfold pyE at he
    split at he
    · rename_i hen
      obtain ⟨x, hx⟩ := least_ex h hen
      unfold payV
      rw [if_pos ha, pyV_eq hx]
      exact hx
    · cases he
  exact ⟨fun ha => pay_ge h (key ha), key⟩
theorem lf_succ (t : Tm) (pay : Int) (i : Nat) : lf t pay (i + 1) = lf t pay i - prt t pay i (lf t pay i) := rfl
theorem prt_last {t : Tm} {pay left : Int} {i : Nat} (h : ¬ i + 1 < t.ct.toNat) : prt t pay i left = left := if_neg h
theorem lin_at {t : Tm} (h : TOk t) (h2 : t.me = 2) (pay : Int) : ∀ i : Nat, i + 1 ≤ t.ct.toNat → lf t pay i = t.pr - (t.pr / t.ct * i + min (i : Int) (t.pr % t.ct))
  | 0, _ => by
    have := Int.emod_nonneg t.pr (show t.ct ≠ 0 by have := h.ct; omega)
    show t.pr = _
    simp
    omega
  | i + 1, hi => by
    rw [lf_succ, lin_at h h2 pay i (by omega)]
    unfold prt
    rw [if_pos (by omega), if_pos h2]
    generalize hq : t.pr / t.ct = q
    have e : q * ((i + 1 : Nat) : Int) = q * i + q := by rw [Int.natCast_add, Int.mul_add]; simp
    rw [e]
    split <;> omega
theorem lin_bd {t : Tm} (h : TOk t) {i : Nat} (hi : i ≤ t.ct.toNat) : t.pr / t.ct * i + min (i : Int) (t.pr % t.ct) ≤ t.pr ∧ 0 ≤ t.pr / t.ct ∧ 0 ≤ t.pr / t.ct * i := by
  have hc := h.ct
  have hp := h.pr
  have h0 : 0 ≤ t.pr / t.ct := Int.ediv_nonneg (by omega) (by omega)
  have h1 := Int.mul_le_mul_of_nonneg_left (show (i : Int) ≤ t.ct by omega) h0
  have h2 := Int.ediv_mul_add_emod t.pr t.ct
  have h3 := Int.mul_nonneg h0 (show (0 : Int) ≤ i by omega)
  exact ⟨by omega, h0, h3⟩
/-- What is left, and the principal of an installment. -/
theorem lf_bd {t : Tm} (h : TOk t) {pay : Int} (hp : PayOk t pay) : ∀ i : Nat, (0 ≤ lf t pay i ∧ lf t pay i ≤ t.pr) ∧ 0 ≤ prt t pay i (lf t pay i) ∧ prt t pay i (lf t pay i) ≤ lf t pay i := by
  have step : ∀ i : Nat, (0 ≤ lf t pay i ∧ lf t pay i ≤ t.pr) → 0 ≤ prt t pay i (lf t pay i) ∧ prt t pay i (lf t pay i) ≤ lf t pay i := by
    intro i hb
    by_cases hi : i + 1 < t.ct.toNat
    · by_cases h2 : t.me = 2
      · have hl := lin_at h h2 pay i (by omega)
        have b0 := lin_bd h (show i ≤ t.ct.toNat by omega)
        have b1 := lin_bd h (show i + 1 ≤ t.ct.toNat by omega)
        have e : t.pr / t.ct * ((i + 1 : Nat) : Int) = t.pr / t.ct * i + t.pr / t.ct := by rw [Int.natCast_add, Int.mul_add]; simp
        rw [e] at b1
        have hm := Int.emod_nonneg t.pr (show t.ct ≠ 0 by have := h.ct; omega)
        unfold prt
        rw [if_pos hi, if_pos h2, hl]
        generalize t.pr / t.ct = q at *
        generalize t.pr % t.ct = r at *
        generalize q * (i : Int) = z at *
        split <;> omega
      · by_cases h3 : t.me = 3
        · unfold prt
          rw [if_pos hi, if_neg h2, if_pos h3]
          omega
        · have ha : annB t = true := by
            have := h.me
            unfold annB
            simp
            omega
          have hq := hp ha
          have hm := intr_mono (m := t.mo) h.rate hb.1 hb.2
          unfold prt
          rw [if_pos hi, if_neg h2, if_neg h3]
          omega
    · rw [prt_last hi]
      omega
  intro i
  induction i with
  | zero =>
    have hb : 0 ≤ lf t pay 0 ∧ lf t pay 0 ≤ t.pr := by
      show 0 ≤ t.pr ∧ t.pr ≤ t.pr
      have := h.pr
      omega
    exact ⟨hb, step 0 hb⟩
  | succ i ih =>
    have hb : 0 ≤ lf t pay (i + 1) ∧ lf t pay (i + 1) ≤ t.pr := by
      rw [lf_succ]
      omega
    exact ⟨hb, step _ hb⟩
theorem lf_end {t : Tm} (h : TOk t) (pay : Int) : lf t pay t.ct.toNat = 0 := by
  have hc := h.ct
  obtain ⟨n, hn⟩ : ∃ n, t.ct.toNat = n + 1 := ⟨t.ct.toNat - 1, by omega⟩
  rw [hn, lf_succ, prt_last (by omega)]
  omega
end Go.Proofs.YtmdjikmpgckpbaaDoor.Kl
