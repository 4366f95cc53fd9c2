/-
  Parts of the proof: Sma.
-/
import Derived.Test.YtlolflephnbbcaaGreatDoorQ21
import Derived.Test.YtlolflephnbbcaaGreatDoorQ09
import Derived.Test.YtlolflephnbbcaaGreatDoorQ07
namespace Go.Proofs.YtlolflephnbbcaaGreatDoor.Kl
open Go Go.RowKit
open Go.Proofs.YtlolflephnbbcaaGreatDoor.Cal
open Go.Proofs.YtlolflephnbbcaaGreatDoor.Ln (Tm Du)
open Go.Proofs.YtlolflephnbbcaaGreatDoor.An (intr intr_bd intr_mono Rate enough Least restA stepA)

def rateB (n : Int) : Bool := decide (0 ≤ n ∧ n ≤ 1000000)
def numB (t : Tm) : Bool := decide (1 ≤ t.me ∧ t.me ≤ 4) && decide (1 ≤ t.pr ∧ t.pr ≤ 1000000000000) && rateB t.ppm && rateB t.pen && rateB t.fe && dOk t.stt && decide (1 ≤ t.ev ∧ t.ev ≤ 12) && decide (1 ≤ t.ct ∧ t.ct ≤ 120) && decide (1 ≤ t.mo ∧ t.mo ≤ 6)
def balB (t : Tm) : Bool := if t.me = 4 then decide (0 ≤ t.ba ∧ t.ba < t.pr) else decide (t.ba = 0)
def skE (t : Tm) (c : Cl) : Int :=
 if numB t = false ∨ balB t = false then 1
 else if codeB t.cur = false then 14
 else if clE c ≠ 0 then clE c
 else if t.cal ≠ c.nm then 11
 else 0
structure TOk (t : Tm) : Prop where
 me : 1 ≤ t.me ∧ t.me ≤ 4
 pr : 1 ≤ t.pr ∧ t.pr ≤ 1000000000000
 ppm : 0 ≤ t.ppm ∧ t.ppm ≤ 1000000
 stt : 0 ≤ t.stt ∧ t.stt ≤ 73048
 ev : 1 ≤ t.ev ∧ t.ev ≤ 12
 ct : 1 ≤ t.ct ∧ t.ct ≤ 120
 mo : 1 ≤ t.mo ∧ t.mo ≤ 6
 ba0 : 0 ≤ t.ba
 ba1 : t.ba < t.pr
 ba : t.me ≠ 4 → t.ba = 0
 pn : 0 ≤ t.pen ∧ t.pen ≤ 1000000
 fe : 0 ≤ t.fe ∧ t.fe ≤ 1000000
theorem sk_ok {t : Tm} {c : Cl} (h : skE t c = 0) : TOk t ∧ clE c = 0 ∧ codeB t.cur = true ∧ t.cal = c.nm := by
 unfold skE at h
 split at h
 ·cases h
 rename_i hn
 split at h
 ·cases h
 rename_i hcu
 split at h
 ·rename_i hc; exact absurd h hc
 rename_i hc
 split at h
 ·cases h
 rename_i hnm
 rw [not_or] at hn
 have h1 : numB t = true := by simpa using hn.1
 have h2 : balB t = true := by simpa using hn.2
 unfold numB rateB dOk at h1
 simp only [Bool.and_eq_true, decide_eq_true_eq] at h1
 obtain ⟨⟨⟨⟨⟨⟨⟨⟨a1, a2⟩, a3⟩, a4⟩, a5⟩, a6⟩, a7⟩, a8⟩, a9⟩ := h1
 unfold balB at h2
 have hb : (0 ≤ t.ba ∧ t.ba < t.pr) ∧ (t.me ≠ 4 → t.ba = 0) := by
  split at h2
  ·rename_i h4
   rw [decide_eq_true_eq] at h2
   exact ⟨h2, fun h => absurd h4 h⟩
  ·rw [decide_eq_true_eq] at h2
   exact ⟨by omega, fun _ => h2⟩
 exact ⟨⟨a1, a2, a3, a6, a7, a8, a9, hb.1.1, hb.1.2, hb.2, a4, a5⟩, by simpa using hc, by simpa using hcu, by simpa using hnm⟩
noncomputable def dE (t : Tm) (c : Cl) (i : Int) : Int := match addM t.stt (i * t.ev) (ck t.stt) with
 | some d => oE (adj c d) 11
 | none => 1
noncomputable def dV (t : Tm) (c : Cl) (i : Int) : Int := match addM t.stt (i * t.ev) (ck t.stt) with
 | some d => oV (adj c d)
 | none => 0
noncomputable def dsE (t : Tm) (c : Cl) : Nat → Int
 | 0 => 0
 | n + 1 => if dsE t c n = 0 then dE t c (n + 1) else dsE t c n
theorem dsE_stop {t : Tm} {c : Cl} {n : Nat} (h : dsE t c n ≠ 0) : ∀ k, dsE t c (n + k) = dsE t c n
 | 0 => rfl
 | k + 1 => by
  have ih := dsE_stop h k
  show (if dsE t c (n + k) = 0 then dE t c ((n + k : Nat) + 1) else dsE t c (n + k)) = _
  rw [ih, if_neg h]
theorem dsE_le {t : Tm} {c : Cl} {n m : Nat} (hn : n ≤ m) (h : dsE t c n ≠ 0) : dsE t c m = dsE t c n := by
 have := dsE_stop h (m - n)
 rwa [show n + (m - n) = m by omega] at this
theorem dsE_ok {t : Tm} {c : Cl} {m : Nat} (h : dsE t c m = 0) : ∀ i, i < m → dE t c (i + 1) = 0 := by
 intro i hi
 have h1 : dsE t c (i + 1) = 0 := by
  apply Classical.byContradiction
  intro hn
  have := dsE_le (show i + 1 ≤ m by omega) hn
  omega
 have h0 : dsE t c i = 0 := by
  apply Classical.byContradiction
  intro hn
  have := dsE_le (show i ≤ m by omega) hn
  omega
 have : (if dsE t c i = 0 then dE t c (i + 1) else dsE t c i) = 0 := h1
 rwa [if_pos h0] at this
noncomputable def daysE (t : Tm) (c : Cl) : Int := if skE t c = 0 then dsE t c t.ct.toNat else skE t c
noncomputable def dList (t : Tm) (c : Cl) (n : Nat) : List Int := (List.range n).map fun i : Nat => dV t c ((i : Int) + 1)
noncomputable def daysV (t : Tm) (c : Cl) : List Int := if daysE t c = 0 then dList t c t.ct.toNat else []
theorem dList_len (t : Tm) (c : Cl) (n : Nat) : (dList t c n).length = n := by simp [dList]
theorem dList_succ (t : Tm) (c : Cl) (n : Nat) : dList t c (n + 1) = dList t c n ++ [dV t c ((n : Int) + 1)] := by
 simp [dList, List.range_succ]
theorem dList_get (t : Tm) (c : Cl) {n i : Nat} (h : i < n) : (dList t c n).getD i 0 = dV t c ((i : Int) + 1) := by
 simp [dList, h]
open Classical in
noncomputable def pyV (t : Tm) : Int := if h : ∃ x, Least (t.ppm * t.ev) t.mo t.ct.toNat t.pr t.ba x then Classical.choose h else 0
def pyE (t : Tm) : Int := if enough (t.ppm * t.ev) t.mo t.ct.toNat t.pr t.ba 1000000000000 then 0 else 6
theorem pyV_eq {t : Tm} {x : Int} (h : Least (t.ppm * t.ev) t.mo t.ct.toNat t.pr t.ba x) : pyV t = x := by
 have hx : ∃ x, Least (t.ppm * t.ev) t.mo t.ct.toNat t.pr t.ba x := ⟨x, h⟩
 unfold pyV
 rw [dif_pos hx]
 exact (Classical.choose_spec hx).unique h
def annB (t : Tm) : Bool := t.me == 1 || t.me == 4
noncomputable def payV (t : Tm) : Int := if annB t then pyV t else 0
def payE (t : Tm) : Int := if annB t then pyE t else 0
def prt (t : Tm) (pay : Int) (i : Nat) (left : Int) : Int :=
 if i + 1 < t.ct.toNat then
  (if t.me = 2 then (if i < t.pr % t.ct then t.pr / t.ct + 1 else t.pr / t.ct)
  else if t.me = 3 then 0
  else min (pay - intr (t.ppm * t.ev) t.mo left) left)
 else left
def lf (t : Tm) (pay : Int) : Nat → Int
 | 0 => t.pr
 | i + 1 => lf t pay i - prt t pay i (lf t pay i)
noncomputable def blE (t : Tm) (c : Cl) : Int := if daysE t c = 0 then payE t else daysE t c
noncomputable def duAt (t : Tm) (c : Cl) (i : Nat) : Du := ⟨(i : Int) + 1, dV t c ((i : Int) + 1), prt t (payV t) i (lf t (payV t) i), intr (t.ppm * t.ev) t.mo (lf t (payV t) i)⟩
noncomputable def bList (t : Tm) (c : Cl) (n : Nat) : List Du := (List.range n).map (duAt t c)
noncomputable def blV (t : Tm) (c : Cl) : List Du := if blE t c = 0 then bList t c t.ct.toNat else []
theorem bList_len (t : Tm) (c : Cl) (n : Nat) : (bList t c n).length = n := by simp [bList]
theorem bList_succ (t : Tm) (c : Cl) (n : Nat) : bList t c (n + 1) = bList t c n ++ [duAt t c n] := by
 simp [bList, List.range_succ]
theorem TOk.rate {t : Tm} (h : TOk t) : Rate (t.ppm * t.ev) := by
 obtain ⟨a, b⟩ := h.ppm
 obtain ⟨c, d⟩ := h.ev
 have h1 := Int.mul_nonneg a (show 0 ≤ t.ev by omega)
 have h2 := Int.mul_le_mul b d (by omega) (by omega)
 exact ⟨h1, by omega⟩
theorem rest_up {c m pay : Int} (hc : Rate c) : ∀ (k : Nat) (q p n : Int), 0 ≤ p → p ≤ q → pay < intr c m p → restA c m pay k q = some n → p ≤ n
 | 0, q, p, n, h0, h, hp, hr => by
  cases hr
  exact h
 | k + 1, q, p, n, h0, h, hp, hr => by
  unfold restA at hr
  have hm := intr_mono (m := m) hc h0 h
  have hs : p ≤ stepA c m pay q := by
   unfold stepA
   split <;> omega
  split at hr
  ·cases hr
  ·exact rest_up hc k _ p n h0 hs hp hr
theorem pay_ge {t : Tm} (h : TOk t) {x : Int} (hl : Least (t.ppm * t.ev) t.mo t.ct.toNat t.pr t.ba x) : intr (t.ppm * t.ev) t.mo t.pr ≤ x := by
 apply Classical.byContradiction
 intro hn
 have he := hl.2.1
 unfold enough at he
 split at he
 ·cases he
 ·rename_i n hr
  have := rest_up h.rate t.ct.toNat t.pr t.pr n (by have := h.pr; omega) (Int.le_refl _) (by omega) hr
  have := h.ba1
  have := of_decide_eq_true he
  omega
theorem least_below {c m p bal : Int} {k : Nat} : ∀ n : Nat, enough c m k p bal n = true → ∃ x : Nat, x ≤ n ∧ enough c m k p bal x = true ∧ ∀ y : Nat, y < x → enough c m k p bal y = false := by
 intro n
 induction n using Nat.strongRecOn with
 | ind n ih =>
  intro hn
  by_cases h : ∃ y : Nat, y < n ∧ enough c m k p bal y = true
  ·obtain ⟨y, hy, he⟩ := h
   obtain ⟨x, hx, h1, h2⟩ := ih y hy he
   exact ⟨x, by omega, h1, h2⟩
  ·refine ⟨n, Nat.le_refl _, hn, fun y hy => ?_⟩
   cases he : enough c m k p bal y
   ·rfl
   ·exact absurd ⟨y, hy, he⟩ h
theorem least_ex {t : Tm} (_ : TOk t) (he : enough (t.ppm * t.ev) t.mo t.ct.toNat t.pr t.ba 1000000000000 = true) : ∃ x, Least (t.ppm * t.ev) t.mo t.ct.toNat t.pr t.ba x := by
 obtain ⟨x, hx, h1, h2⟩ := least_below 1000000000000 he
 refine ⟨x, ⟨by omega, by omega⟩, h1, fun y h0 hy => ?_⟩
 have := h2 y.toNat (by omega)
 rwa [Int.toNat_of_nonneg h0] at this
def PayOk (t : Tm) (pay : Int) : Prop := annB t = true → intr (t.ppm * t.ev) t.mo t.pr ≤ pay
theorem TOk.pay {t : Tm} (h : TOk t) (he : payE t = 0) : PayOk t (payV t) ∧ (annB t = true → Least (t.ppm * t.ev) t.mo t.ct.toNat t.pr t.ba (payV t)) := by
 have key : annB t = true → Least (t.ppm * t.ev) t.mo t.ct.toNat t.pr t.ba (payV t) := by
  intro ha
  unfold payE at he
  rw [if_pos ha] at he
  unfold pyE at he
  split at he
  ·rename_i hen
   obtain ⟨x, hx⟩ := least_ex h hen
   unfold payV
   rw [if_pos ha, pyV_eq hx]
   exact hx
  ·cases he
 exact ⟨fun ha => pay_ge h (key ha), key⟩
theorem lf_succ (t : Tm) (pay : Int) (i : Nat) : lf t pay (i + 1) = lf t pay i - prt t pay i (lf t pay i) := rfl
theorem prt_last {t : Tm} {pay left : Int} {i : Nat} (h : ¬ i + 1 < t.ct.toNat) : prt t pay i left = left := if_neg h
theorem lin_at {t : Tm} (h : TOk t) (h2 : t.me = 2) (pay : Int) : ∀ i : Nat, i + 1 ≤ t.ct.toNat → lf t pay i = t.pr - (t.pr / t.ct * i + min (i : Int) (t.pr % t.ct))
 | 0, _ => by
  have := Int.emod_nonneg t.pr (show t.ct ≠ 0 by have := h.ct; omega)
  show t.pr = _
  simp
  omega
 | i + 1, hi => by
  rw [lf_succ, lin_at h h2 pay i (by omega)]
  unfold prt
  rw [if_pos (by omega), if_pos h2]
  generalize hq : t.pr / t.ct = q
  have e : q * ((i + 1 : Nat) : Int) = q * i + q := by rw [Int.natCast_add, Int.mul_add]; simp
  rw [e]
  split <;> omega
theorem lin_bd {t : Tm} (h : TOk t) {i : Nat} (hi : i ≤ t.ct.toNat) : t.pr / t.ct * i + min (i : Int) (t.pr % t.ct) ≤ t.pr ∧ 0 ≤ t.pr / t.ct ∧ 0 ≤ t.pr / t.ct * i := by
 have hc := h.ct
 have hp := h.pr
 have h0 : 0 ≤ t.pr / t.ct := Int.ediv_nonneg (by omega) (by omega)
 have h1 := Int.mul_le_mul_of_nonneg_left (show (i : Int) ≤ t.ct by omega) h0
 have h2 := Int.ediv_mul_add_emod t.pr t.ct
 have h3 := Int.mul_nonneg h0 (show (0 : Int) ≤ i by omega)
 exact ⟨by omega, h0, h3⟩
theorem lf_bd {t : Tm} (h : TOk t) {pay : Int} (hp : PayOk t pay) : ∀ i : Nat, (0 ≤ lf t pay i ∧ lf t pay i ≤ t.pr) ∧ 0 ≤ prt t pay i (lf t pay i) ∧ prt t pay i (lf t pay i) ≤ lf t pay i := by
 have step : ∀ i : Nat, (0 ≤ lf t pay i ∧ lf t pay i ≤ t.pr) → 0 ≤ prt t pay i (lf t pay i) ∧ prt t pay i (lf t pay i) ≤ lf t pay i := by
  intro i hb
  by_cases hi : i + 1 < t.ct.toNat
  ·by_cases h2 : t.me = 2
   ·have hl := lin_at h h2 pay i (by omega)
    have b0 := lin_bd h (show i ≤ t.ct.toNat by omega)
    have b1 := lin_bd h (show i + 1 ≤ t.ct.toNat by omega)
    have e : t.pr / t.ct * ((i + 1 : Nat) : Int) = t.pr / t.ct * i + t.pr / t.ct := by rw [Int.natCast_add, Int.mul_add]; simp
    rw [e] at b1
    have hm := Int.emod_nonneg t.pr (show t.ct ≠ 0 by have := h.ct; omega)
    unfold prt
    rw [if_pos hi, if_pos h2, hl]
    generalize t.pr / t.ct = q at *
    generalize t.pr % t.ct = r at *
    generalize q * (i : Int) = z at *
    split <;> omega
   ·by_cases h3 : t.me = 3
    ·unfold prt
     rw [if_pos hi, if_neg h2, if_pos h3]
     omega
    ·have ha : annB t = true := by
      have := h.me
      unfold annB
      simp
      omega
     have hq := hp ha
     have hm := intr_mono (m := t.mo) h.rate hb.1 hb.2
     unfold prt
     rw [if_pos hi, if_neg h2, if_neg h3]
     omega
  ·rw [prt_last hi]
   omega
 intro i
 induction i with
 | zero =>
  have hb : 0 ≤ lf t pay 0 ∧ lf t pay 0 ≤ t.pr := by
   show 0 ≤ t.pr ∧ t.pr ≤ t.pr
   have := h.pr
   omega
  exact ⟨hb, step 0 hb⟩
 | succ i ih =>
  have hb : 0 ≤ lf t pay (i + 1) ∧ lf t pay (i + 1) ≤ t.pr := by
   rw [lf_succ]
   omega
  exact ⟨hb, step _ hb⟩
theorem lf_end {t : Tm} (h : TOk t) (pay : Int) : lf t pay t.ct.toNat = 0 := by
 have hc := h.ct
 obtain ⟨n, hn⟩ : ∃ n, t.ct.toNat = n + 1 := ⟨t.ct.toNat - 1, by omega⟩
 rw [hn, lf_succ, prt_last (by omega)]
 omega
end Go.Proofs.YtlolflephnbbcaaGreatDoor.Kl

namespace Go.Proofs.YtlolflephnbbcaaGreatDoor.Kl
open Go Go.RowKit
open Go.Proofs.YtlolflephnbbcaaGreatDoor.Cal
open Go.Proofs.YtlolflephnbbcaaGreatDoor.Ln (Tm Du)
open Go.Proofs.YtlolflephnbbcaaGreatDoor.An (intr intr_bd intr_mono Rate enough Least restA stepA restA_add)

theorem dn_max {f : Int → Bool} {x : Int} : ∀ (n : Nat) (d : Int), dn f n d = some x → ∀ y, x < y → y ≤ d → f y = false
 | 0, _, h => by cases h
 | n + 1, d, h => by
  unfold dn at h
  split at h
  ·cases h
   intro y h1 h2
   omega
  ·rename_i hf
   intro y h1 h2
   by_cases e : y = d
   ·subst e; simpa using hf
   ·exact dn_max n (d - 1) h y h1 (by omega)
theorem mend_lt {d e y m k y' m' k' : Int} (h : IsCivil d y m k) (h' : IsCivil e y' m' k') (hl : 12 * y + m < 12 * y' + m') : mend d < e := by
 have hv := h.valid
 obtain ⟨c1, c2, c3⟩ := civ_eq h
 have hm : mend d = d - k + mlen y m := by unfold mend; rw [c1, c2, c3]
 rw [hm]
 have ha := h.at_
 have ha' := h'.at_
 have hs := cum_succ y m
 have h0 := h.y0; have h1 := h.y1; have h2 := h.m0; have h3 := h.m1
 have g0 := h'.y0; have g1 := h'.y1; have g2 := h'.m0; have g3 := h'.m1; have g4 := h'.k0
 by_cases e : y = y'
 ·subst e
  have := cum_mono y (m + 1) m' (by omega) (by omega)
  omega
 ·have hb := begin_succ y h0 h1
  have hb2 := begin_mono (y + 1) y' (by omega) (by omega)
  have hc := cum_mono y (m + 1) 13 (by omega) (by omega)
  rw [cum_13] at hc
  have hd := (cum_bd y' m' g2 (by omega)).1
  omega
theorem adj_open {c : Cl} {d x : Int} (h0 : 0 ≤ d) (h1 : d ≤ 73048) (h : adj c d = some x) : openB c x = true ∧ x ≤ mend d ∧ (d ≤ x ∨ prv c d = some x) := by
 have hm := mend_bd h0 h1
 unfold adj at h
 split at h
 ·rename_i z hz
  split at h
  ·cases h
   have := up_bd _ _ hz
   exact ⟨this.2.2, by omega, .inl this.1⟩
  ·have := dn_bd _ _ h
   exact ⟨this.2.2, by omega, .inr h⟩
 ·have := dn_bd _ _ h
  exact ⟨this.2.2, by omega, .inr h⟩
theorem adj_mono {c : Cl} {d e x x' : Int} (h0 : 0 ≤ d) (h1 : d ≤ 73048) (g0 : 0 ≤ e) (g1 : e ≤ 73048) (hl : mend d < e) (h : adj c d = some x) (h' : adj c e = some x') : x ≤ x' := by
 have ho := adj_open h0 h1 h
 have ho' := adj_open g0 g1 h'
 rcases ho'.2.2 with hh | hh
 ·omega
 ·apply Classical.byContradiction
  intro hn
  have := dn_max _ _ hh x (by omega) (by omega)
  rw [ho.1] at this
  cases this
theorem dV_mono {t : Tm} {c : Cl} (ht : TOk t) {i : Int} (_ : 0 ≤ i) (h1 : dE t c i = 0) (h2 : dE t c (i + 1) = 0) : dV t c i ≤ dV t c (i + 1) := by
 have hk := civ_spec t.stt ht.stt.1 ht.stt.2
 have ha := hk.k0
 unfold dE at h1 h2
 unfold dV
 split at h1
 ·rename_i d hd
  split at h2
  ·rename_i e he
   have c1 := addM_civ ha hd
   have c2 := addM_civ ha he
   have v1 := c1.2.2.valid
   have v2 := c2.2.2.valid
   have hl : mend d < e := mend_lt c1.2.2 c2.2.2 (by
    have : (i + 1) * t.ev = i * t.ev + t.ev := by rw [Int.add_mul, Int.one_mul]
    have := ht.ev
    omega)
   cases hx : adj c d with
   | none => rw [hx] at h1; simp [oE] at h1
   | some x =>
    cases hy : adj c e with
    | none => rw [hy] at h2; simp [oE] at h2
    | some y =>
     show x ≤ y
     exact adj_mono v1.1 v1.2 v2.1 v2.2 hl hx hy
  ·omega
 ·omega
noncomputable def nAt (t : Tm) (i : Nat) : Int := prt t (payV t) i (lf t (payV t) i) + intr (t.ppm * t.ev) t.mo (lf t (payV t) i)
end Go.Proofs.YtlolflephnbbcaaGreatDoor.Kl

namespace Go.Proofs.YtlolflephnbbcaaGreatDoor.Kl
open Go Go.RowKit
open Go.Proofs.YtlolflephnbbcaaGreatDoor
open Go.Proofs.YtlolflephnbbcaaGreatDoor.Cal
open Go.Proofs.YtlolflephnbbcaaGreatDoor.Ln (Tm Du sum prs its)
open Go.Proofs.YtlolflephnbbcaaGreatDoor.An (intr intr_bd intr_mono Rate)

theorem bl_facts {t : Tm} {c : Cl} (h : blE t c = 0) : skE t c = 0 ∧ TOk t ∧ (∀ i, i < t.ct.toNat → dE t c ((i : Int) + 1) = 0) ∧ payE t = 0 ∧ daysE t c = 0 := by
 unfold blE at h
 split at h
 ·rename_i hd
  have hd' := hd
  unfold daysE at hd
  split at hd
  ·rename_i hs
   exact ⟨hs, (sk_ok hs).1, dsE_ok hd, h, hd'⟩
  ·rename_i hs; exact absurd hd hs
 ·rename_i hd; exact absurd h hd
theorem dE_day {t : Tm} {c : Cl} (ht : TOk t) {i : Int} (h : dE t c i = 0) : 0 ≤ dV t c i ∧ dV t c i ≤ 73048 := by
 have hk := (civ_spec t.stt ht.stt.1 ht.stt.2).k0
 unfold dE at h
 unfold dV
 split at h
 ·rename_i d hd
  have v := addM_in hk hd
  cases hx : adj c d with
  | none => rw [hx] at h; simp [oE] at h
  | some x => exact adj_in v.1 v.2 hx
 ·omega
theorem bList_get {t : Tm} {c : Cl} {n i : Nat} (h : i < n) : (bList t c n)[i]! = duAt t c i := by
 simp [bList, h]
theorem blV_ok {t : Tm} {c : Cl} (h : blE t c = 0) : blV t c = bList t c t.ct.toNat := if_pos h
theorem bl_len {t : Tm} {c : Cl} (h : blE t c = 0) : (blV t c).length = t.ct.toNat := by rw [blV_ok h, bList_len]
theorem sum_app (a b : List Int) : sum (a ++ b) = sum a + sum b := Ln.sum_append a b
theorem bl_sum (t : Tm) (c : Cl) : ∀ n : Nat, sum (prs (bList t c n)) = t.pr - lf t (payV t) n
 | 0 => by
  show (0 : Int) = t.pr - t.pr
  omega
 | n + 1 => by
  have ih := bl_sum t c n
  unfold prs at ih ⊢
  rw [bList_succ, List.map_append, sum_app, ih, lf_succ]
  show _ + (prt t (payV t) n (lf t (payV t) n) + 0) = _
  omega
theorem due_bd {t : Tm} {c : Cl} (h : blE t c = 0) {i : Nat} (hi : i < t.ct.toNat) : (0 ≤ (duAt t c i).day ∧ (duAt t c i).day ≤ 73048) ∧ (0 ≤ (duAt t c i).pr ∧ (duAt t c i).pr ≤ 1000000000000) ∧ (0 ≤ (duAt t c i).it ∧ (duAt t c i).it ≤ 1000000000000) := by
 obtain ⟨_, ht, hd, hp, _⟩ := bl_facts h
 have hb := lf_bd ht (ht.pay hp).1 i
 have hpr := ht.pr
 exact ⟨dE_day ht (hd i hi), ⟨hb.2.1, by show prt _ _ _ _ ≤ _; omega⟩, intr_bd ht.rate hb.1.1 (by omega)⟩
theorem bl_each {t : Tm} {c : Cl} (h : blE t c = 0) : (blV t c).all Ln.dueB = true := by
 rw [blV_ok h, List.all_eq_true]
 intro d hd
 unfold bList at hd
 obtain ⟨i, hi, rfl⟩ := List.mem_map.1 hd
 have hb := due_bd h (List.mem_range.1 hi)
 unfold Ln.dueB Ln.dayB Ln.amt
 simp only [Bool.and_eq_true, decide_eq_true_eq]
 exact ⟨⟨hb.1, hb.2.1⟩, hb.2.2⟩
theorem bl_ord {t : Tm} {c : Cl} (h : blE t c = 0) : Ln.ordB (blV t c) = true := by
 obtain ⟨_, ht, hd, hp, _⟩ := bl_facts h
 rw [blV_ok h]
 unfold Ln.ordB
 rw [bList_len, List.all_eq_true]
 intro i hi
 have hi := List.mem_range.1 hi
 rw [bList_get hi, Bool.and_eq_true, Bool.or_eq_true, decide_eq_true_eq, decide_eq_true_eq, decide_eq_true_eq]
 refine ⟨rfl, ?_⟩
 by_cases h0 : i = 0
 ·exact .inl h0
 ·obtain ⟨j, rfl⟩ : ∃ j, i = j + 1 := ⟨i - 1, by omega⟩
  right
  rw [show j + 1 - 1 = j by omega, bList_get (show j < t.ct.toNat by omega)]
  have := dV_mono ht (c := c) (i := (j : Int) + 1) (by omega) (hd j (by omega)) (by have := hd (j + 1) hi; rwa [Int.natCast_add] at this)
  show dV t c _ ≤ dV t c _
  rw [Int.natCast_add]
  exact this
theorem bl_P {t : Tm} {c : Cl} (h : blE t c = 0) : Ln.P (blV t c) = t.pr := by
 obtain ⟨_, ht, hd, hp, _⟩ := bl_facts h
 have hpr := ht.pr
 rw [blV_ok h]
 unfold Ln.P
 rw [bl_sum, lf_end ht, show t.pr - 0 = t.pr by omega]
 exact Ln.wrap_in (by omega) (by omega)
theorem bl_I {t : Tm} {c : Cl} (h : blE t c = 0) : 0 ≤ Ln.I (blV t c) ∧ Ln.I (blV t c) ≤ 120000000000000 := by
 obtain ⟨_, ht, hd, hp, _⟩ := bl_facts h
 have hct := ht.ct
 rw [blV_ok h]
 have hx : ∀ x ∈ its (bList t c t.ct.toNat), 0 ≤ x ∧ x ≤ 1000000000000 := fun x hx => by
  obtain ⟨y, hy, rfl⟩ := List.mem_map.1 hx
  unfold bList at hy
  obtain ⟨i, hi, rfl⟩ := List.mem_map.1 hy
  exact (due_bd h (List.mem_range.1 hi)).2.2
 have h0 := Ln.sum_nonneg _ (fun x h => (hx x h).1)
 have h1 := Ln.sum_le _ 1000000000000 (fun x h => (hx x h).2)
 have hl : (its (bList t c t.ct.toNat)).length = t.ct.toNat := by unfold its; rw [List.length_map, bList_len]
 rw [hl] at h1
 unfold Ln.I
 rw [Ln.wrap_in (by omega) (by omega)]
 omega
def rsW (p : Int) (ds : List Du) (n : Int) : Int := wrap64 (p - sum (prs (ds.filter fun d => decide (d.no ≤ n))))
end Go.Proofs.YtlolflephnbbcaaGreatDoor.Kl
