/-
 Prepayment, plain: the fee, the amount that settles a loan, a loan that is settled.
 Prepayment, plain: a part of the principal is paid, and the installments are built again.
-/
import Derived.Test.YtaanicginfjgdaaGreatDoorLdm
import Derived.Test.YtaanicginfjgdaaGreatDoorRd4
import Derived.Test.YtaanicginfjgdaaGreatDoorAn5
namespace Go.Proofs.YtaanicginfjgdaaGreatDoor.Pp
open Go Go.RowKit
open Go.Proofs.YtaanicginfjgdaaGreatDoor
open Go.Proofs.YtaanicginfjgdaaGreatDoor.Ln (Tm Ch Du Lo Pa sum prs its P I chk Ok ok_iff ordB dueB leftB left_iff dayB amt amt_iff sum_append sum_nonneg sum_le wrap_in powed pparts oI oP zLo)
open Go.Proofs.YtaanicginfjgdaaGreatDoor.Rd (gd pcV pcE)
set_option linter.unusedVariables false

def atN (l : Lo) (day : Int) : Nat := (Ln.due l.ds day).length
def nx (l : Lo) (day : Int) : Du := if atN l day < l.ds.length then l.ds[atN l day]! else ⟨0, 0, 0, 0⟩
def fst (l : Lo) (day : Int) : List Du := l.ds.take (atN l day)
def snd (l : Lo) (day : Int) : List Du := l.ds.drop (atN l day)
def lat (l : Lo) (day : Int) : Int := P l.ds - l.pp - max 0 (P (fst l day) - l.pp)
def itn (l : Lo) (day : Int) : Int := max 0 (I (fst l day) + (nx l day).it - l.pi)
noncomputable def feV (l : Lo) (a : Int) : Int := if a < 0 then 0 else pcV a l.tm.fe 6
noncomputable def feE (l : Lo) (a : Int) : Int := if a < 0 then 1 else pcE a l.tm.fe 6
noncomputable def qtN (l : Lo) (day : Int) : Int := l.fee + l.pen + itn l day + (P l.ds - l.pp) + feV l (lat l day)
noncomputable def qtE (l : Lo) (day : Int) : Int := if ¬ (chk l = 0 ∧ 0 ≤ day ∧ day ≤ 73048) then 1 else if l.st ≠ 1 then 17 else if ¬ gd (lat l day) then 6 else if ¬ gd (qtN l day) then 6 else 0
noncomputable def qtV (l : Lo) (day : Int) : Int := if qtE l day = 0 then qtN l day else 0
def Or (ds : List Du) : Prop := ∀ i, i < ds.length → ds[i]!.no = (i : Int) + 1 ∧ (i = 0 ∨ ds[i - 1]!.day ≤ ds[i]!.day)
theorem ord_iff {ds : List Du} : ordB ds = true ↔ Or ds := by
 unfold ordB Or
 rw [List.all_eq_true]
 constructor
 ·intro h i hi
  have := h i (List.mem_range.2 hi)
  simpa only [Bool.and_eq_true, Bool.or_eq_true, decide_eq_true_eq] using this
 ·intro h i hi
  have := h i (List.mem_range.1 hi)
  simpa only [Bool.and_eq_true, Bool.or_eq_true, decide_eq_true_eq] using this
theorem Or.le {ds : List Du} (h : Or ds) : ∀ (k i : Nat), i + k < ds.length → ds[i]!.day ≤ ds[i + k]!.day
 | 0, i, _ => Int.le_refl _
 | k + 1, i, hk => by
  have h1 := h.le k i (by omega)
  have h2 := (h (i + (k + 1)) hk).2
  rw [show i + (k + 1) - 1 = i + k by omega] at h2
  omega
theorem Or.pair {ds : List Du} (h : Or ds) : ds.Pairwise (fun a b => a.day ≤ b.day) := by
 rw [List.pairwise_iff_getElem]
 intro i j hi hj hij
 have := h.le (j - i) i (by omega)
 rw [show i + (j - i) = j by omega, getElem!_pos ds i hi, getElem!_pos ds j hj] at this
 exact this
theorem Or.take {ds : List Du} (h : Or ds) (k : Nat) : Or (ds.take k) := by
 intro i hi
 have hi' : i < k ∧ i < ds.length := by rw [List.length_take] at hi; omega
 have hg : ∀ j, j ≤ i → (ds.take k)[j]! = ds[j]! := fun j hj => by
  rw [getElem!_pos _ j (by omega), getElem!_pos ds j (by omega), List.getElem_take]
 rw [hg i (Nat.le_refl _), hg (i - 1) (by omega)]
 exact h i hi'.2
theorem take_of {day : Int} : ∀ {ds : List Du}, ds.Pairwise (fun a b => a.day ≤ b.day) → Ln.due ds day = ds.take (Ln.due ds day).length
 | [], _ => rfl
 | d :: ds, h => by
  obtain ⟨h1, h2⟩ := List.pairwise_cons.1 h
  unfold Ln.due
  rw [List.filter_cons]
  split
  ·rename_i hd
   rw [List.length_cons, List.take_succ_cons]
   exact congrArg _ (take_of h2)
  ·rename_i hd
   have hd' : ¬ d.day ≤ day := fun e => hd (decide_eq_true e)
   have : ds.filter (fun d => decide (d.day ≤ day)) = [] := by
    rw [List.filter_eq_nil_iff]
    intro x hx e
    have := h1 x hx
    have := of_decide_eq_true e
    omega
   rw [this]
   rfl
theorem due_fst {l : Lo} (h : Or l.ds) (day : Int) : Ln.due l.ds day = fst l day := take_of h.pair
theorem at_le (l : Lo) (day : Int) : atN l day ≤ l.ds.length := List.length_filter_le ..
theorem fst_len (l : Lo) (day : Int) : (fst l day).length = atN l day := by
 unfold fst
 rw [List.length_take]
 have := at_le l day
 omega
theorem snd_len (l : Lo) (day : Int) : (snd l day).length = l.ds.length - atN l day := List.length_drop ..
theorem fst_snd (l : Lo) (day : Int) : fst l day ++ snd l day = l.ds := List.take_append_drop ..
theorem count_of {day : Int} : ∀ {ds : List Du} {k : Nat}, ds.Pairwise (fun a b => a.day ≤ b.day) → k < ds.length → (ds[k]!.day ≤ day ↔ k < (Ln.due ds day).length)
 | [], k, _, hk => absurd hk (Nat.not_lt_zero _)
 | d :: ds, k, h, hk => by
  obtain ⟨h1, h2⟩ := List.pairwise_cons.1 h
  unfold Ln.due
  rw [List.filter_cons]
  cases k with
  | zero =>
   show d.day ≤ day ↔ _
   split
   ·rename_i hd
    exact ⟨fun _ => by simp, fun _ => of_decide_eq_true hd⟩
   ·rename_i hd
    have hd' : ¬ d.day ≤ day := fun e => hd (decide_eq_true e)
    refine ⟨fun e => absurd e hd', fun e => ?_⟩
    obtain ⟨x, hx⟩ := List.exists_mem_of_length_pos (by omega : 0 < (ds.filter fun d => decide (d.day ≤ day)).length)
    have hm := List.mem_filter.1 hx
    have := h1 x hm.1
    have := of_decide_eq_true hm.2
    omega
  | succ k =>
   have hk' : k < ds.length := by simpa using hk
   have ih := count_of (day := day) h2 hk'
   show ds[k]!.day ≤ day ↔ _
   split
   ·rename_i hd
    rw [ih, List.length_cons]
    show _ ↔ k + 1 < (Ln.due ds day).length + 1
    omega
   ·rename_i hd
    have hd' : ¬ d.day ≤ day := fun e => hd (decide_eq_true e)
    have := h1 ds[k]! (by rw [getElem!_pos ds k hk']; exact List.getElem_mem _)
    have hn : ds.filter (fun d => decide (d.day ≤ day)) = [] := by
     rw [List.filter_eq_nil_iff]
     intro x hx e
     have := h1 x hx
     have := of_decide_eq_true e
     omega
    rw [hn]
    refine ⟨fun e => by omega, fun e => absurd e (Nat.not_lt_zero _)⟩
theorem at_iff {l : Lo} (h : Or l.ds) {day : Int} {k : Nat} (hk : k < l.ds.length) : l.ds[k]!.day ≤ day ↔ k < atN l day := count_of h.pair hk
theorem each_of {ds : List Du} (h : ds.all dueB = true) : ∀ d ∈ ds, (0 ≤ d.day ∧ d.day ≤ 73048) ∧ (0 ≤ d.pr ∧ d.pr ≤ 1000000000000) ∧ (0 ≤ d.it ∧ d.it ≤ 1000000000000) := by
 intro d hd
 have := List.all_eq_true.1 h d hd
 simp only [dueB, dayB, amt, Bool.and_eq_true, decide_eq_true_eq] at this
 exact ⟨this.1.1, this.1.2, this.2⟩
theorem each_P {ds : List Du} (h : ds.all dueB = true) (hn : ds.length ≤ 1000) : P ds = sum (prs ds) ∧ 0 ≤ sum (prs ds) ∧ sum (prs ds) ≤ ds.length * 1000000000000 := by
 have h0 := sum_nonneg (prs ds) fun x hx => by
  obtain ⟨d, hd, rfl⟩ := List.mem_map.1 hx
  exact (each_of h d hd).2.1.1
 have h1 := sum_le (prs ds) 1000000000000 fun x hx => by
  obtain ⟨d, hd, rfl⟩ := List.mem_map.1 hx
  exact (each_of h d hd).2.1.2
 have hl : (prs ds).length = ds.length := by simp [prs]
 rw [hl] at h1
 exact ⟨wrap_in (by omega) (by omega), h0, h1⟩
theorem each_I {ds : List Du} (h : ds.all dueB = true) (hn : ds.length ≤ 1000) : I ds = sum (its ds) ∧ 0 ≤ sum (its ds) ∧ sum (its ds) ≤ ds.length * 1000000000000 := by
 have h0 := sum_nonneg (its ds) fun x hx => by
  obtain ⟨d, hd, rfl⟩ := List.mem_map.1 hx
  exact (each_of h d hd).2.2.1
 have h1 := sum_le (its ds) 1000000000000 fun x hx => by
  obtain ⟨d, hd, rfl⟩ := List.mem_map.1 hx
  exact (each_of h d hd).2.2.2
 have hl : (its ds).length = ds.length := by simp [its]
 rw [hl] at h1
 exact ⟨wrap_in (by omega) (by omega), h0, h1⟩
theorem all_app {a b : List Du} (h : (a ++ b).all dueB = true) : a.all dueB = true ∧ b.all dueB = true := by
 rw [List.all_append, Bool.and_eq_true] at h
 exact h
theorem sum_prs_app (a b : List Du) : sum (prs (a ++ b)) = sum (prs a) + sum (prs b) := by unfold prs; rw [List.map_append, sum_append]
theorem sum_its_app (a b : List Du) : sum (its (a ++ b)) = sum (its a) + sum (its b) := by unfold its; rw [List.map_append, sum_append]
structure Vw (l : Lo) (day : Int) : Prop where
 fa : (fst l day).all dueB = true
 sa : (snd l day).all dueB = true
 n : (fst l day).length + (snd l day).length = l.ds.length
 P : Ln.P l.ds = Ln.P (fst l day) + Ln.P (snd l day)
 I : Ln.I l.ds = Ln.I (fst l day) + Ln.I (snd l day)
 p0 : 0 ≤ Ln.P (fst l day)
 p1 : Ln.P (fst l day) ≤ 240000000000000
 s0 : 0 ≤ Ln.P (snd l day)
 s1 : Ln.P (snd l day) ≤ 240000000000000
 i0 : 0 ≤ Ln.I (fst l day)
 i1 : Ln.I (fst l day) ≤ 240000000000000
 t0 : 0 ≤ Ln.I (snd l day)
 P2 : Ln.P l.ds ≤ 240000000000000
 I2 : Ln.I l.ds ≤ 240000000000000
 x0 : 0 ≤ (nx l day).it
 x1 : (nx l day).it ≤ 1000000000000
 x2 : (nx l day).it ≤ Ln.I (snd l day)
 y0 : 0 ≤ (nx l day).pr
 y1 : (nx l day).pr ≤ 1000000000000
theorem view {l : Lo} (h : Ok l) (day : Int) : Vw l day := by
 have ho := ord_iff.1 h.ord
 have hn := h.n2
 have hlen : (fst l day).length + (snd l day).length = l.ds.length := by rw [← List.length_append, fst_snd]
 have hall := h.each
 rw [← fst_snd l day] at hall
 obtain ⟨ha, hb⟩ := all_app hall
 have p := each_P h.each (by omega)
 have i := each_I h.each (by omega)
 have pa := each_P ha (by omega)
 have ia := each_I ha (by omega)
 have pb := each_P hb (by omega)
 have ib := each_I hb (by omega)
 have e1 : sum (prs l.ds) = sum (prs (fst l day)) + sum (prs (snd l day)) := by rw [← sum_prs_app, fst_snd]
 have e2 : sum (its l.ds) = sum (its (fst l day)) + sum (its (snd l day)) := by rw [← sum_its_app, fst_snd]
 have hx : (0 ≤ (nx l day).it ∧ (nx l day).it ≤ 1000000000000 ∧ (nx l day).it ≤ sum (its (snd l day))) ∧ (0 ≤ (nx l day).pr ∧ (nx l day).pr ≤ 1000000000000) := by
  unfold nx
  split
  ·rename_i hlt
   have hm := each_of h.each l.ds[atN l day]! (by rw [getElem!_pos l.ds _ hlt]; exact List.getElem_mem _)
   have hs : snd l day = l.ds[atN l day]! :: l.ds.drop (atN l day + 1) := by
    rw [getElem!_pos l.ds _ hlt]; exact List.drop_eq_getElem_cons hlt
   rw [hs] at hb
   have hc := (all_app (a := [l.ds[atN l day]!]) hb).2
   have hz := (each_I hc (by rw [List.length_drop]; omega)).2.1
   rw [hs]
   refine ⟨⟨hm.2.2.1, hm.2.2.2, ?_⟩, hm.2.1⟩
   show _ ≤ l.ds[atN l day]!.it + sum (its (l.ds.drop (atN l day + 1)))
   omega
  ·exact ⟨⟨Int.le_refl _, by show (0 : Int) ≤ 1000000000000; decide, ib.2.1⟩, Int.le_refl _, by show (0 : Int) ≤ 1000000000000; decide⟩
 refine ⟨ha, hb, hlen, by omega, by omega, by omega, by omega, by omega, by omega, by omega, by omega, by omega, by omega, by omega, hx.1.1, hx.1.2.1, ?_, hx.2.1, hx.2.2⟩
 rw [ib.1]
 exact hx.1.2.2
theorem lat_bd {l : Lo} (h : Ok l) (day : Int) : 0 ≤ lat l day ∧ lat l day ≤ P l.ds - l.pp := by
 have v := view h day
 have := v.P; have := v.s0; have := h.pp; have := h.pp'
 unfold lat
 omega
theorem fe_ok {l : Lo} (h : Ok l) {a : Int} (h0 : 0 ≤ a) (h1 : a ≤ 1000000000000) : feE l a = 0 ∧ 0 ≤ feV l a ∧ feV l a ≤ a := by
 have hf := h.rf
 unfold Ln.rateB at hf
 have hf := of_decide_eq_true hf
 have hgd : gd a ∧ 0 ≤ l.tm.fe ∧ l.tm.fe ≤ 1000000 := ⟨⟨by omega, h1⟩, hf⟩
 have hp0 := Int.mul_nonneg h0 hf.1
 have hp1 : a * l.tm.fe ≤ a * 1000000 := Int.mul_le_mul_of_nonneg_left hf.2 h0
 have hk : Rd.rok 1000000 6 := by decide
 have hq := Int.ediv_nonneg hp0 (show (0 : Int) ≤ 1000000 by decide)
 have hlo := (An.rd_lo (n := 1000000) (m := 6) hp0 (by decide)).1
 have hhi := An.rd_mono (n := 1000000) (m := 6) hp0 hp1 (by decide)
 have hmu : Rd.rd (a * 1000000) 1000000 6 = a := ((An.rd_lo (n := 1000000) (m := 6) (Int.mul_nonneg h0 (by decide)) (by decide)).2.2 (Int.mul_emod_left ..)).trans (Int.mul_ediv_cancel _ (by decide))
 generalize hr : Rd.rd (a * l.tm.fe) 1000000 6 = r at *
 rw [hmu] at hhi
 have hin : Wm.I64 r := by unfold Wm.I64; omega
 have hng : ¬ a < 0 := by omega
 unfold feE feV pcE pcV
 rw [if_neg hng, if_neg hng, if_pos hgd, if_pos hgd, (Rd.rd_yes hk).1, (Rd.rd_yes hk).2, hr]
 have e1 : Wt.iin r = true := decide_eq_true hin
 have e2 : Wt.ifit r = r := if_pos hin
 rw [e1, e2]
 exact ⟨rfl, by omega, by omega⟩
def one1 (l : Lo) (day : Int) : Du := ⟨(atN l day : Int) + 1, day, P (snd l day), max (nx l day).it (l.pi - I (fst l day))⟩
def fuD (l : Lo) (day : Int) : List Du := if atN l day < l.ds.length then fst l day ++ [one1 l day] else fst l day
noncomputable def fuE (l : Lo) (day : Int) : Int := if qtE l day ≠ 0 then qtE l day else if atN l day < l.ds.length ∧ ¬ (gd (one1 l day).pr ∧ gd (one1 l day).it) then 6 else 0
def fuO (l : Lo) (day : Int) : Lo := ⟨l.id, l.ac, 2, P (fuD l day), I (fuD l day), 0, 0, l.chg, l.prov, l.loss, l.rcv, l.tm, fuD l day, l.cs⟩
noncomputable def fuL (l : Lo) (day : Int) : Lo := if fuE l day = 0 then fuO l day else zLo
def ppz (ps : List Pa) : List Pa := ps.filter fun p => !(p.am == 0)
noncomputable def fuQ (l : Lo) (day : Int) : List Pa := ppz [⟨1, l.fee + feV l (lat l day)⟩, ⟨2, l.pen⟩, ⟨3, itn l day⟩, ⟨4, P l.ds - l.pp⟩]
noncomputable def fuP (l : Lo) (day : Int) : List Pa := if fuE l day = 0 then fuQ l day else []
def tot (ps : List Pa) : Int := sum (ps.map Pa.am)
theorem qt_parts {l : Lo} {day : Int} (h : qtE l day = 0) : Ok l ∧ (0 ≤ day ∧ day ≤ 73048) ∧ l.st = 1 ∧ gd (lat l day) ∧ gd (qtN l day) := by
 unfold qtE at h
 split at h
 ·cases h
 rename_i h1
 split at h
 ·cases h
 rename_i h2
 split at h
 ·cases h
 rename_i h3
 split at h
 ·cases h
 rename_i h4
 have h1 := Classical.byContradiction h1
 exact ⟨ok_iff.1 h1.1, h1.2, Classical.byContradiction h2, Classical.byContradiction h3, Classical.byContradiction h4⟩
end Go.Proofs.YtaanicginfjgdaaGreatDoor.Pp

namespace Go.Proofs.YtaanicginfjgdaaGreatDoor.Pp
open Go Go.RowKit
open Go.Proofs.YtaanicginfjgdaaGreatDoor
open Go.Proofs.YtaanicginfjgdaaGreatDoor.Ln (Tm Ch Du Lo Pa sum prs its P I chk Ok ok_iff ordB dueB leftB left_iff dayB amt amt_iff sum_append sum_nonneg sum_le wrap_in powed pparts oI oP zLo)
open Go.Proofs.YtaanicginfjgdaaGreatDoor.Rd (gd pcV pcE)
open Go.Proofs.YtaanicginfjgdaaGreatDoor.Kl (Cl skE sk_ok TOk)
open Go.Proofs.YtaanicginfjgdaaGreatDoor.An (intr intr_bd intr_mono Rate enough Least restA stepA pOk POut)
set_option linter.unusedVariables false

def itK (t : Tm) (left : Int) : Int := intr (t.ppm * t.ev) t.mo left
def prK (t : Tm) (rest : Int) (n : Nat) (keep pay : Int) (i : Nat) (left it : Int) : Int :=
 if i + 1 < n then (if keep = 2 then min (max (pay - it) 0) left else if t.me = 2 then (if (i : Int) < rest % n then rest / n + 1 else rest / n) else if t.me = 3 then 0 else min (pay - it) left) else left
def bldK (t : Tm) (rest : Int) (n : Nat) (keep pay : Int) : List Du → Nat → Int → Int → List Du
 | [], _, _, _ => []
 | d :: ds, i, left, no => ⟨no, d.day, prK t rest n keep pay i left (itK t left), itK t left⟩ ::
   (if keep = 2 ∧ left - prK t rest n keep pay i left (itK t left) = 0 then [] else bldK t rest n keep pay ds (i + 1) (left - prK t rest n keep pay i left (itK t left)) (no + 1))
structure Inv (t : Tm) (rest : Int) (n : Nat) (keep pay : Int) (i : Nat) (left : Int) : Prop where
 r0 : 1 ≤ rest
 r1 : rest ≤ 1000000000000
 rt : Rate (t.ppm * t.ev)
 me : 1 ≤ t.me ∧ t.me ≤ 4
 ilt : i ≤ n
 l0 : 0 ≤ left
 l1 : left ≤ rest
 lin : keep ≠ 2 → t.me = 2 → left = rest - (rest / n * i + min (i : Int) (rest % n))
 pay : keep ≠ 2 → t.me ≠ 2 → t.me ≠ 3 → intr (t.ppm * t.ev) t.mo rest ≤ pay
theorem Inv.zero {t : Tm} {rest : Int} {n : Nat} {keep pay : Int} (h0 : 1 ≤ rest) (h1 : rest ≤ 1000000000000) (ht : Rate (t.ppm * t.ev)) (hm : 1 ≤ t.me ∧ t.me ≤ 4) (hn : 1 ≤ n) (hp : keep ≠ 2 → t.me ≠ 2 → t.me ≠ 3 → intr (t.ppm * t.ev) t.mo rest ≤ pay) : Inv t rest n keep pay 0 rest := by
 refine ⟨h0, h1, ht, hm, Nat.zero_le _, by omega, Int.le_refl _, fun _ _ => ?_, hp⟩
 have := Int.emod_nonneg rest (show (n : Int) ≠ 0 by omega)
 simp
 omega
theorem Inv.it {t : Tm} {rest : Int} {n : Nat} {keep pay left : Int} {i : Nat} (h : Inv t rest n keep pay i left) : 0 ≤ itK t left ∧ itK t left ≤ 1000000000000 := by
 have := h.l1; have := h.r1
 exact intr_bd h.rt h.l0 (by omega)
theorem lin_step {rest : Int} {n i : Nat} (h0 : 1 ≤ rest) (hi : i < n) : rest / n * i + min (i : Int) (rest % n) ≤ rest ∧ rest / n * ((i + 1 : Nat) : Int) = rest / n * i + rest / n ∧ 0 ≤ rest / n ∧ 0 ≤ rest % n ∧ rest / n * ((i + 1 : Nat) : Int) + min ((i + 1 : Nat) : Int) (rest % n) ≤ rest := by
 have hq : 0 ≤ rest / (n : Int) := Int.ediv_nonneg (by omega) (by omega)
 have hr := Int.emod_nonneg rest (show (n : Int) ≠ 0 by omega)
 have h1 := Int.mul_le_mul_of_nonneg_left (show ((i + 1 : Nat) : Int) ≤ (n : Int) by omega) hq
 have h2 := Int.ediv_mul_add_emod rest (n : Int)
 have e : rest / (n : Int) * ((i + 1 : Nat) : Int) = rest / n * i + rest / n := by rw [Int.natCast_add, Int.mul_add]; simp
 refine ⟨by omega, e, hq, hr, by omega⟩
theorem lin_end {rest : Int} {n : Nat} (hn : 1 ≤ n) : rest / n * (n : Int) + min (n : Int) (rest % n) = rest := by
 have h2 := Int.ediv_mul_add_emod rest (n : Int)
 have := Int.emod_lt_of_pos rest (show (0 : Int) < (n : Int) by omega)
 omega
theorem Inv.step {t : Tm} {rest : Int} {n : Nat} {keep pay left : Int} {i : Nat} (h : Inv t rest n keep pay i left) (hi : i < n) :
  (0 ≤ prK t rest n keep pay i left (itK t left) ∧ prK t rest n keep pay i left (itK t left) ≤ left) ∧ Inv t rest n keep pay (i + 1) (left - prK t rest n keep pay i left (itK t left)) := by
 have hl0 := h.l0; have hl1 := h.l1
 have hb : (0 ≤ prK t rest n keep pay i left (itK t left) ∧ prK t rest n keep pay i left (itK t left) ≤ left) ∧ (keep ≠ 2 → t.me = 2 → left - prK t rest n keep pay i left (itK t left) = rest - (rest / n * ((i + 1 : Nat) : Int) + min ((i + 1 : Nat) : Int) (rest % n))) := by
  unfold prK
  by_cases hl : i + 1 < n
  ·rw [if_pos hl]
   by_cases hk : keep = 2
   ·rw [if_pos hk]
    exact ⟨by omega, fun e => absurd hk e⟩
   ·rw [if_neg hk]
    by_cases h2 : t.me = 2
    ·rw [if_pos h2]
     have hlin := h.lin hk h2
     obtain ⟨s1, s2, s3, s4, s5⟩ := lin_step h.r0 hi
     rw [s2] at s5 ⊢
     generalize rest / (n : Int) = q at *
     generalize q * (i : Int) = z at *
     generalize rest % (n : Int) = r at *
     split
     ·exact ⟨by omega, fun _ _ => by omega⟩
     ·exact ⟨by omega, fun _ _ => by omega⟩
    ·rw [if_neg h2]
     by_cases h3 : t.me = 3
     ·rw [if_pos h3]
      exact ⟨by omega, fun _ e => absurd e h2⟩
     ·rw [if_neg h3]
      have hp := h.pay hk h2 h3
      have hm := intr_mono (m := t.mo) h.rt hl0 hl1
      unfold itK
      exact ⟨by omega, fun _ e => absurd e h2⟩
  ·rw [if_neg hl]
   refine ⟨by omega, fun hk h2 => ?_⟩
   obtain rfl : n = i + 1 := by omega
   rw [lin_end (by omega)]
   omega
 exact ⟨hb.1, h.r0, h.r1, h.rt, h.me, hi, by omega, by omega, hb.2, h.pay⟩
theorem Inv.last {t : Tm} {rest : Int} {n : Nat} {keep pay left it : Int} {i : Nat} (hi : ¬ i + 1 < n) : prK t rest n keep pay i left it = left := if_neg hi
theorem bld_len {t : Tm} {rest : Int} {n : Nat} {keep pay : Int} : ∀ (ds : List Du) (i : Nat) (left no : Int), (bldK t rest n keep pay ds i left no).length ≤ ds.length ∧ (keep ≠ 2 → (bldK t rest n keep pay ds i left no).length = ds.length)
 | [], _, _, _ => ⟨Nat.le_refl _, fun _ => rfl⟩
 | d :: ds, i, left, no => by
  unfold bldK
  rw [List.length_cons, List.length_cons]
  split
  ·rename_i h
   refine ⟨?_, fun hk => absurd h.1 hk⟩
   show 0 + 1 ≤ _
   omega
  ·have ih := bld_len (t := t) (rest := rest) (n := n) (keep := keep) (pay := pay) ds (i + 1) (left - prK t rest n keep pay i left (itK t left)) (no + 1)
   exact ⟨by omega, fun hk => by rw [ih.2 hk]⟩
def balK (t : Tm) (rest : Int) : Int := if t.me = 4 then min t.ba rest else 0
open Classical in
noncomputable def anV (p ppm ev m cnt bal : Int) : Int := if h : pOk p ppm ev m cnt bal ∧ enough (ppm * ev) m cnt.toNat p bal 1000000000000 = true ∧ ∃ x, Least (ppm * ev) m cnt.toNat p bal x then Classical.choose h.2.2 else 0
def anE (p ppm ev m cnt bal : Int) : Int := if pOk p ppm ev m cnt bal then (if enough (ppm * ev) m cnt.toNat p bal 1000000000000 then 0 else 6) else 1
theorem pout_is {p ppm ev m cnt bal : Int} {e : Ending} (h : POut p ppm ev m cnt bal e) : e = .returned (.tuple #[.int .i64 (anV p ppm ev m cnt bal), .int .i64 (anE p ppm ev m cnt bal)]) := by
 obtain ⟨v, c, rfl, h⟩ := h
 rcases h with ⟨h1, rfl, rfl⟩ | ⟨h1, h2, h3, rfl⟩ | ⟨h1, h2, rfl, rfl⟩
 ·unfold anV anE
  rw [dif_neg (fun h => h1 h.1), if_neg h1]
 ·have hx : pOk p ppm ev m cnt bal ∧ enough (ppm * ev) m cnt.toNat p bal 1000000000000 = true ∧ ∃ x, Least (ppm * ev) m cnt.toNat p bal x := ⟨h1, h2, v, h3⟩
  unfold anV anE
  rw [dif_pos hx, if_pos h1, if_pos h2, (Classical.choose_spec hx.2.2).unique h3]
 ·unfold anV anE
  rw [dif_neg (fun h => by rw [h2] at h; exact absurd h.2.1 (by decide)), if_pos h1, if_neg (by rw [h2]; decide)]
theorem an_least {p ppm ev m cnt bal : Int} {e : Ending} (h : POut p ppm ev m cnt bal e) (h0 : anE p ppm ev m cnt bal = 0) : pOk p ppm ev m cnt bal ∧ Least (ppm * ev) m cnt.toNat p bal (anV p ppm ev m cnt bal) := by
 have he := pout_is h
 obtain ⟨v, c, rfl, h⟩ := h
 have hv : v = anV p ppm ev m cnt bal ∧ c = anE p ppm ev m cnt bal := by simpa using he
 rcases h with ⟨h1, h2, h3⟩ | ⟨h1, h2, h3, h4⟩ | ⟨h1, h2, h3, h4⟩
 ·omega
 ·rw [← hv.1]; exact ⟨h1, h3⟩
 ·omega
theorem an_ge {c m p bal x : Int} {k : Nat} (hc : Rate c) (h0 : 0 ≤ p) (hb : bal ≤ p) (hk : 1 ≤ k) (hl : Least c m k p bal x) : intr c m p ≤ x := by
 apply Classical.byContradiction
 intro hn
 have he := hl.2.1
 obtain ⟨k, rfl⟩ : ∃ j, k = j + 1 := ⟨k - 1, by omega⟩
 unfold enough at he
 split at he
 ·cases he
 ·rename_i r hr
  unfold restA at hr
  have hs : p + 1 ≤ stepA c m x p := by
   unfold stepA
   split <;> omega
  split at hr
  ·cases hr
  ·have hm := intr_mono (m := m) hc h0 (show p ≤ p + 1 by omega)
   have := Kl.rest_up hc k _ (p + 1) r (by omega) hs (by omega) hr
   have := of_decide_eq_true he
   omega
def lvE (l : Lo) (keep rest : Int) (n : Nat) : Int := if keep = 2 then 0 else if l.tm.me = 1 ∨ l.tm.me = 4 then anE rest l.tm.ppm l.tm.ev l.tm.mo n (balK l.tm rest) else 0
noncomputable def lvV (l : Lo) (day keep rest : Int) (n : Nat) : Int := if keep = 2 then (nx l day).pr + (nx l day).it else if l.tm.me = 1 ∨ l.tm.me = 4 then anV rest l.tm.ppm l.tm.ev l.tm.mo n (balK l.tm rest) else 0
noncomputable def paid (l : Lo) (a : Int) : Int := a - feV l a
noncomputable def rst (l : Lo) (a : Int) : Int := P l.ds - l.pp - paid l a
noncomputable def one2 (l : Lo) (a day : Int) : Du := ⟨(atN l day : Int) + 1, day, l.pp - P (fst l day) + paid l a, l.pi - I (fst l day)⟩
noncomputable def bld (l : Lo) (a day keep : Int) : List Du := bldK l.tm (rst l a) (snd l day).length keep (lvV l day keep (rst l a) (snd l day).length) (snd l day) 0 (rst l a) ((atN l day : Int) + 2)
noncomputable def paD (l : Lo) (a day keep : Int) : List Du := (fst l day ++ [one2 l a day]) ++ bld l a day keep
noncomputable def alE (l : Lo) (a day keep : Int) (c : Cl) : Int :=
 if l.st ≠ 1 ∨ powed l day ≠ [] then 17
 else if a < 1 ∨ ¬ gd a ∨ ¬ (keep = 1 ∨ keep = 2) then 1
 else if keep = 2 ∧ l.tm.me ≠ 1 then 3
 else if skE l.tm c ≠ 0 then skE l.tm c
 else if paid l a < 1 ∨ P l.ds - l.pp ≤ paid l a then 18 else 0
noncomputable def paE (l : Lo) (a day keep : Int) (c : Cl) : Int :=
 if ¬ (chk l = 0 ∧ 0 ≤ day ∧ day ≤ 73048) then 1
 else if alE l a day keep c ≠ 0 then alE l a day keep c
 else if ¬ (gd (rst l a) ∧ gd (one2 l a day).pr ∧ gd (one2 l a day).it) then 6
 else if lvE l keep (rst l a) (snd l day).length ≠ 0 then lvE l keep (rst l a) (snd l day).length
 else if 240 < (paD l a day keep).length then 5 else 0
noncomputable def paO (l : Lo) (a day keep : Int) : Lo := ⟨l.id, l.ac, l.st, l.pp + paid l a, l.pi, l.fee, l.pen, l.chg, l.prov, l.loss, l.rcv, l.tm, paD l a day keep, l.cs⟩
noncomputable def paL (l : Lo) (a day keep : Int) (c : Cl) : Lo := if paE l a day keep c = 0 then paO l a day keep else zLo
noncomputable def paQ (l : Lo) (a : Int) : List Pa := ppz [⟨1, a - paid l a⟩, ⟨4, paid l a⟩]
noncomputable def paP (l : Lo) (a day keep : Int) (c : Cl) : List Pa := if paE l a day keep c = 0 then paQ l a else []
structure Al (l : Lo) (a day keep : Int) (c : Cl) : Prop where
 ok : Ok l
 dy : 0 ≤ day ∧ day ≤ 73048
 st : l.st = 1
 fee : l.fee = 0
 pen : l.pen = 0
 pp : P (fst l day) ≤ l.pp
 pi : I (fst l day) ≤ l.pi
 a0 : 1 ≤ a
 a1 : a ≤ 1000000000000
 kp : keep = 1 ∨ keep = 2
 me : keep = 2 → l.tm.me = 1
 tm : TOk l.tm
 sk : skE l.tm c = 0
 p0 : 1 ≤ paid l a
 p1 : paid l a < P l.ds - l.pp
 p2 : paid l a ≤ a
 sn : 1 ≤ (snd l day).length
theorem powed_no {l : Lo} {day : Int} (h : powed l day = []) : l.fee ≤ 0 ∧ l.pen ≤ 0 ∧ oI l day ≤ 0 ∧ oP l day ≤ 0 := by
 unfold powed pparts at h
 rw [List.filter_eq_nil_iff] at h
 have h1 := h ⟨1, l.fee⟩ (by simp)
 have h2 := h ⟨2, l.pen⟩ (by simp)
 have h3 := h ⟨3, oI l day⟩ (by simp)
 have h4 := h ⟨4, oP l day⟩ (by simp)
 simp at h1 h2 h3 h4
 exact ⟨h1, h2, h3, h4⟩
theorem al_parts {l : Lo} {a day keep : Int} {c : Cl} (hk : chk l = 0) (hday : 0 ≤ day ∧ day ≤ 73048) (h : alE l a day keep c = 0) : Al l a day keep c := by
 have ho := ok_iff.1 hk
 unfold alE at h
 split at h
 ·cases h
 rename_i h1
 split at h
 ·cases h
 rename_i h2
 split at h
 ·cases h
 rename_i h3
 split at h
 ·rename_i h4; exact absurd h h4
 rename_i h4
 split at h
 ·cases h
 rename_i h5
 rw [not_or] at h1 h5
 rw [not_or, not_or] at h2
 have h11 := Classical.byContradiction h1.1
 have h12 : powed l day = [] := Classical.byContradiction h1.2
 have h4 : skE l.tm c = 0 := Classical.byContradiction h4
 have h22 := Classical.byContradiction h2.2.1
 have h23 := Classical.byContradiction h2.2.2
 obtain ⟨q1, q2, q3, q4⟩ := powed_no h12
 rw [ho.oI] at q3
 rw [ho.oP] at q4
 have hor := ord_iff.1 ho.ord
 rw [due_fst hor] at q3 q4
 have hf := amt_iff.1 ho.fee
 have hp := amt_iff.1 ho.pen
 have v := view ho day
 unfold gd at h22
 have hfe := fe_ok ho (a := a) (by omega) h22.2
 have hpd : paid l a = a - feV l a := rfl
 have hsn : 1 ≤ (snd l day).length := by
  apply Classical.byContradiction
  intro hn
  have : snd l day = [] := List.eq_nil_of_length_eq_zero (by omega)
  have hP := v.P
  rw [this, Ln.P_nil] at hP
  omega
 exact ⟨ho, hday, h11, by omega, by omega, by omega, by omega, by omega, h22.2, h23, fun hk => Classical.byContradiction fun hm => h3 ⟨hk, hm⟩, (sk_ok h4).1, h4, by omega, by omega, by omega, hsn⟩
structure Pt (l : Lo) (a day keep : Int) (c : Cl) : Prop where
 al : Al l a day keep c
 g1 : gd (rst l a)
 g2 : gd (one2 l a day).pr
 g3 : gd (one2 l a day).it
 lv : lvE l keep (rst l a) (snd l day).length = 0
 n : (paD l a day keep).length ≤ 240
theorem pa_parts {l : Lo} {a day keep : Int} {c : Cl} (h : paE l a day keep c = 0) : Pt l a day keep c := by
 unfold paE at h
 split at h
 ·cases h
 rename_i h1
 split at h
 ·rename_i h2; exact absurd h h2
 rename_i h2
 split at h
 ·cases h
 rename_i h3
 split at h
 ·rename_i h4; exact absurd h h4
 rename_i h4
 split at h
 ·cases h
 rename_i h5
 have h1 := Classical.byContradiction h1
 have h2 := Classical.byContradiction h2
 have h3 := Classical.byContradiction h3
 have h4 := Classical.byContradiction h4
 exact ⟨al_parts h1.1 h1.2 h2, h3.1, h3.2.1, h3.2.2, h4, by omega⟩
theorem Al.inv {l : Lo} {a day keep : Int} {c : Cl} (h : Al l a day keep c) (hg : gd (rst l a)) (hl : lvE l keep (rst l a) (snd l day).length = 0) (hP : POut (rst l a) l.tm.ppm l.tm.ev l.tm.mo (snd l day).length (balK l.tm (rst l a)) (.returned (.tuple #[.int .i64 (anV (rst l a) l.tm.ppm l.tm.ev l.tm.mo (snd l day).length (balK l.tm (rst l a))), .int .i64 (anE (rst l a) l.tm.ppm l.tm.ev l.tm.mo (snd l day).length (balK l.tm (rst l a)))]))) :
  Inv l.tm (rst l a) (snd l day).length keep (lvV l day keep (rst l a) (snd l day).length) 0 (rst l a) := by
 have hr0 : 1 ≤ rst l a := by have := h.p1; unfold rst; omega
 unfold gd at hg
 have hrt := h.tm.rate
 refine Inv.zero hr0 hg.2 hrt h.tm.me h.sn fun hk h2 h3 => ?_
 have hme := h.tm.me
 have h14 : l.tm.me = 1 ∨ l.tm.me = 4 := by omega
 unfold lvE at hl
 rw [if_neg hk, if_pos h14] at hl
 unfold lvV
 rw [if_neg hk, if_pos h14]
 have hL := an_least hP hl
 have hb := hL.1.2.2.2
 exact an_ge hrt (by omega) hb (by have := hL.1.2.1; omega) hL.2
structure Kp (l : Lo) (a day keep : Int) : Prop where
 ok : chk (paO l a day keep) = 0
 P : Ln.P (paD l a day keep) = Ln.P l.ds
 at_ : atN (paO l a day keep) day = atN l day + 1
 len : (paD l a day keep).length = atN l day + 1 + (bld l a day keep).length
 le : (bld l a day keep).length ≤ l.ds.length - atN l day
 eq : keep ≠ 2 → (bld l a day keep).length = l.ds.length - atN l day
 owed : powed (paO l a day keep) day = []
end Go.Proofs.YtaanicginfjgdaaGreatDoor.Pp
