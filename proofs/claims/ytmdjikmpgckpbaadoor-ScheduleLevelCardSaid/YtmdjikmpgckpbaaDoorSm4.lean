/-
  Schedules, plain: the installments of a schedule are in their ranges, in order, and add up.
-/
import Derived.Test.YtmdjikmpgckpbaaDoorSm3
namespace Go.Proofs.YtmdjikmpgckpbaaDoor.Kl
open Go Go.RowKit
open Go.Proofs.YtmdjikmpgckpbaaDoor
open Go.Proofs.YtmdjikmpgckpbaaDoor.Cal
open Go.Proofs.YtmdjikmpgckpbaaDoor.Ln (Tm Du sum prs its)
open Go.Proofs.YtmdjikmpgckpbaaDoor.An (intr intr_bd intr_mono Rate)

theorem bl_facts {t : Tm} {c : Cl} (h : blE t c = 0) : skE t c = 0 ∧ TOk t ∧ (∀ i, i < t.ct.toNat → dE t c ((i : Int) + 1) = 0) ∧ payE t = 0 ∧ daysE t c = 0 := by
  unfold blE at h
  split at h
  · rename_i hd
    have hd' := hd
    unfold daysE at hd
    split at hd
    · rename_i hs
      exact ⟨hs, (sk_ok hs).1, dsE_ok hd, h, hd'⟩
    · rename_i hs; exact absurd hd hs
  · rename_i hd; exact absurd h hd
theorem dE_day {t : Tm} {c : Cl} (ht : TOk t) {i : Int} (h : dE t c i = 0) : 0 ≤ dV t c i ∧ dV t c i ≤ 73048 := by
  have hk := (civ_spec t.stt ht.stt.1 ht.stt.2).k0
  unfold dE at h
  unfold dV
  split at h
  · rename_i d hd
    have v := addM_in hk hd
    cases hx : adj c d with
    | none => rw [hx] at h; simp [oE] at h
    | some x => exact adj_in v.1 v.2 hx
  · omega
theorem bList_get {t : Tm} {c : Cl} {n i : Nat} (h : i < n) : (bList t c n)[i]! = duAt t c i := by
  simp [bList, h]
theorem blV_ok {t : Tm} {c : Cl} (h : blE t c = 0) : blV t c = bList t c t.ct.toNat := if_pos h
theorem bl_len {t : Tm} {c : Cl} (h : blE t c = 0) : (blV t c).length = t.ct.toNat := by rw [blV_ok h, bList_len]
theorem sum_app (a b : List Int) : sum (a ++ b) = sum a + sum b := Ln.sum_append a b
theorem bl_sum (t : Tm) (c : Cl) : ∀ n : Nat, sum (prs (bList t c n)) = t.pr - lf t (payV t) n
  | 0 => by
    show (0 : Int) = t.pr - t.pr
    omega
  | n + 1 => by
    have ih := bl_sum t c n
    unfold prs at ih ⊢
    rw [bList_succ, List.map_append, sum_app, ih, lf_succ]
    show _ + (prt t (payV t) n (lf t (payV t) n) + 0) = _
    omega
theorem due_bd {t : Tm} {c : Cl} (h : blE t c = 0) {i : Nat} (hi : i < t.ct.toNat) : (0 ≤ (duAt t c i).day ∧ (duAt t c i).day ≤ 73048) ∧ (0 ≤ (duAt t c i).pr ∧ (duAt t c i).pr ≤ 1000000000000) ∧ (0 ≤ (duAt t c i).it ∧ (duAt t c i).it ≤ 1000000000000) := by
  obtain ⟨_, ht, hd, hp, _⟩ := bl_facts h
  have hb := lf_bd ht (ht.pay hp).1 i
  have hpr := ht.pr
  exact ⟨dE_day ht (hd i hi), ⟨hb.2.1, by show prt _ _ _ _ ≤ _; omega⟩, intr_bd ht.rate hb.1.1 (by omega)⟩
theorem bl_each {t : Tm} {c : Cl} (h : blE t c = 0) : (blV t c).all Ln.dueB = true := by
  rw [blV_ok h, List.all_eq_true]
  intro d hd
  unfold bList at hd
  obtain ⟨i, hi, rfl⟩ := List.mem_map.1 hd
  have hb := due_bd h (List.mem_range.1 hi)
  unfold Ln.dueB Ln.dayB Ln.amt
  simp only [Bool.and_eq_true, decide_eq_true_eq]
  exact ⟨⟨hb.1, hb.2.1⟩, hb.2.2⟩
theorem bl_ord {t : Tm} {c : Cl} (h : blE t c = 0) : Ln.ordB (blV t c) = true := by
  obtain ⟨_, ht, hd, hp, _⟩ := bl_facts h
  rw [blV_ok h]
  unfold Ln.ordB
  rw [bList_len, List.all_eq_true]
  intro i hi
  have hi := List.mem_range.1 hi
  rw [bList_get hi, Bool.and_eq_true, Bool.or_eq_true, decide_eq_true_eq, decide_eq_true_eq, decide_eq_true_eq]
  refine ⟨rfl, ?_⟩
  by_cases h0 : i = 0
  · exact .inl h0
  · obtain ⟨j, rfl⟩ : ∃ j, i = j + 1 := ⟨i - 1, by omega⟩
    right
    rw [show j + 1 - 1 = j by omega, bList_get (show j < t.ct.toNat by omega)]
    have := dV_mono ht (c := c) (i := (j : Int) + 1) (by omega) (hd j (by omega)) (by have := hd (j + 1) hi; rwa [Int.natCast_add] at this)
    show dV t c _ ≤ dV t c _
    rw [Int.natCast_add]
    exact this
theorem bl_P {t : Tm} {c : Cl} (h : blE t c = 0) : Ln.P (blV t c) = t.pr := by
  obtain ⟨_, ht, hd, hp, _⟩ := bl_facts h
  have hpr := ht.pr
  rw [blV_ok h]
  unfold Ln.P
  rw [bl_sum, lf_end ht, show t.pr - 0 = t.pr by omega]
  exact Ln.wrap_in (by omega) (by omega)
theorem bl_I {t : Tm} {c : Cl} (h : blE t c = 0) : 0 ≤ Ln.I (blV t c) ∧ Ln.I (blV t c) ≤ 120000000000000 := by
  obtain ⟨_, ht, hd, hp, _⟩ := bl_facts h
  have hct := ht.ct
  rw [blV_ok h]
  have hx : ∀ x ∈ its (bList t c t.ct.toNat), 0 ≤ x ∧ x ≤ 1000000000000 := fun x hx => by
    obtain ⟨y, hy, rfl⟩ := List.mem_map.1 hx
    unfold bList at hy
    obtain ⟨i, hi, rfl⟩ := List.mem_map.1 hy
    exact (due_bd h (List.mem_range.1 hi)).2.2
  have h0 := Ln.sum_nonneg _ (fun x h => (hx x h).1)
  have h1 := Ln.sum_le _ 1000000000000 (fun x h => (hx x h).2)
  have hl : (its (bList t c t.ct.toNat)).length = t.ct.toNat := by unfold its; rw [List.length_map, bList_len]
  rw [hl] at h1
  unfold Ln.I
  rw [Ln.wrap_in (by omega) (by omega)]
  omega
/-- What is left behind the installments up to a number. -/
def rsW (p : Int) (ds : List Du) (n : Int) : Int := wrap64 (p - sum (prs (ds.filter fun d => decide (d.no ≤ n))))
theorem rsW_nil (p n : Int) : rsW p [] n = wrap64 p := by simp [rsW, prs, sum]
theorem wrap_sub (a b : Int) : wrap64 (wrap64 a - b) = wrap64 (a - b) := by unfold wrap64; omega
theorem rsW_succ {p n : Int} {ds : List Du} {k : Nat} (h : k < ds.length) : rsW p (ds.take (k + 1)) n = if ds[k]!.no ≤ n then wrap64 (rsW p (ds.take k) n - ds[k]!.pr) else rsW p (ds.take k) n := by
  unfold rsW prs
  rw [List.take_add_one, List.filter_append, List.map_append, sum_app, List.getElem?_eq_getElem h, getElem!_pos ds k h, wrap_sub]
  simp only [Option.toList_some, List.filter_cons, List.filter_nil]
  split
  · rename_i hh
    rw [if_pos (of_decide_eq_true hh)]
    congr 1
    simp [sum]
    omega
  · rename_i hh
    rw [if_neg (fun h => hh (decide_eq_true h))]
    simp [sum]
theorem bl_filter (t : Tm) (c : Cl) {i : Nat} : ∀ n : Nat, i ≤ n → (bList t c n).filter (fun d => decide (d.no ≤ (i : Int))) = bList t c i
  | 0, h => by
    obtain rfl : i = 0 := by omega
    rfl
  | n + 1, h => by
    rw [bList_succ, List.filter_append]
    by_cases hi : i ≤ n
    · rw [bl_filter t c n hi]
      have : decide ((duAt t c n).no ≤ (i : Int)) = false := decide_eq_false (by show ¬ ((n : Int) + 1 ≤ i); omega)
      simp [this]
    · obtain rfl : i = n + 1 := by omega
      rw [bList_succ, List.filter_eq_self.2]
      · have hno : (duAt t c n).no ≤ (n : Int) + 1 := Int.le_refl _
        simp [hno]
      · intro d hd
        unfold bList at hd
        obtain ⟨j, hj, rfl⟩ := List.mem_map.1 hd
        have := List.mem_range.1 hj
        exact decide_eq_true (by show (j : Int) + 1 ≤ _; omega)
theorem rs_bl {t : Tm} {c : Cl} (h : blE t c = 0) {i : Nat} (hi : i ≤ t.ct.toNat) : rsW t.pr (blV t c) i = lf t (payV t) i := by
  obtain ⟨_, ht, hd, hp, _⟩ := bl_facts h
  have hb := (lf_bd ht (ht.pay hp).1 i).1
  have hpr := ht.pr
  rw [blV_ok h]
  unfold rsW
  rw [bl_filter t c _ hi, bl_sum]
  rw [show t.pr - (t.pr - lf t (payV t) i) = lf t (payV t) i by omega]
  exact Ln.wrap_in (by omega) (by omega)
end Go.Proofs.YtmdjikmpgckpbaaDoor.Kl
