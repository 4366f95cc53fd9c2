/-
  Restructuring, plain: what Capital, Change, Terms and Check answer; new terms keep what they must.
-/
import Derived.Test.YtfiplppdmedhkaaDoorLdm
namespace Go.Proofs.YtfiplppdmedhkaaDoor.Ln
open Go Go.RowKit
open Go.Proofs.YtfiplppdmedhkaaDoor
open Go.Proofs.YtfiplppdmedhkaaDoor.Kl (Cl skE sk_ok blE blV bl_facts bl_len bl_each bl_ord bl_P bl_I)

/-- What is owed besides principal, of the parts. -/
def owP (ps : List Pa) : Int := sum ((ps.filter fun p => decide (p.kd ≠ 4)).map Pa.am)
def capN (l : Lo) (on : Int) : Int := wrap64 (wrap64 (P l.ds - l.pp) + owP (powed l on))
def capE (l : Lo) (on : Int) : Int := if l.st ≠ 1 then 17 else if ¬ (0 ≤ on ∧ on ≤ 73048) then 1 else if 1000000000000 < capN l on then 6 else 0
def capV (l : Lo) (on : Int) : Int := if capE l on = 0 then capN l on else 0
theorem owP_succ {ps : List Pa} {k : Nat} (h : k < ps.length) : owP (ps.take (k + 1)) = if ps[k]!.kd ≠ 4 then owP (ps.take k) + ps[k]!.am else owP (ps.take k) := by
  unfold owP
  rw [List.take_add_one, List.filter_append, List.map_append, sum_append, List.getElem?_eq_getElem h, getElem!_pos ps k h]
  by_cases hb : ps[k].kd ≠ 4
  · simp [hb, sum]
  · simp [hb, sum]
/-- What Change answers. -/
def badB (l : Lo) (t : Tm) (day : Int) : Bool := decide (t.stt ≠ day) || decide (t.pr ≠ capN l day) || decide (t.cur ≠ l.tm.cur) || (decide (0 < l.cs.length) && decide (day < l.cs[l.cs.length - 1]!.day))
noncomputable def chE (l : Lo) (t : Tm) (day : Int) (c : Cl) : Int :=
  if skE t c ≠ 0 then skE t c else if capE l day ≠ 0 then capE l day else if badB l t day = true then 1 else if 64 ≤ l.cs.length then 5 else blE t c
noncomputable def chO (l : Lo) (t : Tm) (day : Int) (c : Cl) : Lo := ⟨l.id, l.ac, l.st, 0, 0, 0, 0, max l.chg day, l.prov, l.loss, l.rcv, t, blV t c, l.cs ++ [⟨day, capN l day, l.tm⟩]⟩
noncomputable def chL (l : Lo) (t : Tm) (day : Int) (c : Cl) : Lo := if chE l t day c = 0 then chO l t day c else zLo
/-- The terms of a day. -/
def tmOn (tm : Tm) : List Ch → Int → Tm
  | [], _ => tm
  | x :: cs, day => if day < x.day then x.old else tmOn tm cs day
theorem tmOn_none {tm : Tm} {day : Int} : ∀ {cs : List Ch}, (∀ x ∈ cs, x.day ≤ day) → tmOn tm cs day = tm
  | [], _ => rfl
  | x :: cs, h => by
    unfold tmOn
    rw [if_neg (by have := h x (List.mem_cons_self ..); omega)]
    exact tmOn_none fun y hy => h y (List.mem_cons_of_mem _ hy)
theorem tmOn_app {tm tm' : Tm} {day : Int} {x : Ch} (hx : day < x.day) (ho : x.old = tm) : ∀ {cs : List Ch}, tmOn tm' (cs ++ [x]) day = tmOn tm cs day
  | [] => by
    show (if day < x.day then x.old else tm') = tm
    rw [if_pos hx, ho]
  | y :: cs => by
    show (if day < y.day then y.old else tmOn tm' (cs ++ [x]) day) = (if day < y.day then y.old else tmOn tm cs day)
    rw [tmOn_app hx ho]
/-- The place of the first change behind a day. -/
theorem tmOn_at {tm : Tm} {day : Int} : ∀ {cs : List Ch} {i : Nat}, i < cs.length → (∀ j, j < i → cs[j]!.day ≤ day) → day < cs[i]!.day → tmOn tm cs day = cs[i]!.old
  | [], _, h, _, _ => absurd h (Nat.not_lt_zero _)
  | x :: cs, 0, _, _, h => by
    show (if day < x.day then x.old else _) = x.old
    exact if_pos h
  | x :: cs, i + 1, h, hb, ha => by
    show (if day < x.day then x.old else tmOn tm cs day) = _
    rw [if_neg (by have := hb 0 (by omega); exact Int.not_lt.2 this)]
    exact tmOn_at (cs := cs) (i := i) (by simpa using h) (fun j hj => by have := hb (j + 1) (by omega); simpa using this) (by simpa using ha)
theorem tmOn_no {tm : Tm} {day : Int} {cs : List Ch} (h : ∀ j, j < cs.length → cs[j]!.day ≤ day) : tmOn tm cs day = tm :=
  tmOn_none fun x hx => by
    obtain ⟨j, hj, rfl⟩ := List.mem_iff_getElem.1 hx
    have := h j hj
    rwa [getElem!_pos cs j hj] at this
/-- The changes are in order. -/
def chgB (cs : List Ch) (i : Nat) : Bool := decide (0 ≤ cs[i]!.day ∧ cs[i]!.day ≤ 73048) && decide (1 ≤ cs[i]!.amt ∧ cs[i]!.amt ≤ 1000000000000) && (decide (i = 0) || decide (cs[i - 1]!.day ≤ cs[i]!.day))
def chgsB (cs : List Ch) : Bool := (List.range cs.length).all (chgB cs)
theorem chgsB_yes {cs : List Ch} (h : ∀ i, i < cs.length → chgB cs i = true) : chgsB cs = true := by
  unfold chgsB
  rw [List.all_eq_true]
  exact fun x hx => h x (List.mem_range.1 hx)
theorem chgsB_no {cs : List Ch} {i : Nat} (hi : i < cs.length) (h : chgB cs i = false) : chgsB cs = false := by
  unfold chgsB
  rw [List.all_eq_false]
  exact ⟨i, List.mem_range.2 hi, by simp [h]⟩
theorem chgsB_at {cs : List Ch} (h : chgsB cs = true) {i : Nat} (hi : i < cs.length) : chgB cs i = true := by
  unfold chgsB at h
  rw [List.all_eq_true] at h
  exact h i (List.mem_range.2 hi)
theorem chgs_le {cs : List Ch} (h : chgsB cs = true) : ∀ (j i : Nat), i + j < cs.length → cs[i]!.day ≤ cs[i + j]!.day
  | 0, i, _ => Int.le_refl _
  | j + 1, i, hj => by
    have ih := chgs_le h j i (by omega)
    have := chgsB_at h hj
    unfold chgB at this
    simp only [Bool.and_eq_true, Bool.or_eq_true, decide_eq_true_eq] at this
    have h3 := this.2
    rw [show i + (j + 1) - 1 = i + j by omega] at h3
    omega
theorem chg_parts {l : Lo} {t : Tm} {day : Int} {c : Cl} (h : chE l t day c = 0) : skE t c = 0 ∧ capE l day = 0 ∧ badB l t day = false ∧ l.cs.length < 64 ∧ blE t c = 0 := by
  unfold chE at h
  split at h
  · rename_i hs; exact absurd h hs
  rename_i hs
  split at h
  · rename_i hc; exact absurd h hc
  rename_i hc
  split at h
  · cases h
  rename_i hb
  split at h
  · cases h
  rename_i hl
  exact ⟨Classical.byContradiction hs, Classical.byContradiction hc, by simpa using hb, by omega, h⟩
theorem bad_parts {l : Lo} {t : Tm} {day : Int} (h : badB l t day = false) : t.stt = day ∧ t.pr = capN l day ∧ t.cur = l.tm.cur ∧ (0 < l.cs.length → l.cs[l.cs.length - 1]!.day ≤ day) := by
  unfold badB at h
  simp only [Bool.or_eq_false_iff, Bool.and_eq_false_iff, decide_eq_false_iff_not] at h
  obtain ⟨⟨⟨h1, h2⟩, h3⟩, h4⟩ := h
  exact ⟨Classical.byContradiction h1, Classical.byContradiction h2, Classical.byContradiction h3, fun h0 => by rcases h4 with h4 | h4; exact absurd h0 h4; omega⟩
theorem cap_parts {l : Lo} {day : Int} (h : capE l day = 0) : l.st = 1 ∧ (0 ≤ day ∧ day ≤ 73048) ∧ capN l day ≤ 1000000000000 := by
  unfold capE at h
  split at h
  · cases h
  rename_i h1
  split at h
  · cases h
  rename_i h2
  split at h
  · cases h
  rename_i h3
  exact ⟨Classical.byContradiction h1, Classical.byContradiction h2, by omega⟩
/-- The loan with new terms is accepted. -/
theorem chg_ok {l : Lo} {t : Tm} {day : Int} {c : Cl} (hk : chk l = 0) (h : chE l t day c = 0) : chk (chO l t day c) = 0 ∧ P (chO l t day c).ds = capN l day := by
  obtain ⟨hs, hc, hb, hn, hbl⟩ := chg_parts h
  obtain ⟨h1, h2, h3, h4⟩ := bad_parts hb
  obtain ⟨c1, c2, c3⟩ := cap_parts hc
  obtain ⟨_, ht, _, _, _⟩ := bl_facts hbl
  have hO := ok_iff.1 hk
  have hct := ht.ct
  have hpr := ht.pr
  have hP : P (chO l t day c).ds = t.pr := bl_P hbl
  have hlf : leftB (chO l t day c) = true := by
    unfold leftB
    rw [hP]
    have : decide ((chO l t day c).pp ≠ t.pr) = true := decide_eq_true (by show (0 : Int) ≠ t.pr; omega)
    rw [this]
    rfl
  have hd := hO.chg
  unfold dayB at hd
  have hd' := of_decide_eq_true hd
  have hlo := hO.los
  have hl0 : l.loss = 0 ∧ l.rcv = 0 := by rcases hlo with e | e; omega; exact e
  refine ⟨ok_iff.2 ⟨hO.id, hO.ac, hO.st1, hO.st3, Int.le_refl _, Int.le_refl _, hO.rcv, ?_, decide_eq_true ht.pn, decide_eq_true ht.fe, ?_, ?_, ?_, rfl, rfl, hO.prov, hO.loss, bl_each hbl, bl_ord hbl, ?_, ?_, hO.rcv', .inl ?_, .inr ?_, .inr hl0⟩, by rw [hP, h2]⟩
  · exact decide_eq_true (by show 0 ≤ max l.chg day ∧ max l.chg day ≤ 73048; omega)
  · show 1 ≤ (blV t c).length; rw [bl_len hbl]; omega
  · show (blV t c).length ≤ 240; rw [bl_len hbl]; omega
  · show (l.cs ++ [_]).length ≤ 64; rw [List.length_append]; show l.cs.length + 1 ≤ 64; omega
  · rw [hP]; show (0 : Int) ≤ t.pr; omega
  · exact (bl_I hbl).1
  · show (l.cs ++ [_]).length ≠ 0; simp
  · rw [hlf]; show true = decide (l.st = 1); rw [c1]; rfl
/-- The changes stay in order, and the terms of a day are kept. -/
theorem chg_keeps {l : Lo} {t : Tm} {c : Cl} (ho : chgsB l.cs = true) (h : chE l t t.stt c = 0) : chgsB (chO l t t.stt c).cs = true ∧ tmOn t (chO l t t.stt c).cs t.stt = t ∧ tmOn t (chO l t t.stt c).cs (t.stt - 1) = tmOn l.tm l.cs (t.stt - 1) := by
  obtain ⟨hs, hc, hb, hn, hbl⟩ := chg_parts h
  obtain ⟨_, h2, _, h4⟩ := bad_parts hb
  obtain ⟨c1, c2, c3⟩ := cap_parts hc
  obtain ⟨_, ht, _, _, _⟩ := bl_facts hbl
  have hpr := ht.pr
  have hle : ∀ j, j < l.cs.length → l.cs[j]!.day ≤ t.stt := fun j hj => by
    have h1 := chgs_le ho (l.cs.length - 1 - j) j (by omega)
    rw [show j + (l.cs.length - 1 - j) = l.cs.length - 1 by omega] at h1
    have := h4 (by omega)
    omega
  have hget : ∀ j, j < l.cs.length → (l.cs ++ [(⟨t.stt, capN l t.stt, l.tm⟩ : Ch)])[j]! = l.cs[j]! := fun j hj => by
    rw [getElem!_pos _ j (by simp; omega), getElem!_pos l.cs j hj, List.getElem_append_left hj]
  have hlast : (l.cs ++ [(⟨t.stt, capN l t.stt, l.tm⟩ : Ch)])[l.cs.length]! = ⟨t.stt, capN l t.stt, l.tm⟩ := by
    rw [getElem!_pos _ _ (by simp), List.getElem_append_right (Nat.le_refl _)]
    simp
  refine ⟨chgsB_yes fun i hi => ?_, tmOn_no fun j hj => ?_, tmOn_app (by show t.stt - 1 < t.stt; omega) rfl⟩
  · have hi' : i < l.cs.length + 1 := by
      have : i < (l.cs ++ [(⟨t.stt, capN l t.stt, l.tm⟩ : Ch)]).length := hi
      simpa using this
    show chgB (l.cs ++ [(⟨t.stt, capN l t.stt, l.tm⟩ : Ch)]) i = true
    by_cases hin : i < l.cs.length
    · have := chgsB_at ho hin
      unfold chgB at this ⊢
      rw [hget i hin]
      by_cases h0 : i = 0
      · subst h0
        simpa using this
      · rw [hget (i - 1) (by omega)]
        exact this
    · obtain rfl : i = l.cs.length := by omega
      unfold chgB
      rw [hlast]
      simp only [Bool.and_eq_true, Bool.or_eq_true, decide_eq_true_eq]
      refine ⟨⟨c2, by omega⟩, ?_⟩
      by_cases h0 : l.cs.length = 0
      · exact .inl h0
      · right
        rw [hget _ (by omega)]
        exact hle _ (by omega)
  · have hj' : j < l.cs.length + 1 := by
      have : j < (l.cs ++ [(⟨t.stt, capN l t.stt, l.tm⟩ : Ch)]).length := hj
      simpa using this
    show (l.cs ++ [(⟨t.stt, capN l t.stt, l.tm⟩ : Ch)])[j]!.day ≤ t.stt
    by_cases hin : j < l.cs.length
    · rw [hget j hin]; exact hle j hin
    · obtain rfl : j = l.cs.length := by omega
      rw [hlast]
      exact Int.le_refl _
end Go.Proofs.YtfiplppdmedhkaaDoor.Ln
