/-
  Restructuring, plain: what Capital, Change, Terms and Check answer; new terms keep what they must.
-/
import Derived.Test.YtfiplppdmedhkaaGreatDoorLdm
namespace Go.Proofs.YtfiplppdmedhkaaGreatDoor.Ln
open Go Go.RowKit
open Go.Proofs.YtfiplppdmedhkaaGreatDoor
open Go.Proofs.YtfiplppdmedhkaaGreatDoor.Kl (Cl skE sk_ok blE blV bl_facts bl_len bl_each bl_ord bl_P bl_I)

/-- What is owed besides principal, of the parts. -/
def owP (ps : List Pa) : Int := sum ((ps.filter fun p => decide (p.kd ≠ 4)).map Pa.am)
def capN (l : Lo) (on : Int) : Int := wrap64 (wrap64 (P l.ds - l.pp) + owP (powed l on))
def capE (l : Lo) (on : Int) : Int := if l.st ≠ 1 then 17 else if ¬ (0 ≤ on ∧ on ≤ 73048) then 1 else if 1000000000000 < capN l on then 6 else 0
def capV (l : Lo) (on : Int) : Int := if capE l on = 0 then capN l on else 0
theorem owP_succ {ps : List Pa} {k : Nat} (h : k < ps.length) : owP (ps.take (k + 1)) = if ps[k]!.kd ≠ 4 then owP (ps.take k) + ps[k]!.am else owP (ps.take k) := by
  unfold owP
  rw [List.take_add_one, List.filter_append, List.map_append, sum_append, List.getElem?_eq_getElem h, getElem!_pos ps k h]
  by_cases hb : ps[k].kd ≠ 4
  · simp [hb, sum]
  · simp [hb, sum]
/-- What Change answers. -/
def badB (l : Lo) (t : Tm) (day : Int) : Bool := decide (t.stt ≠ day) || decide (t.pr ≠ capN l day) || decide (t.cur ≠ l.tm.cur) || (decide (0 < l.cs.length) && decide (day < l.cs[l.cs.length - 1]!.day))
noncomputable def chE (l : Lo) (t : Tm) (day : Int) (c : Cl) : Int :=
  if skE t c ≠ 0 then skE t c else if capE l day ≠ 0 then capE l day else if badB l t day = true then 1 else if 64 ≤ l.cs.length then 5 else blE t c
noncomputable def chO (l : Lo) (t : Tm) (day : Int) (c : Cl) : Lo := ⟨l.id, l.ac, l.st, 0, 0, 0, 0, max l.chg day, l.prov, l.loss, l.rcv, t, blV t c, l.cs ++ [⟨day, capN l day, l.tm⟩]⟩
noncomputable def chL (l : Lo) (t : Tm) (day : Int) (c : Cl) : Lo := if chE l t day c = 0 then chO l t day c else zLo
/-- The terms of a day. -/
def tmOn (tm : Tm) : List Ch → Int → Tm
  | [], _ => tm
  | x :: cs, day => if day < x.day then x.old else tmOn tm cs day
theorem tmOn_none {tm : Tm} {day : Int} : ∀ {cs : List Ch}, (∀ x ∈ cs, x.day ≤ day) → tmOn tm cs day = tm
  | [], _ => rfl
  | x :: cs, h => by
    unfold tmOn
    rw [if_neg (by have := h x (List.mem_cons_self ..); omega)]
    exact tmOn_none fun y hy => h y (List.mem_cons_of_mem _ hy)
/-- The place of the first change behind a day. -/
theorem tmOn_at {tm : Tm} {day : Int} : ∀ {cs : List Ch} {i : Nat}, i < cs.length → (∀ j, j < i → cs[j]!.day ≤ day) → day < cs[i]!.day → tmOn tm cs day = cs[i]!.old
  | [], _, h, _, _ => absurd h (Nat.not_lt_zero _)
  | x :: cs, 0, _, _, h => by
    show (if day < x.day then x.old else _) = x.old
    exact if_pos h
  | x :: cs, i + 1, h, hb, ha => by
    show (if day < x.day then x.old else tmOn tm cs day) = _
    rw [if_neg (by have := hb 0 (by omega); exact Int.not_lt.2 this)]
    exact tmOn_at (cs := cs) (i := i) (by simpa using h) (fun j hj => by have := hb (j + 1) (by omega); simpa using this) (by simpa using ha)
theorem tmOn_no {tm : Tm} {day : Int} {cs : List Ch} (h : ∀ j, j < cs.length → cs[j]!.day ≤ day) : tmOn tm cs day = tm :=
  tmOn_none fun x hx => by
    obtain ⟨j, hj, rfl⟩ := List.mem_iff_getElem.1 hx
    have := h j hj
    rwa [getElem!_pos cs j hj] at this
/-- The changes are in order. -/
def chgB (cs : List Ch) (i : Nat) : Bool := decide (0 ≤ cs[i]!.day ∧ cs[i]!.day ≤ 73048) && decide (1 ≤ cs[i]!.amt ∧ cs[i]!.amt ≤ 1000000000000) && (decide (i = 0) || decide (cs[i - 1]!.day ≤ cs[i]!.day))
def chgsB (cs : List Ch) : Bool := (List.range cs.length).all (chgB cs)
theorem chgsB_yes {cs : List Ch} (h : ∀ i, i < cs.length → chgB cs i = true) : chgsB cs = true := by
  unfold chgsB
  rw [List.all_eq_true]
  exact fun x hx => h x (List.mem_range.1 hx)
theorem chgsB_no {cs : List Ch} {i : Nat} (hi : i < cs.length) (h : chgB cs i = false) : chgsB cs = false := by
  unfold chgsB
  rw [List.all_eq_false]
  exact ⟨i, List.mem_range.2 hi, by simp [h]⟩
theorem chg_parts {l : Lo} {t : Tm} {day : Int} {c : Cl} (h : chE l t day c = 0) : skE t c = 0 ∧ capE l day = 0 ∧ badB l t day = false ∧ l.cs.length < 64 ∧ blE t c = 0 := by
  unfold chE at h
  split at h
  · rename_i hs; exact absurd h hs
  rename_i hs
  split at h
  · rename_i hc; exact absurd h hc
  rename_i hc
  split at h
  · cases h
  rename_i hb
  split at h
  · cases h
  rename_i hl
  exact ⟨Classical.byContradiction hs, Classical.byContradiction hc, by simpa using hb, by omega, h⟩
end Go.Proofs.YtfiplppdmedhkaaGreatDoor.Ln
