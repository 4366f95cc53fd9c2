/-
  What the program's take uses, kind by kind; plain.
-/
import Derived.Test.YtfiplppdmedhkaaGreatDoorLp2
namespace Go.Proofs.YtfiplppdmedhkaaGreatDoor.Ln
open Go.RowKit
open Go.Proofs.YtfiplppdmedhkaaGreatDoor
set_option maxRecDepth 100000

theorem find_pp (k : Int) : ∀ l : List Pa, (pparts l).find? (fun p => p.kd == k) = l.find? (fun p => decide (0 < p.am) && p.kd == k) := by
  intro l
  unfold pparts
  rw [List.find?_filter]
  congr 1
  funext p
  simp
  rfl
theorem takeN_one {n o : Int} (hn : 0 ≤ n) : (if 0 < o then min n o else 0) = give n o := by
  unfold give pos
  split <;> (repeat' split) <;> omega
theorem takeN_1 (l : Lo) (on : Int) {n : Int} (hn : 0 ≤ n) : takeN (powed l on) 1 n = give n l.fee := by
  rw [← takeN_one hn]; unfold takeN powed; rw [find_pp]
  by_cases h : 0 < l.fee <;> simp [h, List.find?]
theorem takeN_2 (l : Lo) (on : Int) {n : Int} (hn : 0 ≤ n) : takeN (powed l on) 2 n = give n l.pen := by
  rw [← takeN_one hn]; unfold takeN powed; rw [find_pp]
  by_cases h : 0 < l.pen <;> simp [h, List.find?]
theorem takeN_3 (l : Lo) (on : Int) {n : Int} (hn : 0 ≤ n) : takeN (powed l on) 3 n = give n (oI l on) := by
  rw [← takeN_one hn]; unfold takeN powed; rw [find_pp]
  by_cases h : 0 < oI l on <;> simp [h, List.find?]
theorem takeN_4 (l : Lo) (on : Int) {n : Int} (hn : 0 ≤ n) : takeN (powed l on) 4 n = give n (oP l on) := by
  rw [← takeN_one hn]; unfold takeN powed; rw [find_pp]
  by_cases h : 0 < oP l on <;> simp [h, List.find?]
theorem give_nil {n o : Int} (hn : 0 ≤ n) (ho : ¬0 < o) : give n o = 0 := by rw [← takeN_one hn, if_neg ho]
theorem first_cases (l : Lo) (on : Int) : (firstK (powed l on) = 1) ∨ (firstK (powed l on) = 2 ∧ ¬0 < l.fee) ∨ (firstK (powed l on) = 3 ∧ ¬0 < l.fee ∧ ¬0 < l.pen) ∨ (firstK (powed l on) = 4 ∧ ¬0 < l.fee ∧ ¬0 < l.pen ∧ ¬0 < oI l on) ∨ (firstK (powed l on) = 5 ∧ ¬0 < l.fee ∧ ¬0 < l.pen ∧ ¬0 < oI l on ∧ ¬0 < oP l on) := by
  unfold powed pparts
  by_cases h1 : 0 < l.fee
  · exact .inl (by simp [h1, firstK])
  · by_cases h2 : 0 < l.pen
    · exact .inr (.inl ⟨by simp [h1, h2, firstK], h1⟩)
    · by_cases h3 : 0 < oI l on
      · exact .inr (.inr (.inl ⟨by simp [h1, h2, h3, firstK], h1, h2⟩))
      · by_cases h4 : 0 < oP l on
        · exact .inr (.inr (.inr (.inl ⟨by simp [h1, h2, h3, h4, firstK], h1, h2, h3⟩)))
        · exact .inr (.inr (.inr (.inr ⟨by simp [h1, h2, h3, h4, firstK], h1, h2, h3, h4⟩)))
end Go.Proofs.YtfiplppdmedhkaaGreatDoor.Ln
