/-
  A payment as the reference distributes it, part by part: the same as the distribution at once; plain.
-/
import Derived.Test.YtfiplppdmedhkaaGreatDoorLc
namespace Go.Proofs.YtfiplppdmedhkaaGreatDoor.Ln
open Go.RowKit
open Go.Proofs.YtfiplppdmedhkaaGreatDoor

/-- The reference's loop: what is left of the payment, the loan, the parts. -/
def payGo : List Pa → Int → Lo → List Pa → Int × Lo × List Pa
  | [], n, L, out => (n, L, out)
  | p :: ps, n, L, out => if 0 < n then payGo ps (n - min n p.am) (L.app ⟨p.kd, min n p.am⟩) (out ++ [⟨p.kd, min n p.am⟩]) else (n, L, out)
theorem payGo_zero (ps : List Pa) (L : Lo) (out : List Pa) : payGo ps 0 L out = (0, L, out) := by
  cases ps with
  | nil => rfl
  | cons p ps => unfold payGo; rw [if_neg (by omega)]
theorem app_zero (L : Lo) (k : Int) : L.app ⟨k, 0⟩ = L := by
  unfold Lo.app
  simp only [Int.sub_zero, Int.add_zero]
  split <;> (try split) <;> (try split) <;> rfl
theorem payGo_seg {n : Int} (hn : 0 ≤ n) (k o : Int) (ps : List Pa) (L : Lo) (out : List Pa) : payGo (pparts [⟨k, o⟩] ++ ps) n L out = payGo ps (n - give n o) (L.app ⟨k, give n o⟩) (out ++ pparts [⟨k, give n o⟩]) := by
  by_cases ho : 0 < o
  · have e : pparts [⟨k, o⟩] = [⟨k, o⟩] := by simp [pparts, ho]
    rw [e, give_min ho]
    by_cases h0 : 0 < n
    · have e2 : pparts [⟨k, min n o⟩] = [⟨k, min n o⟩] := by simp [pparts]; omega
      rw [e2]
      show payGo (⟨k, o⟩ :: ps) n L out = _
      conv => lhs; unfold payGo
      rw [if_pos h0]
    · have h1 : n = 0 := by omega
      subst h1
      have e3 : min (0 : Int) o = 0 := by omega
      rw [e3, app_zero, Int.sub_zero, payGo_zero, payGo_zero]
      simp [pparts]
  · have e : pparts [⟨k, o⟩] = [] := by simp [pparts]; omega
    rw [e, give_none (by omega) hn, app_zero, Int.sub_zero]
    simp [pparts]
theorem pparts_app (a b : List Pa) : pparts (a ++ b) = pparts a ++ pparts b := by unfold pparts; exact List.filter_append ..
/-- All parts of what is owed: what the reference's loop leaves. -/
theorem payGo_all {l : Lo} {n : Int} (hn : 0 ≤ n) (on : Int) : payGo (powed l on) n l [] = ((payD l n on).r, l.take (payD l n on), pparts [⟨1, (payD l n on).a⟩, ⟨2, (payD l n on).b⟩, ⟨3, (payD l n on).c⟩, ⟨4, (payD l n on).d⟩]) := by
  have e : powed l on = pparts [⟨1, l.fee⟩] ++ (pparts [⟨2, l.pen⟩] ++ (pparts [⟨3, oI l on⟩] ++ (pparts [⟨4, oP l on⟩] ++ []))) := by
    unfold powed
    rw [List.append_nil, ← pparts_app, ← pparts_app, ← pparts_app]
    rfl
  have g1 := give_bd (o := l.fee) hn
  have g2 := give_bd (n := n - give n l.fee) (o := l.pen) (by omega)
  have g3 := give_bd (n := n - give n l.fee - give (n - give n l.fee) l.pen) (o := oI l on) (by omega)
  rw [e, payGo_seg hn, payGo_seg (by omega), payGo_seg (by omega), payGo_seg (by omega)]
  unfold payD dist
  generalize give n l.fee = a at *
  generalize give (n - a) l.pen = b at *
  generalize give (n - a - b) (oI l on) = c at *
  generalize give (n - a - b - c) (oP l on) = d at *
  show (n - a - b - c - d, _, _) = _
  have e2 : ([] ++ pparts [⟨1, a⟩] ++ pparts [⟨2, b⟩] ++ pparts [⟨3, c⟩] ++ pparts [⟨4, d⟩] : List Pa) = pparts [⟨1, a⟩, ⟨2, b⟩, ⟨3, c⟩, ⟨4, d⟩] := by
    rw [List.nil_append, ← pparts_app, ← pparts_app, ← pparts_app]
    rfl
  rw [e2]
  rfl
/-- The parts, the rest among them. -/
theorem pps_eq (x : Dist) : x.pps = pparts [⟨1, x.a⟩, ⟨2, x.b⟩, ⟨3, x.c⟩, ⟨4, x.d⟩] ++ pparts [⟨5, x.r⟩] := by
  unfold Dist.pps
  rw [← pparts_app]
  rfl
end Go.Proofs.YtfiplppdmedhkaaGreatDoor.Ln
