/-
  Schedules, plain: the examples that every statement of this chapter requires.
-/
import Derived.Test.YtaanicginfjgdaaDoorSma
import Derived.Test.YtaanicginfjgdaaDoorAnm
namespace Go.Proofs.YtaanicginfjgdaaDoor.Kl
open Go Go.RowKit
open Go.Proofs.YtaanicginfjgdaaDoor
open Go.Proofs.YtaanicginfjgdaaDoor.Cal
open Go.Proofs.YtaanicginfjgdaaDoor.Ln (Tm Du)
open Go.Proofs.YtaanicginfjgdaaDoor.An (intr Least enough enough_mono)

set_option maxRecDepth 100000
def hmB : ByteArray := { data := #[104, 111, 109, 101] }
def euB : ByteArray := { data := #[69, 85, 82] }
/-- The example's calendar and terms. -/
def cl0 : Cl := ⟨hmB, [], []⟩
def tm0 (m : Int) : Tm := ⟨m, 1000, 120000, 30, 1, 3, 0, 6, 0, 0, hmB, euB⟩
theorem open0 (d : Int) : openB cl0 d = dOk d := by
  show (dOk d && !hasB [] _ && !hasB [] d) = dOk d
  simp [hasB, upto]
theorem nxt0 {d : Int} (h0 : 0 ≤ d) (h1 : d ≤ 73048) : nxt cl0 d = some d := by
  unfold nxt
  obtain ⟨n, hn⟩ : ∃ n, (73049 - d).toNat = n + 1 := ⟨(73049 - d).toNat - 1, by omega⟩
  rw [hn]
  unfold up
  rw [open0, dOk_yes h0 h1]
  rfl
theorem adj0 {d : Int} (h0 : 0 ≤ d) (h1 : d ≤ 73048) : adj cl0 d = some d := by
  unfold adj
  rw [nxt0 h0 h1]
  exact if_pos (mend_bd h0 h1).1
theorem civ30 : cy 30 = 2000 ∧ cm 30 = 1 ∧ ck 30 = 31 := civ_eq ⟨by decide, by decide, by decide, by decide, by decide, by decide, by decide⟩
theorem add30 {i x : Int} (h0 : 0 ≤ i) (h1 : i < 10) (hx : begin_ 2000 + cum 2000 (i + 1) + min 31 (mlen 2000 (i + 1)) - 1 = x) : addM 30 i 31 = some x := by
  have c := civ30
  unfold addM
  rw [c.1, c.2.1, if_pos (by omega)]
  rw [show (12 * 2000 + 1 - 1 + i) / 12 = (2000 : Int) by omega, show (12 * 2000 + 1 - 1 + i) % 12 = i by omega, hx]
theorem day0 {m i x : Int} (h0 : 0 ≤ i) (h1 : i < 10) (hx : begin_ 2000 + cum 2000 (i + 1) + min 31 (mlen 2000 (i + 1)) - 1 = x) (x0 : 0 ≤ x) (x1 : x ≤ 73048) : dE (tm0 m) cl0 i = 0 ∧ dV (tm0 m) cl0 i = x := by
  have ha := add30 h0 h1 hx
  have e : addM (tm0 m).stt (i * (tm0 m).ev) (ck (tm0 m).stt) = some x := by
    show addM 30 (i * 1) (ck 30) = some x
    rw [civ30.2.2, Int.mul_one, ha]
  unfold dE dV
  rw [e]
  show oE (adj cl0 x) 11 = 0 ∧ oV (adj cl0 x) = x
  rw [adj0 x0 x1]
  exact ⟨rfl, rfl⟩
theorem days0 (m : Int) : dE (tm0 m) cl0 1 = 0 ∧ dV (tm0 m) cl0 1 = 59 := day0 (by decide) (by decide) (by decide) (by decide) (by decide)
theorem days1 (m : Int) : dE (tm0 m) cl0 2 = 0 ∧ dV (tm0 m) cl0 2 = 90 := day0 (by decide) (by decide) (by decide) (by decide) (by decide)
theorem days2 (m : Int) : dE (tm0 m) cl0 3 = 0 ∧ dV (tm0 m) cl0 3 = 120 := day0 (by decide) (by decide) (by decide) (by decide) (by decide)
theorem sk0 {m : Int} (h : m = 1 ∨ m = 2) : skE (tm0 m) cl0 = 0 := by
  rcases h with rfl | rfl <;> decide +kernel
theorem dse0 {m : Int} (h : m = 1 ∨ m = 2) : daysE (tm0 m) cl0 = 0 := by
  unfold daysE
  rw [if_pos (sk0 h)]
  show (if (if (if (0 : Int) = 0 then dE (tm0 m) cl0 1 else 0) = 0 then dE (tm0 m) cl0 2 else (if (0 : Int) = 0 then dE (tm0 m) cl0 1 else 0)) = 0 then dE (tm0 m) cl0 3 else _) = 0
  rw [if_pos rfl, (days0 m).1, if_pos rfl, (days1 m).1, if_pos rfl, (days2 m).1]
theorem least340 : Least (120000 * 1) 6 3 1000 0 340 := by
  refine ⟨⟨by decide, by decide⟩, by decide +kernel, fun y hy0 hy1 => ?_⟩
  cases he : enough (120000 * 1) 6 3 1000 0 y with
  | false => rfl
  | true =>
    have := enough_mono (c := 120000 * 1) (pay := 339) ⟨by decide, by decide⟩ (by decide) (by decide) hy0 (by omega) he
    rw [show enough (120000 * 1) 6 3 1000 0 339 = false by decide +kernel] at this
    cases this
theorem pay0 : payE (tm0 1) = 0 ∧ payV (tm0 1) = 340 := by
  refine ⟨?_, ?_⟩
  · show (if enough (120000 * 1) 6 3 1000 0 1000000000000 then (0 : Int) else 6) = 0
    decide +kernel
  · show pyV (tm0 1) = 340
    exact pyV_eq least340
theorem pay2 : payE (tm0 2) = 0 ∧ payV (tm0 2) = 0 := ⟨rfl, rfl⟩
theorem bl1_ok : blE (tm0 1) cl0 = 0 := by unfold blE; rw [if_pos (dse0 (.inl rfl)), pay0.1]
theorem bl2_ok : blE (tm0 2) cl0 = 0 := by unfold blE; rw [if_pos (dse0 (.inr rfl)), pay2.1]
def l10 : List Du := [⟨1, 59, 330, 10⟩, ⟨2, 90, 333, 7⟩, ⟨3, 120, 337, 3⟩]
def l20 : List Du := [⟨1, 59, 334, 10⟩, ⟨2, 90, 333, 7⟩, ⟨3, 120, 333, 3⟩]
theorem du_at {m pay x : Int} {i : Nat} {d : Du} (hp : payV (tm0 m) = pay) (hx : dV (tm0 m) cl0 ((i : Int) + 1) = x) (hd : (⟨(i : Int) + 1, x, prt (tm0 m) pay i (lf (tm0 m) pay i), intr (120000 * 1) 6 (lf (tm0 m) pay i)⟩ : Du) = d) : duAt (tm0 m) cl0 i = d := by
  unfold duAt
  rw [hp, hx]
  exact hd
theorem bl1_eq : blV (tm0 1) cl0 = l10 := by
  rw [blV_ok bl1_ok]
  show [duAt (tm0 1) cl0 0, duAt (tm0 1) cl0 1, duAt (tm0 1) cl0 2] = l10
  rw [du_at pay0.2 (days0 1).2 (d := ⟨1, 59, 330, 10⟩) (by kernel_rfl), du_at pay0.2 (days1 1).2 (d := ⟨2, 90, 333, 7⟩) (by kernel_rfl), du_at pay0.2 (days2 1).2 (d := ⟨3, 120, 337, 3⟩) (by kernel_rfl)]
  rfl
theorem bl2_eq : blV (tm0 2) cl0 = l20 := by
  rw [blV_ok bl2_ok]
  show [duAt (tm0 2) cl0 0, duAt (tm0 2) cl0 1, duAt (tm0 2) cl0 2] = l20
  rw [du_at pay2.2 (days0 2).2 (d := ⟨1, 59, 334, 10⟩) (by kernel_rfl), du_at pay2.2 (days1 2).2 (d := ⟨2, 90, 333, 7⟩) (by kernel_rfl), du_at pay2.2 (days2 2).2 (d := ⟨3, 120, 333, 3⟩) (by kernel_rfl)]
  rfl
theorem rs10 : rsW 1000 l10 1 = 670 := by decide +kernel
theorem tot10 : Ln.P l10 = 1000 ∧ Ln.I l10 = 20 := by decide +kernel
theorem un10 : (Ln.due l10 90).length = 2 := by decide +kernel
theorem sk5 : skE (tm0 5) cl0 = 1 := by decide +kernel
end Go.Proofs.YtaanicginfjgdaaDoor.Kl
