/-
  The contracts of the functions of package date, and of the reference's: what each call returns, for every argument that the contract names.
  The contracts of the functions of package date, and of the reference's, continued: lengths, Civil, Day.
  The contracts of Civil and Day, the program's and the reference's.
  The contracts of the reference's Civil, and of Day, the program's and the reference's.
-/
import Derived.Test.YtaanicginfjgdaaDoorRows
import Derived.Test.YtaanicginfjgdaaDoorCal
import Derived.WalkKit
import Derived.WalkSpells
import Derived.WalkLawsBesides
import Derived.Lib.Hide
namespace Go.Proofs.YtaanicginfjgdaaDoor.Dt
open Go.RowKit
open Go.Proofs.YtaanicginfjgdaaDoor.Cal

theorem ret_int {k : IntKind} {a b : Int} (h : a = b) : Ending.returned (.int k a) = .returned (.int k b) := by rw [h]
theorem ret_bool {a b : Bool} (h : a = b) : Ending.returned (.bool a) = .returned (.bool b) := by rw [h]

/-! ### Valid -/
theorem valid_yes (d : Int) (w : World) (h0 : 0 ≤ d) (h1 : d ≤ 73048) : Calls Tryd.prog 48 #[.int .i64 d] w fun e w' => e = .returned (.bool true) ∧ w = w' := by
  go_enter Tryd.func48, Tryd.ntmps48
  go_wp2
  go_ret
  exact ⟨rfl, rfl⟩
theorem valid_no (d : Int) (w : World) (h : d < 0 ∨ 73048 < d) : Calls Tryd.prog 48 #[.int .i64 d] w fun e w' => e = .returned (.bool false) ∧ w = w' := by
  rcases h with h | h
  · go_enter Tryd.func48, Tryd.ntmps48
    go_wp2
    go_ret
    exact ⟨rfl, rfl⟩
  · go_enter Tryd.func48, Tryd.ntmps48
    go_wp2
    go_ret
    exact ⟨ret_bool (by simp; omega), rfl⟩
theorem rvalid_yes (d : Int) (w : World) (h0 : 0 ≤ d) (h1 : d ≤ 73048) : Calls Tryd.prog 46 #[.int .i64 d] w fun e w' => e = .returned (.bool true) ∧ w = w' := by
  go_enter Tryd.func46, Tryd.ntmps46
  go_wp2
  go_ret
  exact ⟨rfl, rfl⟩
theorem rvalid_no (d : Int) (w : World) (h : d < 0 ∨ 73048 < d) : Calls Tryd.prog 46 #[.int .i64 d] w fun e w' => e = .returned (.bool false) ∧ w = w' := by
  rcases h with h | h
  · go_enter Tryd.func46, Tryd.ntmps46
    go_wp2
    go_ret
    exact ⟨rfl, rfl⟩
  · go_enter Tryd.func46, Tryd.ntmps46
    go_wp2
    go_ret
    exact ⟨ret_bool (by simp; omega), rfl⟩

/-! ### Leap -/
theorem lp_yes (y : Int) (h4 : y % 4 = 0) (h : y % 100 ≠ 0 ∨ y % 400 = 0) : decide (lp y = 1) = true := by simp [lp, h4, h]
theorem lp_no (y : Int) (h : ¬ (y % 4 = 0 ∧ (y % 100 ≠ 0 ∨ y % 400 = 0))) : decide (lp y = 1) = false := by unfold lp; rw [if_neg h]; rfl
end Go.Proofs.YtaanicginfjgdaaDoor.Dt

namespace Go.Proofs.YtaanicginfjgdaaDoor.Dt
open Go.RowKit
open Go.Proofs.YtaanicginfjgdaaDoor.Cal

/-- The reference's length of a month: 0 where it is none. -/
def rlen (y m : Int) : Int := if 1 ≤ m ∧ m ≤ 12 then mlen y m else 0
theorem rlen_in (y m : Int) (h0 : 1 ≤ m) (h1 : m ≤ 12) : rlen y m = mlen y m := by unfold rlen; rw [if_pos ⟨h0, h1⟩]
theorem rlen_out (y m : Int) (h : m < 1 ∨ 12 < m) : rlen y m = 0 := by unfold rlen; rw [if_neg (by omega)]
end Go.Proofs.YtaanicginfjgdaaDoor.Dt

namespace Go.Proofs.YtaanicginfjgdaaDoor.Dt
open Go.RowKit
open Go.Proofs.YtaanicginfjgdaaDoor.Cal

theorem bcell {W w1 : World} (hb : Below W.heap.size W w1) : (∀ b o, b < W.heap.size → w1.cell? ⟨b, o, none⟩ = W.cell? ⟨b, o, none⟩) ∧ (∀ b o, b < W.heap.size → w1.frozen? ⟨b, o, none⟩ = W.frozen? ⟨b, o, none⟩) :=
  ⟨fun b o h => hb.cell (p := ⟨b, o, none⟩) h, fun b o h => hb.frozen (p := ⟨b, o, none⟩) h⟩
/-- A callee that leaves what was there alone, called in a world behind the first. -/
theorem bstep {B : Nat} {w W w1 : World} (h : Below B w W) (hw : B ≤ W.heap.size) (hb : Below W.heap.size W w1) : Below B w w1 := h.trans (hb.mono hw)

theorem year_start (d : Int) (h0 : 0 ≤ d) (h1 : d ≤ 73048) : begin_ (2000 + d / 366) ≤ d ∧ 2000 ≤ 2000 + d / 366 ∧ 2000 + d / 366 ≤ 2199 := by
  unfold begin_; split <;> omega
theorem year_up (d y : Int) (h1 : d ≤ 73048) (hy : y ≤ 2199) (h : begin_ (y + 1) ≤ d) : y + 1 ≤ 2199 := by
  by_cases e : y = 2199
  · subst e; have := begin_200; simp only [show (2199 : Int) + 1 = 2200 from rfl] at h; omega
  · omega
theorem month_up (x y m : Int) (h : x < cum y 13) (hm : m ≤ 12) (h2 : mlen y m ≤ x - cum y m) : m + 1 ≤ 12 := by
  by_cases e : m = 12
  · subst e; have := cum_succ y 12; simp only [show (12 : Int) + 1 = 13 from rfl] at this; omega
  · omega
theorem is_of (d y m : Int) (hy0 : 2000 ≤ y) (hy1 : y ≤ 2199) (hm0 : 1 ≤ m) (hm1 : m ≤ 12) (hr : 0 ≤ d - begin_ y - cum y m) (hl : d - begin_ y - cum y m < mlen y m) : IsCivil d y m (d - begin_ y - cum y m + 1) :=
  ⟨hy0, hy1, hm0, hm1, by omega, by omega, by omega⟩
theorem less_13 (d y : Int) (hy0 : 2000 ≤ y) (hy1 : y ≤ 2199) (h : d < begin_ (y + 1)) : d - begin_ y < cum y 13 := by
  have := begin_succ y hy0 hy1; rw [cum_13]; omega
theorem civ_val {d y m k : Int} (h : IsCivil d y m k) : (Ending.returned (.tuple #[.int .i64 y, .int .i64 m, .int .i64 k])) = .returned (.tuple #[.int .i64 (cy d), .int .i64 (cm d), .int .i64 (ck d)]) := by
  obtain ⟨a, b, c⟩ := civ_eq h; rw [a, b, c]

end Go.Proofs.YtaanicginfjgdaaDoor.Dt

namespace Go.Proofs.YtaanicginfjgdaaDoor.Dt
open Go.RowKit
open Go.Proofs.YtaanicginfjgdaaDoor.Cal

theorem year_upr (d y : Int) (hy0 : 2000 ≤ y) (h1 : d ≤ 73048) (hy : y ≤ 2199) (h : 365 + lp y ≤ d - begin_ y) : y + 1 ≤ 2199 ∧ begin_ (y + 1) ≤ d := by
  have := begin_succ y hy0 hy
  have h' : begin_ (y + 1) ≤ d := by omega
  exact ⟨year_up d y h1 hy h', h'⟩

/-- A civil date that is one of a day. -/
def dateOk (y m k : Int) : Prop := 2000 ≤ y ∧ y ≤ 2199 ∧ 1 ≤ m ∧ m ≤ 12 ∧ 1 ≤ k ∧ k ≤ mlen y m

end Go.Proofs.YtaanicginfjgdaaDoor.Dt
