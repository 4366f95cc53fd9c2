/-
  The contract of the reference's Of.
  The contracts of the reference's Mul, minus, Less: said of numbers of two words.
  The contracts of the reference's Int, Cmp and Div.
  The contracts of both Divs at every argument, and a wide argument as a number.
  Plain mathematics of rounded quotients; no Go in sight.
-/
import Derived.Test.YtfiplppdmedhkaaGreatDoorWb
import Derived.Test.YtfiplppdmedhkaaGreatDoorRga
import Derived.Test.YtfiplppdmedhkaaGreatDoorRb
import Derived.Test.YtfiplppdmedhkaaGreatDoorRc
import Derived.Test.YtfiplppdmedhkaaGreatDoorWe
namespace Go.Proofs.YtfiplppdmedhkaaGreatDoor.Wt
open Go.RowKit
open Go.Proofs.YtfiplppdmedhkaaGreatDoor
open Go.Proofs.YtfiplppdmedhkaaGreatDoor.Wm

theorem of_neg {n : Int} (hn : I64 n) (h : n < 0) : IntKind.u64.wrap n = lo n ∧ hi n = -1 := by
  rw [IntKind.wrap_u64]; unfold I64 at hn; unfold lo hi; omega
theorem of_pos {n : Int} (hn : I64 n) (h : 0 ≤ n) : IntKind.u64.wrap n = lo n ∧ hi n = 0 := by
  rw [IntKind.wrap_u64]; unfold I64 at hn; unfold lo hi; omega
theorem rof_any (n : Int) (w : World) (hn : I64 n) : Calls Tryz.prog 157 #[.int .i64 n] w fun e w' => e = .returned (.agg #[.int .i64 (hi n), .int .u64 (lo n)]) ∧ Below w.heap.size w w' := by
  by_cases h : n < 0
  · obtain ⟨h1, h2⟩ := of_neg hn h
    rw [← h1, h2]
    clear h1 h2
    go_enter Tryz.func157, Tryz.ntmps157
    go_wp2
    simp [bodyPost, results, Tryz.results157, go_sem]
    exact (by repeat (first | assumption | exact Below.refl _ _ | refine Below.setCell ?_ (by first | exact Nat.le_refl _ | (simp; done) | (simp; omega) | omega) _ | refine Below.alloc ?_ (by first | exact Nat.le_refl _ | (simp; done) | (simp; omega) | omega) _ | refine Below.drew ?_ | exact Nat.le_refl _))
  · obtain ⟨h1, h2⟩ := of_pos hn (by omega)
    rw [← h1, h2]
    clear h1 h2
    go_enter Tryz.func157, Tryz.ntmps157
    go_wp2
    simp [bodyPost, results, Tryz.results157, go_sem]
    exact (by repeat (first | assumption | exact Below.refl _ _ | refine Below.setCell ?_ (by first | exact Nat.le_refl _ | (simp; done) | (simp; omega) | omega) _ | refine Below.alloc ?_ (by first | exact Nat.le_refl _ | (simp; done) | (simp; omega) | omega) _ | refine Below.drew ?_ | exact Nat.le_refl _))
end Go.Proofs.YtfiplppdmedhkaaGreatDoor.Wt

namespace Go.Proofs.YtfiplppdmedhkaaGreatDoor.Wt
open Go.RowKit
open Go.Proofs.YtfiplppdmedhkaaGreatDoor
open Go.Proofs.YtfiplppdmedhkaaGreatDoor.Wm

end Go.Proofs.YtfiplppdmedhkaaGreatDoor.Wt

namespace Go.Proofs.YtfiplppdmedhkaaGreatDoor.Wt
open Go.RowKit
open Go.Proofs.YtfiplppdmedhkaaGreatDoor
open Go.Proofs.YtfiplppdmedhkaaGreatDoor.Wm

theorem iw (n : Int) : IntKind.i64.wrap n = wrap64 n := by rw [IntKind.wrap_i64]; unfold wrap64; omega
theorem rint_any (x : Int) (w : World) : Calls Tryz.prog 158 #[.agg #[.int .i64 (hi x), .int .u64 (lo x)]] w fun e w' => e = .returned (.tuple #[.int .i64 (ifit x), .bool (iin x)]) ∧ Below w.heap.size w w' := by
  by_cases h : I64 x
  · obtain ⟨h1, h2, h3⟩ := int_yes h
    rw [h2, h3]
    have H1 := Lib.hid h1
    have hO := Lib.hid (fun W => rof_any x W h)
    clear h1 h2 h3
    go_enter Tryz.func158, Tryz.ntmps158
    go_wp2_with fail
    have hb1 : Below (w).heap.size (w) ((w).alloc (.cells #[.int .i64 (hi x), .int .u64 (lo x)] 125)) := (Below.refl _ _).alloc (Nat.le_refl _) _
    have cc : ((w).alloc (.cells #[.int .i64 (hi x), .int .u64 (lo x)] 125)).cell? ⟨(w).heap.size, 0, none⟩ = some (.int .i64 (hi x)) := by simp [go_sem]
    have cd : ((w).alloc (.cells #[.int .i64 (hi x), .int .u64 (lo x)] 125)).cell? ⟨(w).heap.size, 1, none⟩ = some (.int .u64 (lo x)) := by simp [go_sem]
    have cf : ((w).alloc (.cells #[.int .i64 (hi x), .int .u64 (lo x)] 125)).frozen? ⟨(w).heap.size, 0, none⟩ = false := by simp [go_sem]
    have cg : ((w).alloc (.cells #[.int .i64 (hi x), .int .u64 (lo x)] 125)).frozen? ⟨(w).heap.size, 1, none⟩ = false := by simp [go_sem]
    have cz : (w).heap.size < ((w).alloc (.cells #[.int .i64 (hi x), .int .u64 (lo x)] 125)).heap.size := by simp
    generalize (w).alloc (.cells #[.int .i64 (hi x), .int .u64 (lo x)] 125) = w1 at *
    refine Reg.region_quiet (by kernel_rfl) (by kernel_rfl) ?_
    iterate 6 (first | go_big_quiet_skip | (go_big_quiet_want; (first | (go_big_quiet_op; go_big_quiet_on) | (apply Reg.quiet_run; (intro W hW; have q1 := hW.cell cc; have q2 := hW.cell cd; go_simp; (first | done | rfl | exact ⟨rfl, rfl⟩ )); (simp only [Act.put, List.setIfInBounds_toArray, List.set_cons_zero, List.set_cons_succ]; go_big_quiet_on)) | (apply Reg.quiet_call; (intro W hW; go_simp; (first | done | rfl | exact ⟨rfl, rfl⟩)); (intro W hW; (first | (go_at_call 157; rw [iw, H1.out]; exact Reg.cls_call hW (hO.out _)))); (simp only [Act.put, List.setIfInBounds_toArray, List.set_cons_zero, List.set_cons_succ]; go_big_quiet_on)))))
    refine wpQuiet_nil ?_
    intro w2 hW
    have b2 := bl2 hW hb1
    have rc := hW.cell cc
    have rd := hW.cell cd
    clear hW
    go_wp2_with fail
    rw [H1.out]
    go_ret2
    exact ⟨rfl, b2⟩
  · obtain ⟨h1, h2, h3, h4, h5⟩ := int_no h
    rw [h4, h5]
    have hO := Lib.hid (fun W => rof_any _ W h1)
    clear h1 h4 h5
    go_enter Tryz.func158, Tryz.ntmps158
    go_wp2_with fail
    have hg := Lib.hid (iw (lo x))
    generalize wrap64 (lo x) = n at *
    have hb1 : Below (w).heap.size (w) ((w).alloc (.cells #[.int .i64 (hi x), .int .u64 (lo x)] 125)) := (Below.refl _ _).alloc (Nat.le_refl _) _
    have cc : ((w).alloc (.cells #[.int .i64 (hi x), .int .u64 (lo x)] 125)).cell? ⟨(w).heap.size, 0, none⟩ = some (.int .i64 (hi x)) := by simp [go_sem]
    have cd : ((w).alloc (.cells #[.int .i64 (hi x), .int .u64 (lo x)] 125)).cell? ⟨(w).heap.size, 1, none⟩ = some (.int .u64 (lo x)) := by simp [go_sem]
    have cf : ((w).alloc (.cells #[.int .i64 (hi x), .int .u64 (lo x)] 125)).frozen? ⟨(w).heap.size, 0, none⟩ = false := by simp [go_sem]
    have cg : ((w).alloc (.cells #[.int .i64 (hi x), .int .u64 (lo x)] 125)).frozen? ⟨(w).heap.size, 1, none⟩ = false := by simp [go_sem]
    have cz : (w).heap.size < ((w).alloc (.cells #[.int .i64 (hi x), .int .u64 (lo x)] 125)).heap.size := by simp
    generalize (w).alloc (.cells #[.int .i64 (hi x), .int .u64 (lo x)] 125) = w1 at *
    refine Reg.region_quiet (by kernel_rfl) (by kernel_rfl) ?_
    iterate 6 (first | go_big_quiet_skip | (go_big_quiet_want; (first | (go_big_quiet_op; go_big_quiet_on) | (apply Reg.quiet_run; (intro W hW; have q1 := hW.cell cc; have q2 := hW.cell cd; go_simp; (first | done | rfl | exact ⟨rfl, rfl⟩ )); (simp only [Act.put, List.setIfInBounds_toArray, List.set_cons_zero, List.set_cons_succ]; go_big_quiet_on)) | (apply Reg.quiet_call; (intro W hW; go_simp; (first | done | rfl | exact ⟨rfl, rfl⟩)); (intro W hW; (first | (go_at_call 157; rw [hg.out]; exact Reg.cls_call hW (hO.out _)))); (simp only [Act.put, List.setIfInBounds_toArray, List.set_cons_zero, List.set_cons_succ]; go_big_quiet_on)))))
    refine wpQuiet_nil ?_
    intro w2 hW
    have b2 := bl2 hW hb1
    clear hW
    go_wp2_with fail
    go_ret2
    exact ⟨rfl, b2⟩

/-! ### Div -/
end Go.Proofs.YtfiplppdmedhkaaGreatDoor.Wt

namespace Go.Proofs.YtfiplppdmedhkaaGreatDoor.Wt
open Go.RowKit
open Go.Proofs.YtfiplppdmedhkaaGreatDoor
open Go.Proofs.YtfiplppdmedhkaaGreatDoor.Wm

/-- What Div returns. -/
def dq (x n : Int) : Int := if n < 1 then 0 else x / n
def dr (x n : Int) : Int := if n < 1 then 0 else x % n
def de (n : Int) : Int := if n < 1 then 1 else 0
theorem div_any (x n : Int) (w : World) (hx : I128 x) (hn : I64 n) : Calls Tryz.prog 146 #[.agg #[.int .i64 (hi x), .int .u64 (lo x)], .int .i64 n] w fun e w' => e = .returned (.tuple #[.agg #[.int .i64 (hi (dq x n)), .int .u64 (lo (dq x n))], .int .i64 (dr x n), .int .i64 (de n)]) ∧ Below w.heap.size w w' := by
  by_cases h : n < 1
  · rw [show dq x n = 0 from if_pos h, show dr x n = 0 from if_pos h, show de n = 1 from if_pos h, hi_0, lo_0]
    exact div_zero x n w h
  · rw [show dq x n = x / n from if_neg h, show dr x n = x % n from if_neg h, show de n = 0 from if_neg h]
    by_cases h0 : 0 ≤ x
    · exact div_pos x n w hx hn (by omega) h0
    · have r := Int.emod_nonneg (-x) (show n ≠ 0 by omega)
      by_cases hr : (-x) % n = 0
      · exact div_neg0 x n w hx hn (by omega) (by omega) hr
      · exact div_neg1 x n w hx hn (by omega) (by omega) (by omega)
end Go.Proofs.YtfiplppdmedhkaaGreatDoor.Wt

namespace Go.Proofs.YtfiplppdmedhkaaGreatDoor.Rd
open Go.Proofs.YtfiplppdmedhkaaGreatDoor.Wm
open Go.Proofs.YtfiplppdmedhkaaGreatDoor.Wt

/-- Whether the greater one of the two integers next to a quotient is taken. -/
def upB (neg odd : Bool) (r n mode : Int) : Bool := if mode = 1 then neg else if mode = 2 then !neg else if mode = 3 then false else if mode = 4 then true else if r = n - r then (if mode = 5 then !neg else odd) else decide (n - r < r)
/-- What is added to the lower one. -/
def moreI (neg odd : Bool) (r n mode : Int) : Int := if upB neg odd r n mode then 1 else 0
/-- A rounded quotient. -/
def rd (x n mode : Int) : Int := x / n + if 0 < x % n then moreI (decide (x < 0)) (decide (x / n % 2 = 1)) (x % n) n mode else 0
/-- Divisor and mode are accepted. -/
def rok (n mode : Int) : Prop := 1 ≤ n ∧ 1 ≤ mode ∧ mode ≤ 6
instance (n mode : Int) : Decidable (rok n mode) := by unfold rok; exact inferInstance
def rdV (x n mode : Int) : Int := if rok n mode then ifit (rd x n mode) else 0
def rdE (x n mode : Int) : Int := if rok n mode then (if iin (rd x n mode) then 0 else 6) else 1
theorem upB_1 {neg odd : Bool} {r n mode : Int} (hm : 5 ≤ mode) (h : n - r < r) : upB neg odd r n mode = true := by
  unfold upB
  rw [if_neg (by omega), if_neg (by omega), if_neg (by omega), if_neg (by omega), if_neg (by omega), decide_eq_true h]
theorem upB_0 {neg odd : Bool} {r n mode : Int} (hm : 5 ≤ mode) (h : r < n - r) : upB neg odd r n mode = false := by
  unfold upB
  rw [if_neg (by omega), if_neg (by omega), if_neg (by omega), if_neg (by omega), if_neg (by omega), decide_eq_false (by omega)]
theorem upB_5 {neg odd : Bool} {r n : Int} (h : r = n - r) : upB neg odd r n 5 = !neg := by
  unfold upB
  rw [if_neg (by omega), if_neg (by omega), if_neg (by omega), if_neg (by omega), if_pos h, if_pos rfl]
theorem upB_6 {neg odd : Bool} {r n : Int} (h : r = n - r) : upB neg odd r n 6 = odd := by
  unfold upB
  rw [if_neg (by omega), if_neg (by omega), if_neg (by omega), if_neg (by omega), if_pos h, if_neg (by omega)]
theorem moreI_bd (neg odd : Bool) (r n mode : Int) : 0 ≤ moreI neg odd r n mode ∧ moreI neg odd r n mode ≤ 1 := by unfold moreI; split <;> omega
theorem rd_bd {x n mode : Int} (hx : I128 x) (hn : 1 ≤ n) : I128 (rd x n mode) := by
  unfold rd
  split
  · rename_i h
    have h1 := quo_bd hx (show 0 < n by omega)
    have h2 := moreI_bd (decide (x < 0)) (decide (x / n % 2 = 1)) (x % n) n mode
    have h3 := Int.mul_ediv_add_emod x n
    have h4 := Int.emod_lt_of_pos x (show 0 < n by omega)
    unfold I128 at *
    have h5 : x / n ≤ 85070591730234615865843651857942052864 := by
      rcases Classical.em (x / n ≤ 85070591730234615865843651857942052864) with h5 | h5
      · exact h5
      · have : 2 * (x / n) ≤ n * (x / n) := Int.mul_le_mul_of_nonneg_right (by omega) (by omega)
        omega
    omega
  · rw [Int.add_zero]; exact quo_bd hx (by omega)
theorem rd_exact {x n mode : Int} (h : ¬ 0 < x % n) : rd x n mode = x / n := by unfold rd; rw [if_neg h, Int.add_zero]
theorem rd_step {x n mode : Int} (h : 0 < x % n) : rd x n mode = x / n + moreI (decide (x < 0)) (decide (x / n % 2 = 1)) (x % n) n mode := by unfold rd; rw [if_pos h]
theorem quo_sign {x n : Int} (hn : 1 ≤ n) : (x / n < 0) = (x < 0) := by
  apply propext
  constructor
  · intro h
    rcases Classical.em (x < 0) with h' | h'
    · exact h'
    · have := Int.ediv_nonneg (show 0 ≤ x by omega) (show 0 ≤ n by omega); omega
  · exact fun h => Int.ediv_neg_of_neg_of_pos h (by omega)
theorem lo_mod (x : Int) : lo x % 2 = x % 2 := by unfold lo; omega
end Go.Proofs.YtfiplppdmedhkaaGreatDoor.Rd
