/-
  The contracts of total, of package rounding and of the reference: the sum of some weights.
-/
import Derived.Test.YtieklkpjlbpnbaaDoorSpm
import Derived.Test.YtieklkpjlbpnbaaDoorRd4
namespace Go.Proofs.YtieklkpjlbpnbaaDoor.Sp
open Go.RowKit
open Go.Proofs.YtieklkpjlbpnbaaDoor
open Go.Proofs.YtieklkpjlbpnbaaDoor.Wm Go.Proofs.YtieklkpjlbpnbaaDoor.Wt Go.Proofs.YtieklkpjlbpnbaaDoor.Rd

/-- The weights are in their range. -/
def rng (ws : List Int) : Prop := (1 ≤ ws.length ∧ ws.length ≤ 64) ∧ ∀ j, j < ws.length → 0 ≤ ws.getD j 0 ∧ ws.getD j 0 ≤ 1000000000000
open Classical in
/-- What total returns. -/
noncomputable def tV (ws : List Int) : Int := if rng ws then sm ws else 0
open Classical in
noncomputable def tB (ws : List Int) : Bool := if rng ws then decide (0 < sm ws) else false
theorem t_no {ws : List Int} (h : ¬ rng ws) : tV ws = 0 ∧ tB ws = false := ⟨if_neg h, if_neg h⟩
theorem t_yes {ws : List Int} (h : rng ws) : tV ws = sm ws ∧ tB ws = decide (0 < sm ws) := ⟨if_pos h, if_pos h⟩
theorem take_succ_sm {ws : List Int} {k : Nat} (h : k < ws.length) : sm (ws.take (k + 1)) = sm (ws.take k) + ws.getD k 0 := by
  rw [List.take_add_one, sm_append]
  simp [h, sm, List.getD_eq_getElem?_getD]
/-- The part of the weights that was read. -/
structure TRel (ws : List Int) (k : Nat) : Prop where
  le : k ≤ ws.length
  good : ∀ j, j < k → 0 ≤ ws.getD j 0 ∧ ws.getD j 0 ≤ 1000000000000
  s0 : 0 ≤ sm (ws.take k)
  s1 : sm (ws.take k) ≤ k * 1000000000000
theorem TRel.start (ws : List Int) : TRel ws 0 := ⟨Nat.zero_le _, fun j h => by omega, by simp [sm], by simp [sm]⟩
theorem TRel.step {ws : List Int} {k : Nat} (h : TRel ws k) (hk : k < ws.length) (h0 : 0 ≤ ws.getD k 0) (h1 : ws.getD k 0 ≤ 1000000000000) : TRel ws (k + 1) := by
  refine ⟨hk, fun j hj => ?_, ?_, ?_⟩
  · by_cases e : j = k
    · subst e; exact ⟨h0, h1⟩
    · exact h.good j (by omega)
  · rw [take_succ_sm hk]; have := h.s0; omega
  · rw [take_succ_sm hk]; have := h.s1; omega
/-- Where the loop stands. -/
def TLoop (ws : List Int) (v4 v17 : Value) : Prop := ∃ k : Nat, TRel ws k ∧ v17 = .int .i64 k ∧ v4 = .int .i64 (sm (ws.take k))

theorem total_nil (a : Option Addr) (cap : Nat) (w : World) : Calls Tryd.prog 46 #[.slice a 0 cap] w fun e w' => e = .returned (.tuple #[.int .i64 (tV []), .bool (tB [])]) ∧ w = w' := by
  have hn : ¬ rng [] := fun h => by have := h.1.1; simp at this
  rw [(t_no hn).1, (t_no hn).2]
  go_enter Tryd.func46, Tryd.ntmps46
  go_wp2_with fail
  go_ret2
  exact ⟨rfl, rfl⟩
set_option maxHeartbeats 2000000 in
theorem total_any (b off cap : Nat) (ws : List Int) (w : World) (hne : 0 < ws.length) (hm : ws.length ≤ 9223372036854775807) (hc : ∀ j, j < ws.length → w.cell? ⟨b, off + j, none⟩ = some (.int .i64 (ws.getD j 0))) :
    Calls Tryd.prog 46 #[.slice (some ⟨b, off, none⟩) ws.length cap] w fun e w' => e = .returned (.tuple #[.int .i64 (tV ws), .bool (tB ws)]) ∧ w = w' := by
  have HC := Lib.hid hc
  clear hc
  by_cases hl : 64 < ws.length
  · have hn : ¬ rng ws := fun h => by have := h.1.2; omega
    have HN := Lib.hid (t_no hn)
    clear hn
    go_enter Tryd.func46, Tryd.ntmps46
    go_wp2_with fail
    go_ret2
    exact ⟨(by rw [HN.out.1, HN.out.2]; rfl), rfl⟩
  · have hl' : ws.length ≤ 64 := by omega
    clear hl
    go_enter Tryd.func46, Tryd.ntmps46
    go_wp2_with fail
    go_loop [4, 17] (TLoop ws) (fun _ i => ws.length - (intOf i).toNat)
    case atStart => exact ⟨0, TRel.start ws, rfl, by simp [sm]⟩
    case round =>
      obtain ⟨k, hr, rfl, rfl⟩ := hrel
      have HR := Lib.hid hr
      have hk := hr.le
      have s0 := hr.s0
      have s1 := hr.s1
      clear hr
      by_cases hlt : k < ws.length
      · have hcell := HC.out k hlt
        have hs := take_succ_sm hlt
        have HST := Lib.hid (fun h0 h1 => HR.out.step hlt h0 h1)
        have HBAD := Lib.hid (fun (h : ¬ (0 ≤ ws.getD k 0 ∧ ws.getD k 0 ≤ 1000000000000)) => t_no (ws := ws) fun hg => h (hg.2 k hlt))
        have HS := Lib.hid hs
        clear hs
        generalize ws.getD k 0 = x at *
        generalize hsm : sm (ws.take k) = s at *
        have HSM := Lib.hid hsm
        clear hsm
        by_cases hx : x < 0
        · have HB := Lib.hid (HBAD.out (by omega))
          go_wp2_with fail
          go_ret2
          exact ⟨(by rw [HB.out.1, HB.out.2]; rfl), rfl⟩
        · have hx0 : 0 ≤ x := by omega
          clear hx
          by_cases hx : 1000000000000 < x
          · have HB := Lib.hid (HBAD.out (by omega))
            go_wp2_with fail
            go_ret2
            exact ⟨(by rw [HB.out.1, HB.out.2]; rfl), rfl⟩
          · have hx1 : x ≤ 1000000000000 := by omega
            clear hx
            go_wp2_with fail
            go_round
            case rel => exact ⟨k + 1, HST.out hx0 hx1, by go_num, by rw [HS.out]⟩
            case measure => simp [intOf]; omega
      · have hkl : k = ws.length := by omega
        subst hkl
        have hg : rng ws := ⟨⟨by omega, hl'⟩, HR.out.good⟩
        have HY := Lib.hid (t_yes hg)
        rw [List.take_length] at *
        clear hg hlt
        generalize hsm : sm ws = s at *
        have HSM := Lib.hid hsm
        clear hsm
        go_wp2_with fail
        go_ret2
        exact ⟨(by rw [HY.out.1, HY.out.2]; rfl), rfl⟩

theorem rtotal_nil (a : Option Addr) (cap : Nat) (w : World) : Calls Tryd.prog 26 #[.slice a 0 cap] w fun e w' => e = .returned (.tuple #[.int .i64 (tV []), .bool (tB [])]) ∧ w = w' := by
  have hn : ¬ rng [] := fun h => by have := h.1.1; simp at this
  rw [(t_no hn).1, (t_no hn).2]
  go_enter Tryd.func26, Tryd.ntmps26
  go_wp2_with fail
  go_ret2
  exact ⟨rfl, rfl⟩
set_option maxHeartbeats 2000000 in
theorem rtotal_any (b off cap : Nat) (ws : List Int) (w : World) (hne : 0 < ws.length) (hm : ws.length ≤ 9223372036854775807) (hc : ∀ j, j < ws.length → w.cell? ⟨b, off + j, none⟩ = some (.int .i64 (ws.getD j 0))) :
    Calls Tryd.prog 26 #[.slice (some ⟨b, off, none⟩) ws.length cap] w fun e w' => e = .returned (.tuple #[.int .i64 (tV ws), .bool (tB ws)]) ∧ w = w' := by
  have HC := Lib.hid hc
  clear hc
  by_cases hl : 64 < ws.length
  · have hn : ¬ rng ws := fun h => by have := h.1.2; omega
    have HN := Lib.hid (t_no hn)
    clear hn
    go_enter Tryd.func26, Tryd.ntmps26
    go_wp2_with fail
    go_ret2
    exact ⟨(by rw [HN.out.1, HN.out.2]; rfl), rfl⟩
  · have hl' : ws.length ≤ 64 := by omega
    clear hl
    go_enter Tryd.func26, Tryd.ntmps26
    go_wp2_with fail
    go_loop [4, 5] (TLoop ws) (fun _ i => ws.length - (intOf i).toNat)
    case atStart => exact ⟨0, TRel.start ws, rfl, by simp [sm]⟩
    case round =>
      obtain ⟨k, hr, rfl, rfl⟩ := hrel
      have HR := Lib.hid hr
      have hk := hr.le
      have s0 := hr.s0
      have s1 := hr.s1
      clear hr
      by_cases hlt : k < ws.length
      · have hcell := HC.out k hlt
        have hs := take_succ_sm hlt
        have HST := Lib.hid (fun h0 h1 => HR.out.step hlt h0 h1)
        have HBAD := Lib.hid (fun (h : ¬ (0 ≤ ws.getD k 0 ∧ ws.getD k 0 ≤ 1000000000000)) => t_no (ws := ws) fun hg => h (hg.2 k hlt))
        have HS := Lib.hid hs
        clear hs
        generalize ws.getD k 0 = x at *
        generalize hsm : sm (ws.take k) = s at *
        have HSM := Lib.hid hsm
        clear hsm
        by_cases hx : x < 0
        · have HB := Lib.hid (HBAD.out (by omega))
          go_wp2_with fail
          go_ret2
          exact ⟨(by rw [HB.out.1, HB.out.2]; rfl), rfl⟩
        · have hx0 : 0 ≤ x := by omega
          clear hx
          by_cases hx : 1000000000000 < x
          · have HB := Lib.hid (HBAD.out (by omega))
            go_wp2_with fail
            go_ret2
            exact ⟨(by rw [HB.out.1, HB.out.2]; rfl), rfl⟩
          · have hx1 : x ≤ 1000000000000 := by omega
            clear hx
            go_wp2_with fail
            go_round
            case rel => exact ⟨k + 1, HST.out hx0 hx1, by go_num, by rw [HS.out]⟩
            case measure => simp [intOf]; omega
      · have hkl : k = ws.length := by omega
        subst hkl
        have hg : rng ws := ⟨⟨by omega, hl'⟩, HR.out.good⟩
        have HY := Lib.hid (t_yes hg)
        rw [List.take_length] at *
        clear hg hlt
        generalize hsm : sm ws = s at *
        have HSM := Lib.hid hsm
        clear hsm
        go_wp2_with fail
        go_ret2
        exact ⟨(by rw [HY.out.1, HY.out.2]; rfl), rfl⟩
end Go.Proofs.YtieklkpjlbpnbaaDoor.Sp
