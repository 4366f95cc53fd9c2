/-
  The reference's SameParts, SameDues: equal lists are the same.
-/
import Derived.Test.YtaibocobeibobaaLnQ
namespace Go.Proofs.Ytaibocobeibobaa.Ln
open Go.RowKit
open Go.Proofs.Ytaibocobeibobaa

theorem RowIn.dues {W : World} {a : Option Addr} {xs : List Du} (h : RowIn denc W a xs) (hn : xs.length ≤ 100000) (h0 : 0 < xs.length) : ∃ b off, a = some ⟨b, off, none⟩ ∧ ∀ j, j < xs.length → W.cell? ⟨b, off + j * 4, none⟩ = some (.int .i64 xs[j]!.no) ∧ W.cell? ⟨b, off + j * 4 + 1, none⟩ = some (.int .i64 xs[j]!.day) ∧ W.cell? ⟨b, off + j * 4 + 2, none⟩ = some (.int .i64 xs[j]!.pr) ∧ W.cell? ⟨b, off + j * 4 + 3, none⟩ = some (.int .i64 xs[j]!.it) :=
  (dues_of_row (by omega) h).2 h0

/-- Where the loop stands. -/
def samepartsR (w : World) (n : Nat) (g : Nat) (s5 : Value) (W : World) : Prop := ∃ k : Nat, k + g = n ∧ s5 = .int .i64 k ∧ Below w.heap.size w W
set_option maxHeartbeats 4000000 in
theorem sameparts_any (a1 a2 : Option Addr) (k1 k2 : Nat) (xs : List Pa) (w : World) (h1 : RowIn penc w a1 xs) (h2 : RowIn penc w a2 xs) (hn : xs.length ≤ 100000) :
    Calls Try.prog 12 #[.slice a1 xs.length k1, .slice a2 xs.length k2] w fun e w' => e = .returned (.bool true) ∧ Below w.heap.size w w' := by
  have H1 := Lib.hid h1
  have H2 := Lib.hid h2
  clear h1 h2
  go_enter Try.func12, Try.ntmps12
  go_wp2_with fail
  go_loopg [5] xs.length (samepartsR w xs.length)
  case atStart => exact ⟨0, by omega, rfl, Below.refl _ _⟩
  case round =>
    obtain ⟨k, hk, rfl, hbr⟩ := hrel
    by_cases hlt : k < xs.length
    · obtain ⟨b, off, rfl, hc⟩ := H1.out.parts (by omega)
      obtain ⟨b', off', rfl, hd⟩ := H2.out.parts (by omega)
      obtain ⟨c0, c1⟩ := hc k hlt
      obtain ⟨d0, d1⟩ := hd k hlt
      replace c0 := cell_later hbr c0; replace c1 := cell_later hbr c1
      replace d0 := cell_later hbr d0; replace d1 := cell_later hbr d1
      clear hc hd
      generalize xs[k]! = x at *
      go_wp2_with fail
      go_region
      all_goals go_wp2_with fail
      go_roundg (gk - 1)
      case measure => omega
      case rel => exact ⟨k + 1, by omega, by go_num, hbr.drew⟩
    · go_wp2_with fail
      go_ret
      exact ⟨rfl, hbr⟩

/-- Where the loop stands. -/
def sameduesR (w : World) (n : Nat) (g : Nat) (s5 : Value) (W : World) : Prop := ∃ k : Nat, k + g = n ∧ s5 = .int .i64 k ∧ Below w.heap.size w W
set_option maxHeartbeats 4000000 in
theorem samedues_any (a1 a2 : Option Addr) (k1 k2 : Nat) (xs : List Du) (w : World) (h1 : RowIn denc w a1 xs) (h2 : RowIn denc w a2 xs) (hn : xs.length ≤ 100000) :
    Calls Try.prog 20 #[.slice a1 xs.length k1, .slice a2 xs.length k2] w fun e w' => e = .returned (.bool true) ∧ Below w.heap.size w w' := by
  have H1 := Lib.hid h1
  have H2 := Lib.hid h2
  clear h1 h2
  go_enter Try.func20, Try.ntmps20
  go_wp2_with fail
  go_loopg [5] xs.length (sameduesR w xs.length)
  case atStart => exact ⟨0, by omega, rfl, Below.refl _ _⟩
  case round =>
    obtain ⟨k, hk, rfl, hbr⟩ := hrel
    by_cases hlt : k < xs.length
    · obtain ⟨b, off, rfl, hc⟩ := H1.out.dues (by omega) (by omega)
      obtain ⟨b', off', rfl, hd⟩ := H2.out.dues (by omega) (by omega)
      obtain ⟨c0, c1, c2, c3⟩ := hc k hlt
      obtain ⟨d0, d1, d2, d3⟩ := hd k hlt
      replace c0 := cell_later hbr c0; replace c1 := cell_later hbr c1; replace c2 := cell_later hbr c2; replace c3 := cell_later hbr c3
      replace d0 := cell_later hbr d0; replace d1 := cell_later hbr d1; replace d2 := cell_later hbr d2; replace d3 := cell_later hbr d3
      clear hc hd
      generalize xs[k]! = x at *
      go_wp2_with fail
      go_region
      all_goals go_wp2_with fail
      go_roundg (gk - 1)
      case measure => omega
      case rel => exact ⟨k + 1, by omega, by go_num, hbr.drew⟩
    · go_wp2_with fail
      go_ret
      exact ⟨rfl, hbr⟩
end Go.Proofs.Ytaibocobeibobaa.Ln
