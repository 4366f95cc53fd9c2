/-
  Loans in memory; the small contracts of package loan: day, amount, rate, sums, left.
-/
import Derived.Test.YtaibocobeibobaaLnm
import Derived.Test.YtaibocobeibobaaBlk
import Derived.Deep.LoopGhost
import Derived.Test.YtaibocobeibobaaChecked
import Derived.Lib.Hide
namespace Go.Proofs.Ytaibocobeibobaa.Ln
open Go.RowKit
open Go.Proofs.Ytaibocobeibobaa


/-- Installments in memory: four cells each. -/
def DuesIn (W : World) (a : Option Addr) (ds : List Du) : Prop := ds.length ≤ 2305843009213693951 ∧ (0 < ds.length → ∃ b off, a = some ⟨b, off, none⟩ ∧ ∀ j, j < ds.length →
  W.cell? ⟨b, off + j * 4, none⟩ = some (.int .i64 ds[j]!.no) ∧ W.cell? ⟨b, off + j * 4 + 1, none⟩ = some (.int .i64 ds[j]!.day) ∧ W.cell? ⟨b, off + j * 4 + 2, none⟩ = some (.int .i64 ds[j]!.pr) ∧ W.cell? ⟨b, off + j * 4 + 3, none⟩ = some (.int .i64 ds[j]!.it))
theorem DuesIn.later {W w1 : World} {a : Option Addr} {ds : List Du} (hb : Below W.heap.size W w1) (h : DuesIn W a ds) : DuesIn w1 a ds :=
  ⟨h.1, fun h0 => by
    obtain ⟨b, off, ha, hc⟩ := h.2 h0
    exact ⟨b, off, ha, fun j hj => ⟨cell_later hb (hc j hj).1, cell_later hb (hc j hj).2.1, cell_later hb (hc j hj).2.2.1, cell_later hb (hc j hj).2.2.2⟩⟩⟩
theorem bl2 {w W w1 : World} (hb : Below W.heap.size W w1) (h : Below w.heap.size w W) : Below w.heap.size w w1 := h.trans (hb.mono h.size)

theorem day_any (n : Int) (w : World) : Calls Try.prog 34 #[.int .i64 n] w fun e w' => e = .returned (.bool (dayB n)) ∧ w = w' := by
  unfold dayB
  by_cases h : 0 ≤ n
  · by_cases h2 : n ≤ 73048
    · rw [decide_eq_true ⟨h, h2⟩]
      go_enter Try.func34, Try.ntmps34
      go_wp2_with fail
      go_ret
      exact ⟨by simp, rfl⟩
    · rw [decide_eq_false (by omega)]
      go_enter Try.func34, Try.ntmps34
      go_wp2_with fail
      go_ret
      exact ⟨by simp, rfl⟩
  · rw [decide_eq_false (by omega)]
    go_enter Try.func34, Try.ntmps34
    go_wp2_with fail
    go_ret
    exact ⟨by simp, rfl⟩

/-- Where the loop of sums stands. -/
def SR (w : World) (ds : List Du) (g : Nat) (s4 s5 s10 : Value) (W : World) : Prop := ∃ k : Nat, k + g = ds.length ∧ s10 = .int .i64 k ∧ s4 = .int .i64 (P (ds.take k)) ∧ s5 = .int .i64 (I (ds.take k)) ∧ Below w.heap.size w W
set_option maxHeartbeats 2000000 in
theorem sums_any (a : Option Addr) (cap : Nat) (ds : List Du) (w : World) (h : DuesIn w a ds) :
    Calls Try.prog 23 #[.slice a ds.length cap] w fun e w' => e = .returned (.tuple #[.int .i64 (P ds), .int .i64 (I ds)]) ∧ Below w.heap.size w w' := by
  have H := Lib.hid h
  have hn := h.1
  clear h
  go_enter Try.func23, Try.ntmps23
  go_wp2_with fail
  go_loopg [4, 5, 10] ds.length (SR w ds)
  case atStart => exact ⟨0, by omega, rfl, by simp [P_nil], by simp [I_nil], Below.refl _ _⟩
  case round =>
    obtain ⟨k, hk, rfl, rfl, rfl, hbr⟩ := hrel
    by_cases hlt : k < ds.length
    · obtain ⟨b, off, rfl, hc⟩ := H.out.2 (by omega)
      obtain ⟨c0, c1, c2, c3⟩ := hc k hlt
      replace c0 := cell_later hbr c0
      replace c1 := cell_later hbr c1
      replace c2 := cell_later hbr c2
      replace c3 := cell_later hbr c3
      have HP := Lib.hid (P_succ hlt)
      have HI := Lib.hid (I_succ hlt)
      have hz := hbr.size
      clear hc
      generalize ds[k]! = d at *
      generalize P (ds.take k) = p at *
      generalize I (ds.take k) = i at *
      go_wp2_with fail
      go_roundg (gk - 1)
      case measure => omega
      case rel => exact ⟨k + 1, by omega, by go_num, by rw [HP.out], by rw [HI.out], (hbr.alloc hz _)⟩
    · have hkn : k = ds.length := by omega
      rw [hkn, List.take_length]
      clear hkn
      go_wp2_with fail
      go_ret2
      exact ⟨rfl, hbr⟩
end Go.Proofs.Ytaibocobeibobaa.Ln
