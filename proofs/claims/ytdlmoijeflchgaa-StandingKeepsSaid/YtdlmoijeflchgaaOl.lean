/-
  Loans and slices of structs among the arguments, opened for a walk.
-/
import Derived.Test.YtdlmoijeflchgaaLc
import Derived.Test.YtdlmoijeflchgaaLb
import Derived.ProofKit
import Derived.OpenShut
import Derived.ShutString
import Derived.ChangeOld
import Derived.ChangeSlices
import Derived.DataReads
import Derived.Deep.Slices
namespace Go.Proofs.Ytdlmoijeflchgaa.Ol
open Go Go.ChangeShapes Go.WideShapes Go.ChangeAt Go.RowKit
open Go.Proofs.Ytdlmoijeflchgaa
open Go.Proofs.Ytdlmoijeflchgaa.Ln
set_option maxRecDepth 100000

theorem list_of {α : Type} [Inhabited α] (p : Nat → α → Prop) : ∀ n : Nat, (∀ i, i < n → ∃ x, p i x) → ∃ xs : List α, xs.length = n ∧ ∀ i, i < n → p i xs[i]!
  | 0, _ => ⟨[], rfl, fun i h => absurd h (Nat.not_lt_zero _)⟩
  | n + 1, h => by
    obtain ⟨xs, hl, hx⟩ := list_of p n fun i hi => h i (by omega)
    obtain ⟨y, hy⟩ := h n (Nat.lt_succ_self _)
    refine ⟨xs ++ [y], by simp [hl], fun i hi => ?_⟩
    by_cases hin : i < n
    · rw [getElem!_pos _ i (by simp; omega), List.getElem_append_left (by omega)]
      have := hx i hin
      rwa [getElem!_pos xs i (by omega)] at this
    · have : i = n := by omega
      subst this
      rw [getElem!_pos _ i (by simp; omega), List.getElem_append_right (by omega)]
      simpa [hl] using hy
section
variable {H : Type} {ec : TypeId × Value → H} {P : Program} {w : World} {base : Nat} {spare : Nat → Bool} {held : Bool}
/-- A slice of structs, read: its elements laid flat. -/
theorem open_row {α : Type} [Inhabited α] {enc : α → List Value} {k : Nat} {Q : α → Prop} {t e : TypeId} {fuel : Nat} {cs : List Value} {x : DataW H × List MemPlace} (hk : ∀ x, (enc x).length = k) (k0 : 0 < k) (hC : P.cellsOf e = k)
    (hel : ∀ (m : Nat) (cs : List Value) (y : DataW H × List MemPlace), DataW.trod ec P w base spare held m e cs = some y → ∃ x, cs = enc x ∧ Q x) (ht : P.underlying t = some (.slice e)) (h : DataW.trod ec P w base spare held fuel t cs = some x) :
    ∃ (a : Option Addr) (cap : Nat) (xs : List α), cs = [.slice a xs.length cap] ∧ xs.length ≤ maxLen ∧ RowIn enc w a xs ∧ ∀ x ∈ xs, Q x := by
  rcases Deep.open_slice ht h with ⟨rfl, _⟩ | ⟨a, len, cap, m, n, D, Pl, rfl, _, hl, hcm, hm, _, hi⟩
  · exact ⟨none, 0, [], rfl, Nat.zero_le _, fun h => absurd h (Nat.not_lt_zero _), fun x hx => by cases hx⟩
  · have hmm : len ≤ m := by rw [hm]; split <;> omega
    obtain ⟨xs, hxl, hx⟩ := list_of (fun i (x : α) => (∀ j, j < k → w.cell? (a.add (i * k + j)) = (enc x)[j]?) ∧ Q x) len fun i hil => by
      obtain ⟨cs', hc, hd⟩ := hi i (by omega)
      obtain ⟨y, rfl, hq⟩ := hel _ _ _ hd
      rw [hC] at hc
      obtain ⟨_, _, hcell⟩ := World.cells?_some hc
      exact ⟨y, fun j hj => by rw [← Deep.add_add]; exact hcell j hj, hq⟩
    refine ⟨some a, cap, xs, by rw [hxl], by omega, fun h0 => ?_, fun y hy => ?_⟩
    · obtain ⟨b, off, spot⟩ := a
      have hspot : spot = none := by
        have hv : (enc xs[0]!)[0]? = some ((enc xs[0]!)[0]'(by rw [hk]; exact k0)) := List.getElem?_eq_getElem _
        have := ((hx 0 (by omega)).1 0 k0).trans hv
        simpa [Addr.add] using World.cell?_spot this
      subst hspot
      refine ⟨b, off, rfl, fun j u hj => ?_⟩
      have hlt : j < xs.length * k := by
        have := (List.getElem?_eq_some_iff.1 hj).1
        rwa [flat_len hk] at this
      have e : j / k * k + j % k = j := by rw [Nat.mul_comm]; exact Nat.div_add_mod j k
      have hjk : j / k < xs.length := (Nat.div_lt_iff_lt_mul k0).2 hlt
      rw [← e, flat_get hk xs _ _ hjk (Nat.mod_lt _ k0)] at hj
      have := (hx (j / k) (by omega)).1 (j % k) (Nat.mod_lt _ k0)
      rw [add_plain, e] at this
      exact this.trans hj
    · obtain ⟨i, hil, rfl⟩ := List.mem_iff_getElem.1 hy
      have := (hx i (by omega)).2
      rwa [getElem!_pos xs i hil] at this
end
theorem wf_bd {a : Int} (h : (Lit.int .i64 a).wf = true) : -9223372036854775808 ≤ a ∧ a ≤ 9223372036854775807 := by
  simp [Lit.wf, IntKind.min, IntKind.max, IntKind.signed, IntKind.bits] at h
  omega
section
variable {H : Type} {ec : TypeId × Value → H} {w : World} {base : Nat} {spare : Nat → Bool} {held : Bool} {m : Nat} {x : DataW H × List MemPlace}
theorem cI : Try.prog.cellsOf 3 = 1 := by kernel_rfl
theorem cS : Try.prog.cellsOf 9 = 1 := by kernel_rfl
theorem fI {c : Value} (h : DataW.trod ec Try.prog w base spare held m 3 [c] = some x) : ∃ a, c = .int .i64 a ∧ -9223372036854775808 ≤ a ∧ a ≤ 9223372036854775807 := by
  obtain ⟨a, e, _, hw⟩ := DataW.trod_int Try.underlying3 h
  exact ⟨a, by simpa using e, wf_bd hw⟩
theorem fS {c : Value} (h : DataW.trod ec Try.prog w base spare held m 9 [c] = some x) : ∃ a, c = .string a ∧ a.size ≤ maxLen := by
  obtain ⟨a, e, _, hw⟩ := DataW.trod_string Try.underlying9 h
  exact ⟨a, by simpa using e, hw⟩
end
/-- Two ints among the arguments. -/
theorem open_two_arg {H : Type} {ec : TypeId × Value → H} {P : Program} {W : World} {r : Reach} {b0 base : Nat} {sp : Nat → Bool} {t e : TypeId} {v : Value} {d : DataW H} {p : List MemPlace} (ht : P.underlying t = some (.array 2 e)) (he : P.underlying e = some (.int .i64)) (hC : P.cellsOf t = 2) (hc : P.cellsOf e = 1)
    (hv : Value.okWide P W r b0 t v) (h : DataW.Trod ec P W base sp true t v d p) :
    ∃ a b : Int, v = .agg #[.int .i64 a, .int .i64 b] ∧ (Lit.int .i64 a).wf = true ∧ (Lit.int .i64 b).wf = true := by
  simp only [Value.okWide, ht] at hv
  obtain ⟨cs, rfl, _⟩ := hv
  obtain ⟨fuel, hf⟩ := h
  obtain ⟨xs, m, _, _, hl, hxl, hg⟩ := DataW.trod_array ht hf
  rw [hC] at hl
  obtain ⟨cs⟩ := cs
  match cs, hl, xs, hxl with
  | [c0, c1], _, [x0, x1], _ =>
    have h0 := hg 0 (by decide)
    have h1 := hg 1 (by decide)
    simp [hc, Value.cells] at h0 h1
    obtain ⟨a, ea, _, wa⟩ := DataW.trod_int he h0
    obtain ⟨b, eb, _, wb⟩ := DataW.trod_int he h1
    obtain rfl : c0 = _ := by simpa using ea
    obtain rfl : c1 = _ := by simpa using eb
    exact ⟨a, b, rfl, wa, wb⟩
end Go.Proofs.Ytdlmoijeflchgaa.Ol
