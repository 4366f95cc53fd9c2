/-
  Terms, calendars and installments among the arguments.
-/
import Derived.Test.YtdlmoijeflchgaaOl
import Derived.Test.YtdlmoijeflchgaaKc0
namespace Go.Proofs.Ytdlmoijeflchgaa.Ol
open Go Go.ChangeShapes Go.WideShapes Go.ChangeAt Go.RowKit
open Go.Proofs.Ytdlmoijeflchgaa
open Go.Proofs.Ytdlmoijeflchgaa.Ln
open Go.Proofs.Ytdlmoijeflchgaa.Kl (Cl CalIn)
set_option maxRecDepth 100000
set_option linter.unusedVariables false

section
variable {H : Type} {ec : TypeId × Value → H} {w : World} {base : Nat} {spare : Nat → Bool} {held : Bool} {m : Nat} {x : DataW H × List MemPlace}
/-- An int as a row of one cell. -/
def ienc (n : Int) : List Value := [.int .i64 n]
theorem ienc_len (n : Int) : (ienc n).length = 1 := rfl
theorem flat_ienc : ∀ xs : List Int, flat ienc xs = xs.map (Value.int .i64)
  | [] => rfl
  | x :: xs => by
    have ih := flat_ienc xs
    unfold flat at ih ⊢
    simp [ienc] at ih ⊢
    exact ih
theorem ints_of_row {W : World} {a : Option Addr} {xs : List Int} (h : RowIn ienc W a xs) (hl : xs.length ≤ maxLen) : Bk.IntsIn W a xs := by
  refine ⟨by unfold maxLen at hl; omega, fun h0 => ?_⟩
  obtain ⟨b, off, ha, hc⟩ := h h0
  refine ⟨b, off, ha, fun j hj => hc j _ ?_⟩
  rw [flat_ienc]
  simp [List.getD_eq_getElem?_getD, hj]
theorem int_cells {cs : List Value} (h : DataW.trod ec Try.prog w base spare held m 3 cs = some x) : ∃ n : Int, cs = ienc n ∧ True := by
  obtain ⟨a, e, _, _⟩ := DataW.trod_int Try.underlying3 h
  exact ⟨a, e, trivial⟩
theorem cW : Try.prog.cellsOf 24 = 1 := by kernel_rfl
theorem cK : Try.prog.cellsOf 26 = 3 := by kernel_rfl
theorem cal_cells {cs : List Value} (h : DataW.trod ec Try.prog w base spare held m 26 cs = some x) : ∃ (c : Cl) (wa ha : Option Addr) (wc hc : Nat), cs = [.string c.nm, .slice wa c.wk.length wc, .slice ha c.hol.length hc] ∧ CalIn w c wa ha := by
  obtain ⟨xs, n, _, _, hl, hxl, hf⟩ := DataW.trod_struct Try.underlying26 h
  rw [cK] at hl
  match cs, hl, xs, hxl with
  | [c0, c1, c2], _, [x0, x1, x2], _ =>
    clear h hl hxl
    have h0 := hf 0 _ rfl
    simp [cS] at h0
    have h1 := hf 1 _ rfl
    simp [cW] at h1
    have h2 := hf 2 _ rfl
    simp [cW] at h2
    clear hf
    obtain ⟨a0, rfl, w0⟩ := fS h0
    obtain ⟨p1, k1, l1, e1, z1, r1, _⟩ := open_row (Q := fun _ => True) ienc_len (by decide) cI (fun _ _ _ h => int_cells h) Try.underlying24 h1
    obtain ⟨p2, k2, l2, e2, z2, r2, _⟩ := open_row (Q := fun _ => True) ienc_len (by decide) cI (fun _ _ _ h => int_cells h) Try.underlying24 h2
    simp only [List.cons.injEq, and_true] at e1 e2
    subst e1 e2
    exact ⟨⟨a0, l1, l2⟩, p1, p2, k1, k2, rfl, ⟨ints_of_row r1 z1, ints_of_row r2 z2, w0⟩⟩
end
/-- A calendar among the arguments. -/
theorem open_cal_arg {H : Type} {ec : TypeId × Value → H} {W : World} {r : Reach} {b0 base : Nat} {sp : Nat → Bool} {v : Value} {d : DataW H} {p : List MemPlace}
    (hv : Value.okWide Try.prog W r b0 26 v) (h : DataW.Trod ec Try.prog W base sp true 26 v d p) :
    ∃ (c : Cl) (wa ha : Option Addr) (wc hc : Nat), v = .agg #[.string c.nm, .slice wa c.wk.length wc, .slice ha c.hol.length hc] ∧ CalIn W c wa ha := by
  obtain ⟨cs, rfl, _⟩ := okWide_struct Try.underlying26 hv
  obtain ⟨fuel, hf⟩ := h
  obtain ⟨c, wa, ha, wc, hc, e, h1⟩ := cal_cells hf
  refine ⟨c, wa, ha, wc, hc, ?_, h1⟩
  obtain ⟨cs⟩ := cs
  have e' : cs = _ := e
  rw [e']
end Go.Proofs.Ytdlmoijeflchgaa.Ol
