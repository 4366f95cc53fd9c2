/-
  Terms, calendars and installments among the arguments.
-/
import Derived.Test.YtaanicginfjgdaaDoorOl
import Derived.Test.YtaanicginfjgdaaDoorKc0
namespace Go.Proofs.YtaanicginfjgdaaDoor.Ol
open Go Go.ChangeShapes Go.WideShapes Go.ChangeAt Go.RowKit
open Go.Proofs.YtaanicginfjgdaaDoor
open Go.Proofs.YtaanicginfjgdaaDoor.Ln
open Go.Proofs.YtaanicginfjgdaaDoor.Kl (Cl CalIn)
set_option maxRecDepth 100000
set_option linter.unusedVariables false

section
variable {H : Type} {ec : TypeId × Value → H} {w : World} {base : Nat} {spare : Nat → Bool} {held : Bool} {m : Nat} {x : DataW H × List MemPlace}
theorem tm_cells2 {cs : List Value} (h : DataW.trod ec Tryd.prog w base spare held m 23 cs = some x) : ∃ t : Tm, cs = tenc t ∧ t.cal.size ≤ maxLen ∧ t.cur.size ≤ maxLen ∧ (-9223372036854775808 ≤ t.pr ∧ t.pr ≤ 9223372036854775807) := by
  obtain ⟨xs, n, _, _, hl, hxl, hf⟩ := DataW.trod_struct Tryd.underlying23 h
  rw [cT] at hl
  match cs, hl, xs, hxl with
  | [c0, c1, c2, c3, c4, c5, c6, c7, c8, c9, c10, c11], _, [x0, x1, x2, x3, x4, x5, x6, x7, x8, x9, x10, x11], _ =>
    clear h hl hxl
    have h0 := hf 0 _ rfl
    simp [cI] at h0
    have h1 := hf 1 _ rfl
    simp [cI] at h1
    have h2 := hf 2 _ rfl
    simp [cI] at h2
    have h3 := hf 3 _ rfl
    simp [cI] at h3
    have h4 := hf 4 _ rfl
    simp [cI] at h4
    have h5 := hf 5 _ rfl
    simp [cI] at h5
    have h6 := hf 6 _ rfl
    simp [cI] at h6
    have h7 := hf 7 _ rfl
    simp [cI] at h7
    have h8 := hf 8 _ rfl
    simp [cI] at h8
    have h9 := hf 9 _ rfl
    simp [cI] at h9
    have h10 := hf 10 _ rfl
    simp [cS] at h10
    have h11 := hf 11 _ rfl
    simp [cS] at h11
    clear hf
    obtain ⟨a0, rfl, w0⟩ := fI h0
    obtain ⟨a1, rfl, w1⟩ := fI h1
    obtain ⟨a2, rfl, w2⟩ := fI h2
    obtain ⟨a3, rfl, w3⟩ := fI h3
    obtain ⟨a4, rfl, w4⟩ := fI h4
    obtain ⟨a5, rfl, w5⟩ := fI h5
    obtain ⟨a6, rfl, w6⟩ := fI h6
    obtain ⟨a7, rfl, w7⟩ := fI h7
    obtain ⟨a8, rfl, w8⟩ := fI h8
    obtain ⟨a9, rfl, w9⟩ := fI h9
    obtain ⟨a10, rfl, w10⟩ := fS h10
    obtain ⟨a11, rfl, w11⟩ := fS h11
    exact ⟨⟨a0, a1, a2, a3, a4, a5, a6, a7, a8, a9, a10, a11⟩, rfl, w10, w11, w1⟩
/-- An int as a row of one cell. -/
def ienc (n : Int) : List Value := [.int .i64 n]
theorem ienc_len (n : Int) : (ienc n).length = 1 := rfl
theorem flat_ienc : ∀ xs : List Int, flat ienc xs = xs.map (Value.int .i64)
  | [] => rfl
  | x :: xs => by
    have ih := flat_ienc xs
    unfold flat at ih ⊢
    simp [ienc] at ih ⊢
    exact ih
theorem ints_of_row {W : World} {a : Option Addr} {xs : List Int} (h : RowIn ienc W a xs) (hl : xs.length ≤ maxLen) : Bk.IntsIn W a xs := by
  refine ⟨by unfold maxLen at hl; omega, fun h0 => ?_⟩
  obtain ⟨b, off, ha, hc⟩ := h h0
  refine ⟨b, off, ha, fun j hj => hc j _ ?_⟩
  rw [flat_ienc]
  simp [List.getD_eq_getElem?_getD, hj]
theorem int_cells {cs : List Value} (h : DataW.trod ec Tryd.prog w base spare held m 3 cs = some x) : ∃ n : Int, cs = ienc n ∧ True := by
  obtain ⟨a, e, _, _⟩ := DataW.trod_int Tryd.underlying3 h
  exact ⟨a, e, trivial⟩
theorem cW : Tryd.prog.cellsOf 44 = 1 := by kernel_rfl
theorem cK : Tryd.prog.cellsOf 46 = 3 := by kernel_rfl
theorem cal_cells {cs : List Value} (h : DataW.trod ec Tryd.prog w base spare held m 46 cs = some x) : ∃ (c : Cl) (wa ha : Option Addr) (wc hc : Nat), cs = [.string c.nm, .slice wa c.wk.length wc, .slice ha c.hol.length hc] ∧ CalIn w c wa ha := by
  obtain ⟨xs, n, _, _, hl, hxl, hf⟩ := DataW.trod_struct Tryd.underlying46 h
  rw [cK] at hl
  match cs, hl, xs, hxl with
  | [c0, c1, c2], _, [x0, x1, x2], _ =>
    clear h hl hxl
    have h0 := hf 0 _ rfl
    simp [cS] at h0
    have h1 := hf 1 _ rfl
    simp [cW] at h1
    have h2 := hf 2 _ rfl
    simp [cW] at h2
    clear hf
    obtain ⟨a0, rfl, w0⟩ := fS h0
    obtain ⟨p1, k1, l1, e1, z1, r1, _⟩ := open_row (Q := fun _ => True) ienc_len (by decide) cI (fun _ _ _ h => int_cells h) Tryd.underlying44 h1
    obtain ⟨p2, k2, l2, e2, z2, r2, _⟩ := open_row (Q := fun _ => True) ienc_len (by decide) cI (fun _ _ _ h => int_cells h) Tryd.underlying44 h2
    simp only [List.cons.injEq, and_true] at e1 e2
    subst e1 e2
    exact ⟨⟨a0, l1, l2⟩, p1, p2, k1, k2, rfl, ⟨ints_of_row r1 z1, ints_of_row r2 z2, w0⟩⟩
end
/-- Terms among the arguments. -/
theorem open_terms_arg {H : Type} {ec : TypeId × Value → H} {W : World} {r : Reach} {b0 base : Nat} {sp : Nat → Bool} {v : Value} {d : DataW H} {p : List MemPlace}
    (hv : Value.okWide Tryd.prog W r b0 23 v) (h : DataW.Trod ec Tryd.prog W base sp true 23 v d p) :
    ∃ t : Tm, v = .agg #[.int .i64 (t).me, .int .i64 (t).pr, .int .i64 (t).ppm, .int .i64 (t).stt, .int .i64 (t).ev, .int .i64 (t).ct, .int .i64 (t).ba, .int .i64 (t).mo, .int .i64 (t).pen, .int .i64 (t).fe, .string (t).cal, .string (t).cur] ∧ t.cal.size ≤ maxLen ∧ t.cur.size ≤ maxLen ∧ (-9223372036854775808 ≤ t.pr ∧ t.pr ≤ 9223372036854775807) := by
  obtain ⟨cs, rfl, _⟩ := okWide_struct Tryd.underlying23 hv
  obtain ⟨fuel, hf⟩ := h
  obtain ⟨t, e, h1, h2⟩ := tm_cells2 hf
  refine ⟨t, ?_, h1, h2⟩
  obtain ⟨cs⟩ := cs
  have e' : cs = _ := e
  rw [e']
  rfl
/-- A calendar among the arguments. -/
theorem open_cal_arg {H : Type} {ec : TypeId × Value → H} {W : World} {r : Reach} {b0 base : Nat} {sp : Nat → Bool} {v : Value} {d : DataW H} {p : List MemPlace}
    (hv : Value.okWide Tryd.prog W r b0 46 v) (h : DataW.Trod ec Tryd.prog W base sp true 46 v d p) :
    ∃ (c : Cl) (wa ha : Option Addr) (wc hc : Nat), v = .agg #[.string c.nm, .slice wa c.wk.length wc, .slice ha c.hol.length hc] ∧ CalIn W c wa ha := by
  obtain ⟨cs, rfl, _⟩ := okWide_struct Tryd.underlying46 hv
  obtain ⟨fuel, hf⟩ := h
  obtain ⟨c, wa, ha, wc, hc, e, h1⟩ := cal_cells hf
  refine ⟨c, wa, ha, wc, hc, ?_, h1⟩
  obtain ⟨cs⟩ := cs
  have e' : cs = _ := e
  rw [e']
/-- Installments among the arguments. -/
theorem open_dues_arg {H : Type} {ec : TypeId × Value → H} {W : World} {r : Reach} {b0 base : Nat} {sp : Nat → Bool} {v : Value} {d : DataW H} {p : List MemPlace}
    (hv : Value.okWide Tryd.prog W r b0 24 v) (h : DataW.Trod ec Tryd.prog W base sp true 24 v d p) :
    ∃ (a : Option Addr) (cap : Nat) (ds : List Du), v = .slice a ds.length cap ∧ ds.length ≤ maxLen ∧ RowIn denc W a ds ∧ Dok ds := by
  obtain ⟨a0, len, cap, rfl⟩ := okWide_slice Tryd.underlying24 hv
  obtain ⟨fuel, hf⟩ := h
  obtain ⟨p, k, l, e, z, r, q⟩ := open_row denc_len (by decide) cD (fun _ _ _ h => due_cells h) Tryd.underlying24 hf
  simp [Value.cells] at e
  obtain ⟨rfl, rfl, rfl⟩ := e
  exact ⟨_, _, l, rfl, z, r, q⟩
end Go.Proofs.YtaanicginfjgdaaDoor.Ol
