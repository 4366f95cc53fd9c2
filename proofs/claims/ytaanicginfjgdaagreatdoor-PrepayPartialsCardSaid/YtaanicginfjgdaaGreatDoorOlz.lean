/-
 Terms, calendars and installments among the arguments.
 A loan among the arguments, with room for its installments.
-/
import Derived.Test.YtaanicginfjgdaaGreatDoorOl
import Derived.Test.YtaanicginfjgdaaGreatDoorKc0
namespace Go.Proofs.YtaanicginfjgdaaGreatDoor.Ol
open Go Go.ChangeShapes Go.WideShapes Go.ChangeAt Go.RowKit
open Go.Proofs.YtaanicginfjgdaaGreatDoor
open Go.Proofs.YtaanicginfjgdaaGreatDoor.Ln
open Go.Proofs.YtaanicginfjgdaaGreatDoor.Kl (Cl CalIn)
set_option maxRecDepth 100000
set_option linter.unusedVariables false

section
variable {H : Type} {ec : TypeId × Value → H} {w : World} {base : Nat} {spare : Nat → Bool} {held : Bool} {m : Nat} {x : DataW H × List MemPlace}
def ienc (n : Int) : List Value := [.int .i64 n]
theorem ienc_len (n : Int) : (ienc n).length = 1 := rfl
theorem flat_ienc : ∀ xs : List Int, flat ienc xs = xs.map (Value.int .i64)
 | [] => rfl
 | x :: xs => by
  have ih := flat_ienc xs
  unfold flat at ih ⊢
  simp [ienc] at ih ⊢
  exact ih
theorem ints_of_row {W : World} {a : Option Addr} {xs : List Int} (h : RowIn ienc W a xs) (hl : xs.length ≤ maxLen) : Bk.IntsIn W a xs := by
 refine ⟨by unfold maxLen at hl; omega, fun h0 => ?_⟩
 obtain ⟨b, off, ha, hc⟩ := h h0
 refine ⟨b, off, ha, fun j hj => hc j _ ?_⟩
 rw [flat_ienc]
 simp [List.getD_eq_getElem?_getD, hj]
theorem int_cells {cs : List Value} (h : DataW.trod ec Tryz.prog w base spare held m 3 cs = some x) : ∃ n : Int, cs = ienc n ∧ True := by
 obtain ⟨a, e, _, _⟩ := DataW.trod_int Tryz.underlying3 h
 exact ⟨a, e, trivial⟩
theorem cW : Tryz.prog.cellsOf 42 = 1 := by kernel_rfl
theorem cK : Tryz.prog.cellsOf 44 = 3 := by kernel_rfl
theorem cal_cells {cs : List Value} (h : DataW.trod ec Tryz.prog w base spare held m 44 cs = some x) : ∃ (c : Cl) (wa ha : Option Addr) (wc hc : Nat), cs = [.string c.nm, .slice wa c.wk.length wc, .slice ha c.hol.length hc] ∧ CalIn w c wa ha := by
 obtain ⟨xs, n, _, _, hl, hxl, hf⟩ := DataW.trod_struct Tryz.underlying44 h
 rw [cK] at hl
 match cs, hl, xs, hxl with
 | [c0, c1, c2], _, [x0, x1, x2], _ =>
  clear h hl hxl
  have h0 := hf 0 _ rfl
  simp [cS] at h0
  have h1 := hf 1 _ rfl
  simp [cW] at h1
  have h2 := hf 2 _ rfl
  simp [cW] at h2
  clear hf
  obtain ⟨a0, rfl, w0⟩ := fS h0
  obtain ⟨p1, k1, l1, e1, z1, r1, _⟩ := open_row (Q := fun _ => True) ienc_len (by decide) cI (fun _ _ _ h => int_cells h) Tryz.underlying42 h1
  obtain ⟨p2, k2, l2, e2, z2, r2, _⟩ := open_row (Q := fun _ => True) ienc_len (by decide) cI (fun _ _ _ h => int_cells h) Tryz.underlying42 h2
  simp only [List.cons.injEq, and_true] at e1 e2
  subst e1 e2
  exact ⟨⟨a0, l1, l2⟩, p1, p2, k1, k2, rfl, ⟨ints_of_row r1 z1, ints_of_row r2 z2, w0⟩⟩
end
theorem open_cal_arg {H : Type} {ec : TypeId × Value → H} {W : World} {r : Reach} {b0 base : Nat} {sp : Nat → Bool} {v : Value} {d : DataW H} {p : List MemPlace}
  (hv : Value.okWide Tryz.prog W r b0 44 v) (h : DataW.Trod ec Tryz.prog W base sp true 44 v d p) :
  ∃ (c : Cl) (wa ha : Option Addr) (wc hc : Nat), v = .agg #[.string c.nm, .slice wa c.wk.length wc, .slice ha c.hol.length hc] ∧ CalIn W c wa ha := by
 obtain ⟨cs, rfl, _⟩ := okWide_struct Tryz.underlying44 hv
 obtain ⟨fuel, hf⟩ := h
 obtain ⟨c, wa, ha, wc, hc, e, h1⟩ := cal_cells hf
 refine ⟨c, wa, ha, wc, hc, ?_, h1⟩
 obtain ⟨cs⟩ := cs
 have e' : cs = _ := e
 rw [e']
end Go.Proofs.YtaanicginfjgdaaGreatDoor.Ol

namespace Go.Proofs.YtaanicginfjgdaaGreatDoor.Ol
open Go Go.ChangeShapes Go.WideShapes Go.ChangeAt Go.RowKit
open Go.Proofs.YtaanicginfjgdaaGreatDoor
open Go.Proofs.YtaanicginfjgdaaGreatDoor.Ln
set_option maxRecDepth 100000
set_option linter.unusedVariables false

section
variable {H : Type} {ec : TypeId × Value → H} {w : World} {base : Nat} {spare : Nat → Bool} {held : Bool} {m : Nat} {x : DataW H × List MemPlace}
theorem loan_room {l : Lo} {da ca : Option Addr} {dk ck : Nat} (h : DataW.trod ec Tryz.prog w base spare held m 27 [.int .i64 (l).id, .int .i64 (l).ac, .int .i64 (l).st, .int .i64 (l).pp, .int .i64 (l).pi, .int .i64 (l).fee, .int .i64 (l).pen, .int .i64 (l).chg, .int .i64 (l).prov, .int .i64 (l).loss, .int .i64 (l).rcv, .int .i64 ((l).tm).me, .int .i64 ((l).tm).pr, .int .i64 ((l).tm).ppm, .int .i64 ((l).tm).stt, .int .i64 ((l).tm).ev, .int .i64 ((l).tm).ct, .int .i64 ((l).tm).ba, .int .i64 ((l).tm).mo, .int .i64 ((l).tm).pen, .int .i64 ((l).tm).fe, .string ((l).tm).cal, .string ((l).tm).cur, .slice da (l).ds.length dk, .slice ca (l).cs.length ck] = some x) : l.ds.length ≤ dk := by
 obtain ⟨xs, n, _, _, hl, hxl, hf⟩ := DataW.trod_struct Tryz.underlying27 h
 match xs, hxl with
 | [x0, x1, x2, x3, x4, x5, x6, x7, x8, x9, x10, x11, x12, x13], _ =>
  have h12 := hf 12 _ rfl
  simp [cDl] at h12
  rcases Deep.open_slice Tryz.underlying24 h12 with ⟨e, _⟩ | ⟨a, len, cap, k, n', D, Pl, e, _, hlc, _⟩
  ·simp at e
   rw [e.2.1]
   exact Nat.zero_le _
  ·simp at e
   omega
end
theorem open_ploan_arg {H : Type} {ec : TypeId × Value → H} {W : World} {r : Reach} {b0 base : Nat} {sp : Nat → Bool} {v : Value} {d : DataW H} {p : List MemPlace}
  (hv : Value.okWide Tryz.prog W r b0 27 v) (h : DataW.Trod ec Tryz.prog W base sp true 27 v d p) :
  ∃ (l : Lo) (da ca : Option Addr) (dk ck : Nat), v = (.agg #[.int .i64 (l).id, .int .i64 (l).ac, .int .i64 (l).st, .int .i64 (l).pp, .int .i64 (l).pi, .int .i64 (l).fee, .int .i64 (l).pen, .int .i64 (l).chg, .int .i64 (l).prov, .int .i64 (l).loss, .int .i64 (l).rcv, .int .i64 ((l).tm).me, .int .i64 ((l).tm).pr, .int .i64 ((l).tm).ppm, .int .i64 ((l).tm).stt, .int .i64 ((l).tm).ev, .int .i64 ((l).tm).ct, .int .i64 ((l).tm).ba, .int .i64 ((l).tm).mo, .int .i64 ((l).tm).pen, .int .i64 ((l).tm).fe, .string ((l).tm).cal, .string ((l).tm).cur, .slice da (l).ds.length dk, .slice ca (l).cs.length ck]) ∧ RowIn denc W da l.ds ∧ Dok l.ds ∧ RowIn cenc W ca l.cs ∧ l.ds.length ≤ dk := by
 obtain ⟨l, da, ca, dk, ck, e, h1, h2, h3⟩ := open_loan_arg hv h
 refine ⟨l, da, ca, dk, ck, e, h1, h2, h3, ?_⟩
 subst e
 obtain ⟨fuel, hf⟩ := h
 exact loan_room hf
end Go.Proofs.YtaanicginfjgdaaGreatDoor.Ol
