/-
 The table of rounding lies where the row's condition lays it.
-/
import Derived.Test.YtaanicginfjgdaaGreatDoorRows
import Derived.Test.YtaanicginfjgdaaGreatDoorRd1
import Derived.ProofKit
import Derived.LaidMore
import Derived.OpenShut
import Derived.Stop.Joined
namespace Go.Proofs.YtaanicginfjgdaaGreatDoor.Rd
open Go.ChangeShapes Go.WideShapes Go.ChangeAt Go.WideMaps Go.WideElems Go.RowKit
open Go.Proofs.YtaanicginfjgdaaGreatDoor

theorem gSteps : Tryz.prog.globalNamed "corebank/rounding.steps" = some 0 := by kernel_rfl
theorem tSteps : (Tryz.prog.globals[0]?).map (·.type) = some 141 := by kernel_rfl
theorem cSteps : Tryz.prog.cellsOf 141 = 10 := by kernel_rfl
theorem cStep : Tryz.prog.cellsOf 140 = 2 := by kernel_rfl
theorem cInt : Tryz.prog.cellsOf 3 = 1 := by kernel_rfl
section
variable {H : Type} {enc : TypeId × Value → H} {w : World} {base : Nat} {spare : Nat → Bool} {held : Bool} {fuel : Nat} {x : DataW H × List MemPlace}
theorem int_cell {a : Value} (h : DataW.trod enc Tryz.prog w base spare held fuel 3 [a] = some x) : ∃ n, a = .int .i64 n ∧ x.1 = .lit (.int .i64 n) := by
 obtain ⟨k, e1, e2, _⟩ := DataW.trod_int Tryz.underlying3 h
 exact ⟨k, by simpa using e1, by rw [e2]⟩
theorem pair_cell {a b : Value} (h : DataW.trod enc Tryz.prog w base spare held fuel 140 [a, b] = some x) : ∃ n k, a = .int .i64 n ∧ b = .int .i64 k ∧ x.1 = .agg [.lit (.int .i64 n), .lit (.int .i64 k)] := by
 obtain ⟨y0, y1, n, rfl, _, h0, h1⟩ := trod_struct2 Tryz.underlying140 h
 simp only [cInt] at h0 h1
 obtain ⟨u, rfl, e0⟩ := int_cell h0
 obtain ⟨v, rfl, e1⟩ := int_cell h1
 exact ⟨u, v, rfl, rfl, by rw [e0, e1]⟩
end
set_option maxRecDepth 100000 in
theorem stp_of_laid {W : World} (h : laidMetH Tryz.prog [("corebank/rounding.steps", Rows.laid_corebank_rounding_steps)] W) : Stp W := by
 rw [MakeChecks.laidMetH_plain _ _ _ (by kernel_rfl)] at h
 obtain ⟨ps, ⟨g0, t0, cs0, f0, p0, q0, hg0, ht0, hv0, hd0, _⟩, _⟩ := h
 obtain rfl := Option.some.inj (gSteps.symm.trans hg0)
 obtain rfl := Option.some.inj (tSteps.symm.trans ht0)
 obtain ⟨xs, m, rfl, hx, hlen, hn, hel⟩ := DataW.trod_array Tryz.underlying141 hd0
 rw [cSteps] at hlen
 obtain ⟨l⟩ := cs0
 have hl : l.length = 10 := hlen
 match l, hl with
 | [c0, c1, c2, c3, c4, c5, c6, c7, c8, c9], _ =>
  match xs, hn with
  | [x0, x1, x2, x3, x4], _ =>
   have h1 := hel 1 (by decide)
   have h2 := hel 2 (by decide)
   have h3 := hel 3 (by decide)
   have h4 := hel 4 (by decide)
   simp only [cStep] at h1 h2 h3 h4
   obtain ⟨n2, n3, rfl, rfl, e1⟩ := pair_cell (x := x1) h1
   obtain ⟨n4, n5, rfl, rfl, e2⟩ := pair_cell (x := x2) h2
   obtain ⟨n6, n7, rfl, rfl, e3⟩ := pair_cell (x := x3) h3
   obtain ⟨n8, n9, rfl, rfl, e4⟩ := pair_cell (x := x4) h4
   simp only [Rows.laid_corebank_rounding_steps, Prod.mk.injEq, List.map_cons, List.map_nil, DataW.agg.injEq, List.cons.injEq, e1, e2, e3, e4] at hx
   simp at hx
   obtain ⟨⟨_, ⟨rfl, rfl⟩, ⟨rfl, rfl⟩, ⟨rfl, rfl⟩, rfl, rfl⟩, _⟩ := hx
   have hc := fun k => World.var?_cell hg0 hv0 k
   exact ⟨by simpa using hc 2, by simpa using hc 3, by simpa using hc 4, by simpa using hc 5, by simpa using hc 6, by simpa using hc 7, by simpa using hc 8, by simpa using hc 9⟩
end Go.Proofs.YtaanicginfjgdaaGreatDoor.Rd
