/-
  Parts of the proof: Laid2.
-/
import Derived.Test.YtlolflephnbbcaaGreatDoorRows
import Derived.Test.YtlolflephnbbcaaGreatDoorQ07
import Derived.Test.YtlolflephnbbcaaGreatDoorQ12
import Derived.ProofKit
import Derived.LaidMore
import Derived.OpenShut
import Derived.Stop.Joined
namespace Go.Proofs.YtlolflephnbbcaaGreatDoor.Rd
open Go.ChangeShapes Go.WideShapes Go.ChangeAt Go.WideMaps Go.WideElems Go.RowKit
open Go.Proofs.YtlolflephnbbcaaGreatDoor

theorem gSteps : Tryz.prog.globalNamed "corebank/rounding.steps" = some 1 := by kernel_rfl
theorem tSteps : (Tryz.prog.globals[1]?).map (·.type) = some 238 := by kernel_rfl
theorem cSteps : Tryz.prog.cellsOf 238 = 10 := by kernel_rfl
theorem cStep : Tryz.prog.cellsOf 237 = 2 := by kernel_rfl
theorem cInt : Tryz.prog.cellsOf 3 = 1 := by kernel_rfl
section
variable {H : Type} {enc : TypeId × Value → H} {w : World} {base : Nat} {spare : Nat → Bool} {held : Bool} {fuel : Nat} {x : DataW H × List MemPlace}
theorem int_cell {a : Value} (h : DataW.trod enc Tryz.prog w base spare held fuel 3 [a] = some x) : ∃ n, a = .int .i64 n ∧ x.1 = .lit (.int .i64 n) := by
 obtain ⟨k, e1, e2, _⟩ := DataW.trod_int Tryz.underlying3 h
 exact ⟨k, by simpa using e1, by rw [e2]⟩
theorem pair_cell {a b : Value} (h : DataW.trod enc Tryz.prog w base spare held fuel 237 [a, b] = some x) : ∃ n k, a = .int .i64 n ∧ b = .int .i64 k ∧ x.1 = .agg [.lit (.int .i64 n), .lit (.int .i64 k)] := by
 obtain ⟨y0, y1, n, rfl, _, h0, h1⟩ := trod_struct2 Tryz.underlying237 h
 simp only [cInt] at h0 h1
 obtain ⟨u, rfl, e0⟩ := int_cell h0
 obtain ⟨v, rfl, e1⟩ := int_cell h1
 exact ⟨u, v, rfl, rfl, by rw [e0, e1]⟩
end
def Head (W : World) (n : String) (d : DataW Unit) : Prop := ∃ g t cs fuel p, Tryz.prog.globalNamed n = some g ∧ (Tryz.prog.globals[g]?).map (·.type) = some t ∧ W.var? Tryz.prog n = some cs ∧ DataW.trod (fun _ => ()) Tryz.prog W 0 (fun _ => true) false fuel t cs.toList = some (d, p)
set_option maxRecDepth 100000 in
theorem stp_of_head {W : World} (h : Head W "corebank/rounding.steps" Rows.laid_corebank_rounding_steps) : Stp W := by
 obtain ⟨g0, t0, cs0, f0, p0, hg0, ht0, hv0, hd0⟩ := h
 obtain rfl := Option.some.inj (gSteps.symm.trans hg0)
 obtain rfl := Option.some.inj (tSteps.symm.trans ht0)
 obtain ⟨xs, m, rfl, hx, hlen, hn, hel⟩ := DataW.trod_array Tryz.underlying238 hd0
 rw [cSteps] at hlen
 obtain ⟨l⟩ := cs0
 have hl : l.length = 10 := hlen
 match l, hl with
 | [c0, c1, c2, c3, c4, c5, c6, c7, c8, c9], _ =>
  match xs, hn with
  | [x0, x1, x2, x3, x4], _ =>
   have h1 := hel 1 (by decide)
   have h2 := hel 2 (by decide)
   have h3 := hel 3 (by decide)
   have h4 := hel 4 (by decide)
   simp only [cStep] at h1 h2 h3 h4
   obtain ⟨n2, n3, rfl, rfl, e1⟩ := pair_cell (x := x1) h1
   obtain ⟨n4, n5, rfl, rfl, e2⟩ := pair_cell (x := x2) h2
   obtain ⟨n6, n7, rfl, rfl, e3⟩ := pair_cell (x := x3) h3
   obtain ⟨n8, n9, rfl, rfl, e4⟩ := pair_cell (x := x4) h4
   simp only [Rows.laid_corebank_rounding_steps, Prod.mk.injEq, List.map_cons, List.map_nil, DataW.agg.injEq, List.cons.injEq, e1, e2, e3, e4] at hx
   simp at hx
   obtain ⟨⟨_, ⟨rfl, rfl⟩, ⟨rfl, rfl⟩, ⟨rfl, rfl⟩, rfl, rfl⟩, _⟩ := hx
   have hc := fun k => World.var?_cell hg0 hv0 k
   exact ⟨by simpa using hc 2, by simpa using hc 3, by simpa using hc 4, by simpa using hc 5, by simpa using hc 6, by simpa using hc 7, by simpa using hc 8, by simpa using hc 9⟩

theorem gClasses : Tryz.prog.globalNamed "corebank/arrears.classes" = some 0 := by kernel_rfl
theorem tClasses : (Tryz.prog.globals[0]?).map (·.type) = some 103 := by kernel_rfl
theorem cClasses : Tryz.prog.cellsOf 103 = 4 := by kernel_rfl
set_option maxRecDepth 100000 in
theorem ctb_of_head {W : World} (h : Head W "corebank/arrears.classes" Rows.laid_corebank_arrears_classes) : Ln.Ctb W := by
 obtain ⟨g0, t0, cs0, f0, p0, hg0, ht0, hv0, hd0⟩ := h
 obtain rfl := Option.some.inj (gClasses.symm.trans hg0)
 obtain rfl := Option.some.inj (tClasses.symm.trans ht0)
 obtain ⟨xs, m, rfl, hx, hlen, hn, hel⟩ := DataW.trod_array Tryz.underlying103 hd0
 rw [cClasses] at hlen
 obtain ⟨l⟩ := cs0
 have hl : l.length = 4 := hlen
 match l, hl with
 | [c0, c1, c2, c3], _ =>
  match xs, hn with
  | [x0, x1, x2, x3], _ =>
   have h0 := hel 0 (by decide)
   have h1 := hel 1 (by decide)
   have h2 := hel 2 (by decide)
   have h3 := hel 3 (by decide)
   simp only [cInt] at h0 h1 h2 h3
   obtain ⟨n0, rfl, e0⟩ := int_cell (x := x0) h0
   obtain ⟨n1, rfl, e1⟩ := int_cell (x := x1) h1
   obtain ⟨n2, rfl, e2⟩ := int_cell (x := x2) h2
   obtain ⟨n3, rfl, e3⟩ := int_cell (x := x3) h3
   simp only [Rows.laid_corebank_arrears_classes, Prod.mk.injEq, List.map_cons, List.map_nil, DataW.agg.injEq, List.cons.injEq, e0, e1, e2, e3] at hx
   simp at hx
   obtain ⟨⟨rfl, rfl, rfl, rfl⟩, _⟩ := hx
   have hc := fun k => World.var?_cell hg0 hv0 k
   exact ⟨by simpa using hc 0, by simpa using hc 1, by simpa using hc 2, by simpa using hc 3⟩
end Go.Proofs.YtlolflephnbbcaaGreatDoor.Rd
