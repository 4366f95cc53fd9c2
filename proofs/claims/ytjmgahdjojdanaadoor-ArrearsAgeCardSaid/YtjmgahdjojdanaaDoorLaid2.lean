/-
  The tables of rounding and of the classes of arrears lie where the row's condition lays it.
-/
import Derived.Test.YtjmgahdjojdanaaDoorRows
import Derived.Test.YtjmgahdjojdanaaDoorRd1
import Derived.Test.YtjmgahdjojdanaaDoorPv1
import Derived.ProofKit
import Derived.LaidMore
import Derived.OpenShut
import Derived.Stop.Joined
namespace Go.Proofs.YtjmgahdjojdanaaDoor.Rd
open Go.ChangeShapes Go.WideShapes Go.ChangeAt Go.WideMaps Go.WideElems Go.RowKit
open Go.Proofs.YtjmgahdjojdanaaDoor

theorem gSteps : Tryd.prog.globalNamed "corebank/rounding.steps" = some 1 := by kernel_rfl
theorem tSteps : (Tryd.prog.globals[1]?).map (·.type) = some 126 := by kernel_rfl
theorem cSteps : Tryd.prog.cellsOf 126 = 10 := by kernel_rfl
theorem cStep : Tryd.prog.cellsOf 125 = 2 := by kernel_rfl
theorem cInt : Tryd.prog.cellsOf 3 = 1 := by kernel_rfl
section
variable {H : Type} {enc : TypeId × Value → H} {w : World} {base : Nat} {spare : Nat → Bool} {held : Bool} {fuel : Nat} {x : DataW H × List MemPlace}
theorem int_cell {a : Value} (h : DataW.trod enc Tryd.prog w base spare held fuel 3 [a] = some x) : ∃ n, a = .int .i64 n ∧ x.1 = .lit (.int .i64 n) := by
  obtain ⟨k, e1, e2, _⟩ := DataW.trod_int Tryd.underlying3 h
  exact ⟨k, by simpa using e1, by rw [e2]⟩
theorem pair_cell {a b : Value} (h : DataW.trod enc Tryd.prog w base spare held fuel 125 [a, b] = some x) : ∃ n k, a = .int .i64 n ∧ b = .int .i64 k ∧ x.1 = .agg [.lit (.int .i64 n), .lit (.int .i64 k)] := by
  obtain ⟨y0, y1, n, rfl, _, h0, h1⟩ := trod_struct2 Tryd.underlying125 h
  simp only [cInt] at h0 h1
  obtain ⟨u, rfl, e0⟩ := int_cell h0
  obtain ⟨v, rfl, e1⟩ := int_cell h1
  exact ⟨u, v, rfl, rfl, by rw [e0, e1]⟩
end
/-- A laid variable, alone. -/
def Head (W : World) (n : String) (d : DataW Unit) : Prop := ∃ g t cs fuel p, Tryd.prog.globalNamed n = some g ∧ (Tryd.prog.globals[g]?).map (·.type) = some t ∧ W.var? Tryd.prog n = some cs ∧ DataW.trod (fun _ => ()) Tryd.prog W 0 (fun _ => true) false fuel t cs.toList = some (d, p)
set_option maxRecDepth 100000 in
theorem stp_of_head {W : World} (h : Head W "corebank/rounding.steps" Rows.laid_corebank_rounding_steps) : Stp W := by
  obtain ⟨g0, t0, cs0, f0, p0, hg0, ht0, hv0, hd0⟩ := h
  obtain rfl := Option.some.inj (gSteps.symm.trans hg0)
  obtain rfl := Option.some.inj (tSteps.symm.trans ht0)
  obtain ⟨xs, m, rfl, hx, hlen, hn, hel⟩ := DataW.trod_array Tryd.underlying126 hd0
  rw [cSteps] at hlen
  obtain ⟨l⟩ := cs0
  have hl : l.length = 10 := hlen
  match l, hl with
  | [c0, c1, c2, c3, c4, c5, c6, c7, c8, c9], _ =>
    match xs, hn with
    | [x0, x1, x2, x3, x4], _ =>
      have h1 := hel 1 (by decide)
      have h2 := hel 2 (by decide)
      have h3 := hel 3 (by decide)
      have h4 := hel 4 (by decide)
      simp only [cStep] at h1 h2 h3 h4
      obtain ⟨n2, n3, rfl, rfl, e1⟩ := pair_cell (x := x1) h1
      obtain ⟨n4, n5, rfl, rfl, e2⟩ := pair_cell (x := x2) h2
      obtain ⟨n6, n7, rfl, rfl, e3⟩ := pair_cell (x := x3) h3
      obtain ⟨n8, n9, rfl, rfl, e4⟩ := pair_cell (x := x4) h4
      simp only [Rows.laid_corebank_rounding_steps, Prod.mk.injEq, List.map_cons, List.map_nil, DataW.agg.injEq, List.cons.injEq, e1, e2, e3, e4] at hx
      simp at hx
      obtain ⟨⟨_, ⟨rfl, rfl⟩, ⟨rfl, rfl⟩, ⟨rfl, rfl⟩, rfl, rfl⟩, _⟩ := hx
      have hc := fun k => World.var?_cell hg0 hv0 k
      exact ⟨by simpa using hc 2, by simpa using hc 3, by simpa using hc 4, by simpa using hc 5, by simpa using hc 6, by simpa using hc 7, by simpa using hc 8, by simpa using hc 9⟩

theorem gClasses : Tryd.prog.globalNamed "corebank/arrears.classes" = some 0 := by kernel_rfl
theorem tClasses : (Tryd.prog.globals[0]?).map (·.type) = some 56 := by kernel_rfl
theorem cClasses : Tryd.prog.cellsOf 56 = 4 := by kernel_rfl
set_option maxRecDepth 100000 in
theorem ctb_of_head {W : World} (h : Head W "corebank/arrears.classes" Rows.laid_corebank_arrears_classes) : Ln.Ctb W := by
  obtain ⟨g0, t0, cs0, f0, p0, hg0, ht0, hv0, hd0⟩ := h
  obtain rfl := Option.some.inj (gClasses.symm.trans hg0)
  obtain rfl := Option.some.inj (tClasses.symm.trans ht0)
  obtain ⟨xs, m, rfl, hx, hlen, hn, hel⟩ := DataW.trod_array Tryd.underlying56 hd0
  rw [cClasses] at hlen
  obtain ⟨l⟩ := cs0
  have hl : l.length = 4 := hlen
  match l, hl with
  | [c0, c1, c2, c3], _ =>
    match xs, hn with
    | [x0, x1, x2, x3], _ =>
      have h0 := hel 0 (by decide)
      have h1 := hel 1 (by decide)
      have h2 := hel 2 (by decide)
      have h3 := hel 3 (by decide)
      simp only [cInt] at h0 h1 h2 h3
      obtain ⟨n0, rfl, e0⟩ := int_cell (x := x0) h0
      obtain ⟨n1, rfl, e1⟩ := int_cell (x := x1) h1
      obtain ⟨n2, rfl, e2⟩ := int_cell (x := x2) h2
      obtain ⟨n3, rfl, e3⟩ := int_cell (x := x3) h3
      simp only [Rows.laid_corebank_arrears_classes, Prod.mk.injEq, List.map_cons, List.map_nil, DataW.agg.injEq, List.cons.injEq, e0, e1, e2, e3] at hx
      simp at hx
      obtain ⟨⟨rfl, rfl, rfl, rfl⟩, _⟩ := hx
      have hc := fun k => World.var?_cell hg0 hv0 k
      exact ⟨by simpa using hc 0, by simpa using hc 1, by simpa using hc 2, by simpa using hc 3⟩
theorem laid_of {W : World} (h : laidMetH Tryd.prog [("corebank/rounding.steps", Rows.laid_corebank_rounding_steps), ("corebank/arrears.classes", Rows.laid_corebank_arrears_classes)] W) : Stp W ∧ Ln.Ctb W := by
  rw [MakeChecks.laidMetH_plain _ _ _ (by kernel_rfl)] at h
  obtain ⟨ps, ⟨g0, t0, cs0, f0, p0, q0, hg0, ht0, hv0, hd0, ⟨g1, t1, cs1, f1, p1, q1, hg1, ht1, hv1, hd1, _⟩, _⟩, _⟩ := h
  exact ⟨stp_of_head ⟨g0, t0, cs0, f0, p0, hg0, ht0, hv0, hd0⟩, ctb_of_head ⟨g1, t1, cs1, f1, p1, hg1, ht1, hv1, hd1⟩⟩
end Go.Proofs.YtjmgahdjojdanaaDoor.Rd
