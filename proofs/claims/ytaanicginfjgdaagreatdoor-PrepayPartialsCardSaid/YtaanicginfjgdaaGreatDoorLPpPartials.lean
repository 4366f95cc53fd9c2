/-
 Partial builds the schedule of any loan again, or returns the first error; loans and calendars that are not great. (The program's table corebank/rounding.steps as its text lays it: a tied card.)
-/
import Derived.Test.YtaanicginfjgdaaGreatDoorCards
import Derived.Test.YtaanicginfjgdaaGreatDoorTie
import Derived.Test.YtaanicginfjgdaaGreatDoorLaid
import Derived.Test.YtaanicginfjgdaaGreatDoorPrc
import Derived.WalkKit
import Derived.ProofKit
import Derived.OpenShut
import Derived.ShutString
import Derived.ChangeOld
import Derived.Below
import Derived.Lib.SmallJoins
import Derived.Test.YtaanicginfjgdaaGreatDoorOlz
import Derived.SevenTiedAt
namespace Go.Proofs.YtaanicginfjgdaaGreatDoor.prepayPartials
open Go Go.ChangeShapes Go.WideShapes Go.ChangeAt Go.RowKit
set_option linter.unusedVariables false

theorem own : ownKnob Tryz.prog.godebug = none := by kernel_rfl
theorem laidOut : laidOutB Tryz.prog = true := by kernel_rfl
theorem door_met (os : Os) (args : Array Value) : laidMetH Tryz.prog [("corebank/rounding.steps", Rows.laid_corebank_rounding_steps)] ((World.doorLaid Tryz.prog 400 os).forCall (fun _ _ => 0) ⟨#[], args, []⟩).memory :=
 laidMetH_of_parts3 (fuel := 8) (laidMet_of_run' 8 (by kernel_rfl) (by kernel_rfl)) (by kernel_rfl) (by kernel_rfl)

set_option maxRecDepth 100000 in
theorem lifted (os : Os) (started : os.Started) (H : Type) (enc : TypeId × Value → H) :
  ReturnsInHanded {} Tryz.checked os 5 .any (fun w args => (Rows.prepayPartialsSpec.pre enc Tryz.prog Tryz.f5 [] false w args ∧ laidMetH Tryz.prog [("corebank/rounding.steps", Rows.laid_corebank_rounding_steps)] w) ∧ sizedMet enc Tryz.prog Tryz.f5 (OpenSpec.ofChange Rows.prepayPartialsSpec) false w args)
   (Rows.prepayPartialsSpec.post enc Tryz.prog Tryz.f5 false true false false) := by
 refine returnsInHanded_of_change_and (C := Tryz.checked) (X := fun w _ => laidMetH Tryz.prog [("corebank/rounding.steps", Rows.laid_corebank_rounding_steps)] w) (fun _ _ _ hh h => h.of_heap hh) own started (by kernel_rfl) Tryz.func5
  (ChangeSpec.witness_shaped (enc := enc) (C := Tryz.checked) (os := os) (X := fun w _ => laidMetH Tryz.prog [("corebank/rounding.steps", Rows.laid_corebank_rounding_steps)] w) false (World.doorLaid Tryz.prog 400 os) #[.agg #[.int .i64 0, .int .i64 0, .int .i64 0, .int .i64 0, .int .i64 0, .int .i64 0, .int .i64 0, .int .i64 0, .int .i64 0, .int .i64 0, .int .i64 0, .int .i64 0, .int .i64 0, .int .i64 0, .int .i64 0, .int .i64 0, .int .i64 0, .int .i64 0, .int .i64 0, .int .i64 0, .int .i64 0, .string ByteArray.empty, .string ByteArray.empty, .slice none 0 0, .slice none 0 0], .agg #[.int .i64 0, .int .i64 0, .int .i64 0], .agg #[.string ByteArray.empty, .slice none 0 0, .slice none 0 0]] 8 rfl (World.shaped_of_RefB (by kernel_rfl) (by kernel_rfl)) (by kernel_rfl) (by kernel_rfl) (by kernel_rfl) (door_met os _)) ?_
 intro W base args ds gs before hval0 hW _ _ hL _
 have hval : ∀ (j : Nat) t v, Tryz.f5.params[j]? = some t → args[j]? = some v → Value.okWide Tryz.prog W .any base t v := hval0
 have hW' := hW
 have hS := Rd.stp_of_laid hL
 obtain ⟨p, q, hA0, hV, rfl, hfz, hnd⟩ := hW
 have hA : DataW.TrodAll enc Tryz.prog W 0 (fun _ => true) true Tryz.f5.params.toList args.toList ds p := hA0
 rw [Tryz.params5] at hA hval
 obtain ⟨v0, vs0, d0, ds0, p0, q0, hargs, rfl, rfl, h0, r0⟩ := trodAll_cons hA
 obtain ⟨v1, vs1, d1, ds1, p1, q1, rfl, rfl, rfl, h1, r1⟩ := trodAll_cons r0
 obtain ⟨v2, vs2, d2, ds2, p2, q2, rfl, rfl, rfl, h2, r2⟩ := trodAll_cons r1
 obtain ⟨rfl, rfl, rfl⟩ := trodAll_nil r2
 obtain rfl : args = #[v0, v1, v2] := by cases args; simp_all
 obtain ⟨rfl, rfl⟩ := trodVars_none hV
 have t0 := h0
 have lt0 : ∀ x ∈ p0, x.block < W.heap.size := by obtain ⟨m, hm⟩ := t0; exact DataW.trod_lt m _ _ _ hm
 have t1 := h1
 have lt1 : ∀ x ∈ p1, x.block < W.heap.size := by obtain ⟨m, hm⟩ := t1; exact DataW.trod_lt m _ _ _ hm
 have t2 := h2
 have lt2 : ∀ x ∈ p2, x.block < W.heap.size := by obtain ⟨m, hm⟩ := t2; exact DataW.trod_lt m _ _ _ hm
 obtain ⟨a0, da0, ca0, dk0, ck0, rfl, r0d, r0k, r0c, r0p⟩ := Ol.open_ploan_arg (hval 0 27 v0 rfl rfl) h0
 obtain ⟨fa1, fb1, fc1, ya1, yb1, yc1, m1, rfl, rfl, rfl, ha1, hb1, hc1⟩ := Joins.open_agg3 Tryz.underlying41 (by kernel_rfl) (by kernel_rfl) (hval 1 41 v1 rfl rfl) h1
 obtain ⟨a1, qa1, rfl, wa1⟩ := DataW.trod_int Tryz.underlying3 ha1
 obtain ⟨b1, qb1, rfl, wb1⟩ := DataW.trod_int Tryz.underlying3 hb1
 obtain ⟨c1, qc1, rfl, wc1⟩ := DataW.trod_int Tryz.underlying3 hc1
 simp at qa1 qb1 qc1
 subst qa1 qb1 qc1
 obtain ⟨a2, wa2, ha2, wc2, hc2, rfl, z2k⟩ := Ol.open_cal_arg (hval 2 44 v2 rfl rfl) h2
 clear hA0 hval0
 refine (Pp.partials35_walk a0 da0 ca0 dk0 ck0 a1 b1 c1 a2 wa2 ha2 wc2 hc2 wa1 wb1 wc1 W ⟨r0d, r0c⟩ r0k r0p z2k hS).mono fun e W' ⟨he, bel⟩ => ?_
 subst he
 exact ⟨_, rfl, _, _, _, [], _, [], hW', trodAll_mk1 (shut_bool Tryz.underlying4 _), (trodAll_cons_mk (Below.trod laidOut (by kernel_rfl) (of_decide_eq_true (by kernel_rfl)) t0 bel lt0) (trodAll_cons_mk (Below.trod laidOut (by kernel_rfl) (of_decide_eq_true (by kernel_rfl)) t1 bel lt1) (trodAll_cons_mk (Below.trod laidOut (by kernel_rfl) (of_decide_eq_true (by kernel_rfl)) t2 bel lt2) trodAll_mk0))), rfl, bel.frame _, fun h => by cases h⟩

theorem over : Rows.prepayPartialsRow.holds Tryz.pinned (OpenSpec.ofChange Rows.prepayPartialsSpec) :=
 OpenClaim.holds_of_wide 5 Tryz.f5 rfl rfl rfl rfl rfl rfl rfl ⟨rfl, rfl, rfl, rfl, rfl⟩ rfl rfl rfl rfl rfl (by kernel_rfl) Tryz.func5 (by kernel_rfl)
  (of_decide_eq_true (by kernel_rfl)) (by unfold Func.isWrapper; first | (rw [if_pos (by decide +kernel)]; kernel_rfl) | (rw [if_neg (by decide +kernel)]; exact ⟨rfl, rfl⟩))
  (fun os started H enc _ => lifted os started H enc)

theorem proved : Rows.PrepayPartialsCardSaid :=
 Claim7.holds_tied_plain_at .later [] [.data] true (true, "1e4b81d3818aedeccfbda3b9553c542e3c5a094a775d1b360f2d0cbb82c78690") false
  over (fun _ h => by cases h) (by kernel_rfl) (fun _ h => by cases h) prepayPartials_row_tie rfl ⟨rfl, rfl⟩ (by kernel_rfl) rfl
  (fun f fn hf hfn => by
   obtain rfl : f = 5 := Option.some.inj ((show Tryz.prog.funcNamed "corebank/corebanklaw35.PrepayPartials" = some 5 by kernel_rfl).symm.trans hf) |>.symm
   obtain rfl : fn = Tryz.f5 := (Option.some.inj (Tryz.func5.symm.trans hfn)).symm
   exact ⟨by kernel_rfl, fun j t ht => by
    rw [Tryz.params5] at ht
    have hm := Array.mem_of_getElem? ht
    simp only [List.mem_toArray, List.mem_cons, List.not_mem_nil, or_false] at hm
    have ht' :  t = 27 ∨ t = 41 ∨ t = 44  := by omega
    rcases ht' with rfl | rfl | rfl
    all_goals (refine (show Tryz.prog.wantsStandIn _ = false from ?_); kernel_rfl)⟩)
  (by kernel_rfl)
#print axioms proved
end Go.Proofs.YtaanicginfjgdaaGreatDoor.prepayPartials
