/-
  Calendars: open days, the next and the last one, Adjust: the program's and the reference's.
-/
import Derived.Test.YtmdjikmpgckpbaaDoorKc3
namespace Go.Proofs.YtmdjikmpgckpbaaDoor.Kl
open Go.RowKit
open Go.Proofs.YtmdjikmpgckpbaaDoor
set_option linter.unusedSimpArgs false
set_option linter.unusedVariables false
set_option maxRecDepth 100000

set_option maxHeartbeats 8000000 in
theorem open_any (c : Cl) (wa ha : Option Addr) (wc hc : Nat) (d : Int) (w : World) (h : CalIn w c wa ha) : Calls Tryd.prog 77 #[(.agg #[.string (c).nm, .slice wa (c).wk.length wc, .slice ha (c).hol.length hc]), .int .i64 d] w fun e w' => e = .returned (.bool (openB c d)) ∧ Below w.heap.size w w' := by
  have cw : Below w.heap.size w (w.alloc (.cells #[.string c.nm, .slice wa c.wk.length wc, .slice ha c.hol.length hc] 26)) := (Below.refl _ _).alloc (Nat.le_refl _) _
  have k0 : Bk.Blk (w.alloc (.cells #[.string c.nm, .slice wa c.wk.length wc, .slice ha c.hol.length hc] 26)) w.heap.size #[.string c.nm, .slice wa c.wk.length wc, .slice ha c.hol.length hc] 26 := Bk.Blk.nw10
  have hi := h.later cw
  clear h
  go_enter Tryd.func77, Tryd.ntmps77
  go_upto_region 1 with fail
  generalize (w.alloc (.cells #[.string c.nm, .slice wa c.wk.length wc, .slice ha c.hol.length hc] 26)) = w1 at *
  by_cases hd : 0 ≤ d ∧ d ≤ 73048
  · obtain ⟨h0, h1⟩ := hd
    have K1 : ∀ (W : World), Reg.Cls w1 W → Calls Tryd.prog 84 #[.slice wa c.wk.length wc, .int .i64 ((d + 5) % 7)] W fun e w' => e = .returned (.bool (hasB c.wk ((d + 5) % 7))) ∧ W = w' := fun W hW => contains_any wa wc c.wk _ W (hi.later hW).wk
    have K2 : ∀ (W : World), Reg.Cls w1 W → Calls Tryd.prog 84 #[.slice ha c.hol.length hc, .int .i64 d] W fun e w' => e = .returned (.bool (hasB c.hol d)) ∧ W = w' := fun W hW => contains_any ha hc c.hol _ W (hi.later hW).hol
    cases hb1 : hasB c.wk ((d + 5) % 7)
    · have HF := Lib.hid (show openB c d = !hasB c.hol d by unfold openB; rw [hb1, dOk_yes h0 h1]; simp)
      rw [hb1] at K1
      have HC1 := Lib.hid K1
      have HC2 := Lib.hid K2
      clear K1 K2 hb1
      generalize hasB c.hol d = b2v at *
      have q1 : ∀ W', Reg.Cls w1 W' → W'.cell? ⟨w.heap.size, 1, none⟩ = some (.slice wa c.wk.length wc) := fun W' hW => (k0.later hW).c1
      have q2 : ∀ W', Reg.Cls w1 W' → W'.cell? ⟨w.heap.size, 2, none⟩ = some (.slice ha c.hol.length hc) := fun W' hW => (k0.later hW).c2
      refine Reg.region_quiet (by kernel_rfl) (by kernel_rfl) ?_
      iterate 18 (first | go_big_quiet_skip | (go_big_quiet_want; (first | (go_big_quiet_op; go_big_quiet_on) | (apply Reg.quiet_run; (intro W hW; skip; go_simp; (first | done | rfl | exact ⟨rfl, rfl⟩ )); (simp only [Act.put, List.setIfInBounds_toArray, List.set_cons_zero, List.set_cons_succ]; go_big_quiet_on)) | (apply Reg.quiet_call; (intro W hW; go_simp; (first | done | rfl | exact ⟨rfl, rfl⟩)); (intro W hW; (first | (go_at_call 27; exact Reg.cls_same hW (Dt.valid_yes d _ h0 h1)) | (go_at_call 85; exact Reg.cls_same hW (Dt.wday_any d _ h0 h1)) | (go_at_call 84; with_reducible exact Reg.cls_same hW (HC1.out _ hW)) | (go_at_call 84; with_reducible exact Reg.cls_same hW (HC2.out _ hW)))); (simp only [Act.put, List.setIfInBounds_toArray, List.set_cons_zero, List.set_cons_succ]; go_big_quiet_on)))))
      refine wpQuiet_nil ?_
      intro w2 hW
      have b2 := bl2 hW cw
      clear hW q1 q2
      go_wp2_with fail
      go_ret
      exact ⟨by rw [HF.out]; try rfl, b2⟩
    · have HF := Lib.hid (show openB c d = false by unfold openB; rw [hb1]; simp)
      rw [hb1] at K1
      have HC1 := Lib.hid K1
      clear K1 K2 hb1
      have q1 : ∀ W', Reg.Cls w1 W' → W'.cell? ⟨w.heap.size, 1, none⟩ = some (.slice wa c.wk.length wc) := fun W' hW => (k0.later hW).c1
      have q2 : ∀ W', Reg.Cls w1 W' → W'.cell? ⟨w.heap.size, 2, none⟩ = some (.slice ha c.hol.length hc) := fun W' hW => (k0.later hW).c2
      refine Reg.region_quiet (by kernel_rfl) (by kernel_rfl) ?_
      iterate 18 (first | go_big_quiet_skip | (go_big_quiet_want; (first | (go_big_quiet_op; go_big_quiet_on) | (apply Reg.quiet_run; (intro W hW; skip; go_simp; (first | done | rfl | exact ⟨rfl, rfl⟩ )); (simp only [Act.put, List.setIfInBounds_toArray, List.set_cons_zero, List.set_cons_succ]; go_big_quiet_on)) | (apply Reg.quiet_call; (intro W hW; go_simp; (first | done | rfl | exact ⟨rfl, rfl⟩)); (intro W hW; (first | (go_at_call 27; exact Reg.cls_same hW (Dt.valid_yes d _ h0 h1)) | (go_at_call 85; exact Reg.cls_same hW (Dt.wday_any d _ h0 h1)) | (go_at_call 84; with_reducible exact Reg.cls_same hW (HC1.out _ hW)))); (simp only [Act.put, List.setIfInBounds_toArray, List.set_cons_zero, List.set_cons_succ]; go_big_quiet_on)))))
      refine wpQuiet_nil ?_
      intro w2 hW
      have b2 := bl2 hW cw
      clear hW q1 q2
      go_wp2_with fail
      go_ret
      exact ⟨by rw [HF.out]; try rfl, b2⟩
  · have HF := Lib.hid (show openB c d = false by unfold openB; rw [dOk_no hd]; simp)
    have q1 : ∀ W', Reg.Cls w1 W' → W'.cell? ⟨w.heap.size, 1, none⟩ = some (.slice wa c.wk.length wc) := fun W' hW => (k0.later hW).c1
    have q2 : ∀ W', Reg.Cls w1 W' → W'.cell? ⟨w.heap.size, 2, none⟩ = some (.slice ha c.hol.length hc) := fun W' hW => (k0.later hW).c2
    refine Reg.region_quiet (by kernel_rfl) (by kernel_rfl) ?_
    iterate 18 (first | go_big_quiet_skip | (go_big_quiet_want; (first | (go_big_quiet_op; go_big_quiet_on) | (apply Reg.quiet_run; (intro W hW; skip; go_simp; (first | done | rfl | exact ⟨rfl, rfl⟩ )); (simp only [Act.put, List.setIfInBounds_toArray, List.set_cons_zero, List.set_cons_succ]; go_big_quiet_on)) | (apply Reg.quiet_call; (intro W hW; go_simp; (first | done | rfl | exact ⟨rfl, rfl⟩)); (intro W hW; (first | (go_at_call 27; exact Reg.cls_same hW (Dt.valid_no d _ (by omega))))); (simp only [Act.put, List.setIfInBounds_toArray, List.set_cons_zero, List.set_cons_succ]; go_big_quiet_on)))))
    refine wpQuiet_nil ?_
    intro w2 hW
    have b2 := bl2 hW cw
    clear hW q1 q2
    go_wp2_with fail
    go_ret
    exact ⟨by rw [HF.out]; try rfl, b2⟩
set_option maxHeartbeats 8000000 in
theorem ropen_any (c : Cl) (wa ha : Option Addr) (wc hc : Nat) (d : Int) (w : World) (h : CalIn w c wa ha) : Calls Tryd.prog 80 #[(.agg #[.string (c).nm, .slice wa (c).wk.length wc, .slice ha (c).hol.length hc]), .int .i64 d] w fun e w' => e = .returned (.bool (openB c d)) ∧ Below w.heap.size w w' := by
  have cw : Below w.heap.size w (w.alloc (.cells #[.string c.nm, .slice wa c.wk.length wc, .slice ha c.hol.length hc] 26)) := (Below.refl _ _).alloc (Nat.le_refl _) _
  have k0 : Bk.Blk (w.alloc (.cells #[.string c.nm, .slice wa c.wk.length wc, .slice ha c.hol.length hc] 26)) w.heap.size #[.string c.nm, .slice wa c.wk.length wc, .slice ha c.hol.length hc] 26 := Bk.Blk.nw10
  have hi := h.later cw
  clear h
  go_enter Tryd.func80, Tryd.ntmps80
  go_upto_region 1 with fail
  generalize (w.alloc (.cells #[.string c.nm, .slice wa c.wk.length wc, .slice ha c.hol.length hc] 26)) = w1 at *
  by_cases hd : 0 ≤ d ∧ d ≤ 73048
  · obtain ⟨h0, h1⟩ := hd
    have K1 : ∀ (W : World), Reg.Cls w1 W → Calls Tryd.prog 86 #[.slice wa c.wk.length wc, .int .i64 ((d + 5) % 7)] W fun e w' => e = .returned (.bool (hasB c.wk ((d + 5) % 7))) ∧ W = w' := fun W hW => rhas_any wa wc c.wk _ W (hi.later hW).wk
    have K2 : ∀ (W : World), Reg.Cls w1 W → Calls Tryd.prog 86 #[.slice ha c.hol.length hc, .int .i64 d] W fun e w' => e = .returned (.bool (hasB c.hol d)) ∧ W = w' := fun W hW => rhas_any ha hc c.hol _ W (hi.later hW).hol
    cases hb1 : hasB c.wk ((d + 5) % 7)
    · have HF := Lib.hid (show openB c d = !hasB c.hol d by unfold openB; rw [hb1, dOk_yes h0 h1]; simp)
      rw [hb1] at K1
      have HC1 := Lib.hid K1
      have HC2 := Lib.hid K2
      clear K1 K2 hb1
      generalize hasB c.hol d = b2v at *
      have q1 : ∀ W', Reg.Cls w1 W' → W'.cell? ⟨w.heap.size, 1, none⟩ = some (.slice wa c.wk.length wc) := fun W' hW => (k0.later hW).c1
      have q2 : ∀ W', Reg.Cls w1 W' → W'.cell? ⟨w.heap.size, 2, none⟩ = some (.slice ha c.hol.length hc) := fun W' hW => (k0.later hW).c2
      refine Reg.region_quiet (by kernel_rfl) (by kernel_rfl) ?_
      iterate 18 (first | go_big_quiet_skip | (go_big_quiet_want; (first | (go_big_quiet_op; go_big_quiet_on) | (apply Reg.quiet_run; (intro W hW; skip; go_simp; (first | done | rfl | exact ⟨rfl, rfl⟩ )); (simp only [Act.put, List.setIfInBounds_toArray, List.set_cons_zero, List.set_cons_succ]; go_big_quiet_on)) | (apply Reg.quiet_call; (intro W hW; go_simp; (first | done | rfl | exact ⟨rfl, rfl⟩)); (intro W hW; (first | (go_at_call 32; exact Reg.cls_same hW (Dt.rvalid_yes d _ h0 h1)) | (go_at_call 87; exact Reg.cls_same hW (Dt.rwday_any d _ h0 h1)) | (go_at_call 86; with_reducible exact Reg.cls_same hW (HC1.out _ hW)) | (go_at_call 86; with_reducible exact Reg.cls_same hW (HC2.out _ hW)))); (simp only [Act.put, List.setIfInBounds_toArray, List.set_cons_zero, List.set_cons_succ]; go_big_quiet_on)))))
      refine wpQuiet_nil ?_
      intro w2 hW
      have b2 := bl2 hW cw
      clear hW q1 q2
      go_wp2_with fail
      go_ret
      exact ⟨by rw [HF.out]; try rfl, b2⟩
    · have HF := Lib.hid (show openB c d = false by unfold openB; rw [hb1]; simp)
      rw [hb1] at K1
      have HC1 := Lib.hid K1
      clear K1 K2 hb1
      have q1 : ∀ W', Reg.Cls w1 W' → W'.cell? ⟨w.heap.size, 1, none⟩ = some (.slice wa c.wk.length wc) := fun W' hW => (k0.later hW).c1
      have q2 : ∀ W', Reg.Cls w1 W' → W'.cell? ⟨w.heap.size, 2, none⟩ = some (.slice ha c.hol.length hc) := fun W' hW => (k0.later hW).c2
      refine Reg.region_quiet (by kernel_rfl) (by kernel_rfl) ?_
      iterate 18 (first | go_big_quiet_skip | (go_big_quiet_want; (first | (go_big_quiet_op; go_big_quiet_on) | (apply Reg.quiet_run; (intro W hW; skip; go_simp; (first | done | rfl | exact ⟨rfl, rfl⟩ )); (simp only [Act.put, List.setIfInBounds_toArray, List.set_cons_zero, List.set_cons_succ]; go_big_quiet_on)) | (apply Reg.quiet_call; (intro W hW; go_simp; (first | done | rfl | exact ⟨rfl, rfl⟩)); (intro W hW; (first | (go_at_call 32; exact Reg.cls_same hW (Dt.rvalid_yes d _ h0 h1)) | (go_at_call 87; exact Reg.cls_same hW (Dt.rwday_any d _ h0 h1)) | (go_at_call 86; with_reducible exact Reg.cls_same hW (HC1.out _ hW)))); (simp only [Act.put, List.setIfInBounds_toArray, List.set_cons_zero, List.set_cons_succ]; go_big_quiet_on)))))
      refine wpQuiet_nil ?_
      intro w2 hW
      have b2 := bl2 hW cw
      clear hW q1 q2
      go_wp2_with fail
      go_ret
      exact ⟨by rw [HF.out]; try rfl, b2⟩
  · have HF := Lib.hid (show openB c d = false by unfold openB; rw [dOk_no hd]; simp)
    have q1 : ∀ W', Reg.Cls w1 W' → W'.cell? ⟨w.heap.size, 1, none⟩ = some (.slice wa c.wk.length wc) := fun W' hW => (k0.later hW).c1
    have q2 : ∀ W', Reg.Cls w1 W' → W'.cell? ⟨w.heap.size, 2, none⟩ = some (.slice ha c.hol.length hc) := fun W' hW => (k0.later hW).c2
    refine Reg.region_quiet (by kernel_rfl) (by kernel_rfl) ?_
    iterate 18 (first | go_big_quiet_skip | (go_big_quiet_want; (first | (go_big_quiet_op; go_big_quiet_on) | (apply Reg.quiet_run; (intro W hW; skip; go_simp; (first | done | rfl | exact ⟨rfl, rfl⟩ )); (simp only [Act.put, List.setIfInBounds_toArray, List.set_cons_zero, List.set_cons_succ]; go_big_quiet_on)) | (apply Reg.quiet_call; (intro W hW; go_simp; (first | done | rfl | exact ⟨rfl, rfl⟩)); (intro W hW; (first | (go_at_call 32; exact Reg.cls_same hW (Dt.rvalid_no d _ (by omega))))); (simp only [Act.put, List.setIfInBounds_toArray, List.set_cons_zero, List.set_cons_succ]; go_big_quiet_on)))))
    refine wpQuiet_nil ?_
    intro w2 hW
    have b2 := bl2 hW cw
    clear hW q1 q2
    go_wp2_with fail
    go_ret
    exact ⟨by rw [HF.out]; try rfl, b2⟩
end Go.Proofs.YtmdjikmpgckpbaaDoor.Kl
