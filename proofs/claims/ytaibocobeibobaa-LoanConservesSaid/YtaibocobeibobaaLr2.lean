/-
  The reference's Left, Outstanding, Great.
-/
import Derived.Test.YtaibocobeibobaaLr1
namespace Go.Proofs.Ytaibocobeibobaa.Ln
open Go.RowKit
open Go.Proofs.Ytaibocobeibobaa

/-- A whole block loaded in a region that draws its order. -/
theorem quiet_load_row {P : Program} {C : World → Prop} {a : Act} {o : Oper} {K : Act → Prop} (ty : TypeId) (x : Operand) (ho : o.op = .load ty x)
    (g : Nat) (hx : a.eval x = .pointer (some ⟨g, 0, none⟩)) (t : TypeId) (cs : Array Value) (fr : Nat × Nat) (d : TypeDesc) (hg : ∀ w, C w → w.heap[g]? = some (.cells cs t fr))
    (hu : P.underlying ty = some d) (hd : (match d with | .struct _ | .array _ _ => true | _ => false) = true) (hi : (P.info? ty).map (·.size) = some cs.size)
    (hk : K (a.put o.dst (.agg cs))) : o.quiet P a C K :=
  Reg.quiet_run (v := .agg cs) (fun w hw => by
    unfold execOp
    simp only [ho, hx, Instr.loadAt, Instr.sureAddr, Sem.run_bind, Sem.run_pure, Result.andThen_ok, run_loadVar_row w g t ty cs fr d (hg w hw) hu hd hi]) hk
theorem rdue_all {ds : List Du} (h : Dok ds) : due ds 9223372036854775807 = ds := due_all h

set_option maxHeartbeats 4000000 in
theorem rout_any (l : Lo) (da ca : Option Addr) (dk ck : Nat) (w : World) (h : DuesIn w da l.ds) (hd : Dok l.ds) :
    Calls Try.prog 11 #[(.agg #[.int .i64 (l).id, .int .i64 (l).ac, .int .i64 (l).st, .int .i64 (l).pp, .int .i64 (l).pi, .int .i64 (l).fee, .int .i64 (l).pen, .int .i64 (l).chg, .int .i64 (l).prov, .int .i64 (l).loss, .int .i64 (l).rcv, .int .i64 ((l).tm).me, .int .i64 ((l).tm).pr, .int .i64 ((l).tm).ppm, .int .i64 ((l).tm).stt, .int .i64 ((l).tm).ev, .int .i64 ((l).tm).ct, .int .i64 ((l).tm).ba, .int .i64 ((l).tm).mo, .int .i64 ((l).tm).pen, .int .i64 ((l).tm).fe, .string ((l).tm).cal, .string ((l).tm).cur, .slice da (l).ds.length dk, .slice ca (l).cs.length ck])] w fun e w' => e = .returned (.int .i64 (wrap64 (P l.ds - l.pp))) ∧ Below w.heap.size w w' := by
  have hp := fun (W : World) (hW : Below w.heap.size w W) => rprin_any l da ca dk ck 9223372036854775807 W (h.later hW)
  have hi := fun (W : World) (hW : Below w.heap.size w W) => rint_any l da ca dk ck 9223372036854775807 W (h.later hW)
  rw [rdue_all hd] at hp hi
  have HP := Lib.hid hp
  have HI := Lib.hid hi
  clear hp hi h
  have hk := Bk.Blk.nw10 (W := w) (cs := #[.int .i64 (l).id, .int .i64 (l).ac, .int .i64 (l).st, .int .i64 (l).pp, .int .i64 (l).pi, .int .i64 (l).fee, .int .i64 (l).pen, .int .i64 (l).chg, .int .i64 (l).prov, .int .i64 (l).loss, .int .i64 (l).rcv, .int .i64 ((l).tm).me, .int .i64 ((l).tm).pr, .int .i64 ((l).tm).ppm, .int .i64 ((l).tm).stt, .int .i64 ((l).tm).ev, .int .i64 ((l).tm).ct, .int .i64 ((l).tm).ba, .int .i64 ((l).tm).mo, .int .i64 ((l).tm).pen, .int .i64 ((l).tm).fe, .string ((l).tm).cal, .string ((l).tm).cur, .slice da (l).ds.length dk, .slice ca (l).cs.length ck]) (t := 27)
  have b1 : Below w.heap.size w (w.alloc (.cells #[.int .i64 (l).id, .int .i64 (l).ac, .int .i64 (l).st, .int .i64 (l).pp, .int .i64 (l).pi, .int .i64 (l).fee, .int .i64 (l).pen, .int .i64 (l).chg, .int .i64 (l).prov, .int .i64 (l).loss, .int .i64 (l).rcv, .int .i64 ((l).tm).me, .int .i64 ((l).tm).pr, .int .i64 ((l).tm).ppm, .int .i64 ((l).tm).stt, .int .i64 ((l).tm).ev, .int .i64 ((l).tm).ct, .int .i64 ((l).tm).ba, .int .i64 ((l).tm).mo, .int .i64 ((l).tm).pen, .int .i64 ((l).tm).fe, .string ((l).tm).cal, .string ((l).tm).cur, .slice da (l).ds.length dk, .slice ca (l).cs.length ck] 27)) := (Below.refl _ _).alloc (Nat.le_refl _) _
  generalize P l.ds = p at *
  have HW := Lib.hid (show IntKind.i64.wrap (p - l.pp) = wrap64 (p - l.pp) by unfold wrap64; rw [IntKind.wrap_i64])
  go_enter Try.func11, Try.ntmps11
  go_wp2_with fail
  generalize w.alloc (.cells #[.int .i64 (l).id, .int .i64 (l).ac, .int .i64 (l).st, .int .i64 (l).pp, .int .i64 (l).pi, .int .i64 (l).fee, .int .i64 (l).pen, .int .i64 (l).chg, .int .i64 (l).prov, .int .i64 (l).loss, .int .i64 (l).rcv, .int .i64 ((l).tm).me, .int .i64 ((l).tm).pr, .int .i64 ((l).tm).ppm, .int .i64 ((l).tm).stt, .int .i64 ((l).tm).ev, .int .i64 ((l).tm).ct, .int .i64 ((l).tm).ba, .int .i64 ((l).tm).mo, .int .i64 ((l).tm).pen, .int .i64 ((l).tm).fe, .string ((l).tm).cal, .string ((l).tm).cur, .slice da (l).ds.length dk, .slice ca (l).cs.length ck] 27) = w1 at *
  have q3 : ∀ W', Reg.Cls w1 W' → W'.cell? ⟨w.heap.size, 3, none⟩ = some (.int .i64 l.pp) := fun W' hW => (hk.later hW).c3
  have hq : ∀ W', Reg.Cls w1 W' → W'.heap[w.heap.size]? = some (.cells #[.int .i64 (l).id, .int .i64 (l).ac, .int .i64 (l).st, .int .i64 (l).pp, .int .i64 (l).pi, .int .i64 (l).fee, .int .i64 (l).pen, .int .i64 (l).chg, .int .i64 (l).prov, .int .i64 (l).loss, .int .i64 (l).rcv, .int .i64 ((l).tm).me, .int .i64 ((l).tm).pr, .int .i64 ((l).tm).ppm, .int .i64 ((l).tm).stt, .int .i64 ((l).tm).ev, .int .i64 ((l).tm).ct, .int .i64 ((l).tm).ba, .int .i64 ((l).tm).mo, .int .i64 ((l).tm).pen, .int .i64 ((l).tm).fe, .string ((l).tm).cal, .string ((l).tm).cur, .slice da (l).ds.length dk, .slice ca (l).cs.length ck] 27 (0, 0)) := fun W' hW => hk.later hW
  have HQ := Lib.hid hq
  clear hq hk
  refine Reg.region_quiet (by kernel_rfl) (by kernel_rfl) ?_
  iterate 6 (first | go_big_quiet_skip | (go_big_quiet_want; (first | (refine quiet_load_row 27 _ rfl _ rfl _ _ _ _ (HQ.out) Try.underlying27 rfl (by kernel_rfl) ?_; (simp only [Act.put, List.setIfInBounds_toArray, List.set_cons_zero, List.set_cons_succ]; go_big_quiet_on)) | (go_big_quiet_op; go_big_quiet_on) | (apply Reg.quiet_run; (intro W hW; skip; go_simp; (first | done | rfl | exact ⟨rfl, rfl⟩ )); (simp only [Act.put, List.setIfInBounds_toArray, List.set_cons_zero, List.set_cons_succ]; go_big_quiet_on)) | (apply Reg.quiet_call; (intro W hW; go_simp; (first | done | rfl | exact ⟨rfl, rfl⟩)); (intro W hW; (first | (go_at_call 26; exact Reg.cls_call hW (HP.out _ (bl2 hW b1))))); (simp only [Act.put, List.setIfInBounds_toArray, List.set_cons_zero, List.set_cons_succ]; go_big_quiet_on)))))
  refine wpQuiet_nil ?_
  intro w2 hW
  have b2 := bl2 hW b1
  go_wp2_with fail
  go_ret
  exact ⟨by first | rfl | (rw [HW.out]; rfl) | (rw [← HW.out]; rfl), b2⟩

set_option maxHeartbeats 4000000 in
theorem rleft_any (l : Lo) (da ca : Option Addr) (dk ck : Nat) (w : World) (h : DuesIn w da l.ds) (hd : Dok l.ds) :
    Calls Try.prog 28 #[(.agg #[.int .i64 (l).id, .int .i64 (l).ac, .int .i64 (l).st, .int .i64 (l).pp, .int .i64 (l).pi, .int .i64 (l).fee, .int .i64 (l).pen, .int .i64 (l).chg, .int .i64 (l).prov, .int .i64 (l).loss, .int .i64 (l).rcv, .int .i64 ((l).tm).me, .int .i64 ((l).tm).pr, .int .i64 ((l).tm).ppm, .int .i64 ((l).tm).stt, .int .i64 ((l).tm).ev, .int .i64 ((l).tm).ct, .int .i64 ((l).tm).ba, .int .i64 ((l).tm).mo, .int .i64 ((l).tm).pen, .int .i64 ((l).tm).fe, .string ((l).tm).cal, .string ((l).tm).cur, .slice da (l).ds.length dk, .slice ca (l).cs.length ck])] w fun e w' => e = .returned (.bool (leftB l)) ∧ Below w.heap.size w w' := by
  have hp := fun (W : World) (hW : Below w.heap.size w W) => rprin_any l da ca dk ck 9223372036854775807 W (h.later hW)
  have hi := fun (W : World) (hW : Below w.heap.size w W) => rint_any l da ca dk ck 9223372036854775807 W (h.later hW)
  rw [rdue_all hd] at hp hi
  have HP := Lib.hid hp
  have HI := Lib.hid hi
  clear hp hi h
  have hk := Bk.Blk.nw10 (W := w) (cs := #[.int .i64 (l).id, .int .i64 (l).ac, .int .i64 (l).st, .int .i64 (l).pp, .int .i64 (l).pi, .int .i64 (l).fee, .int .i64 (l).pen, .int .i64 (l).chg, .int .i64 (l).prov, .int .i64 (l).loss, .int .i64 (l).rcv, .int .i64 ((l).tm).me, .int .i64 ((l).tm).pr, .int .i64 ((l).tm).ppm, .int .i64 ((l).tm).stt, .int .i64 ((l).tm).ev, .int .i64 ((l).tm).ct, .int .i64 ((l).tm).ba, .int .i64 ((l).tm).mo, .int .i64 ((l).tm).pen, .int .i64 ((l).tm).fe, .string ((l).tm).cal, .string ((l).tm).cur, .slice da (l).ds.length dk, .slice ca (l).cs.length ck]) (t := 27)
  have b1 : Below w.heap.size w (w.alloc (.cells #[.int .i64 (l).id, .int .i64 (l).ac, .int .i64 (l).st, .int .i64 (l).pp, .int .i64 (l).pi, .int .i64 (l).fee, .int .i64 (l).pen, .int .i64 (l).chg, .int .i64 (l).prov, .int .i64 (l).loss, .int .i64 (l).rcv, .int .i64 ((l).tm).me, .int .i64 ((l).tm).pr, .int .i64 ((l).tm).ppm, .int .i64 ((l).tm).stt, .int .i64 ((l).tm).ev, .int .i64 ((l).tm).ct, .int .i64 ((l).tm).ba, .int .i64 ((l).tm).mo, .int .i64 ((l).tm).pen, .int .i64 ((l).tm).fe, .string ((l).tm).cal, .string ((l).tm).cur, .slice da (l).ds.length dk, .slice ca (l).cs.length ck] 27)) := (Below.refl _ _).alloc (Nat.le_refl _) _
  have HB := Lib.hid (show leftB l = (decide (l.pp ≠ P l.ds) || decide (l.pi ≠ I l.ds) || decide (l.fee ≠ 0) || decide (l.pen ≠ 0)) from rfl)
  generalize P l.ds = p at *
  generalize I l.ds = i at *
  generalize leftB l = r at *
  have hc : (r = true ∧ (p != l.pp) = true) ∨ (r = true ∧ (p != l.pp) = false ∧ (i != l.pi) = true) ∨ (r = true ∧ (p != l.pp) = false ∧ (i != l.pi) = false ∧ (l.fee != 0) = true) ∨ (r = true ∧ (p != l.pp) = false ∧ (i != l.pi) = false ∧ (l.fee != 0) = false ∧ (l.pen != 0) = true) ∨ (r = false ∧ (p != l.pp) = false ∧ (i != l.pi) = false ∧ (l.fee != 0) = false ∧ (l.pen != 0) = false) := by
    rw [HB.out]
    by_cases h1 : l.pp = p
    · have g1 : (p != l.pp) = false := by rw [h1]; exact bne_self_eq_false _
      by_cases h2 : l.pi = i
      · have g2 : (i != l.pi) = false := by rw [h2]; exact bne_self_eq_false _
        by_cases h3 : l.fee = 0
        · have g3 : (l.fee != 0) = false := by rw [h3]; rfl
          by_cases h4 : l.pen = 0
          · exact .inr (.inr (.inr (.inr ⟨by simp [h1, h2, h3, h4], g1, g2, g3, by rw [h4]; rfl⟩)))
          · exact .inr (.inr (.inr (.inl ⟨by simp [h4], g1, g2, g3, bne_iff_ne.2 h4⟩)))
        · exact .inr (.inr (.inl ⟨by simp [h3], g1, g2, bne_iff_ne.2 h3⟩))
      · exact .inr (.inl ⟨by simp [h2], g1, bne_iff_ne.2 (Ne.symm h2)⟩)
    · exact .inl ⟨by simp [h1], bne_iff_ne.2 (Ne.symm h1)⟩
  clear HB
  rcases hc with ⟨rfl, h1⟩ | ⟨rfl, h1, h2⟩ | ⟨rfl, h1, h2, h3⟩ | ⟨rfl, h1, h2, h3, h4⟩ | ⟨rfl, h1, h2, h3, h4⟩
  all_goals
    go_enter Try.func28, Try.ntmps28
    go_wp2_with fail
    generalize w.alloc (.cells #[.int .i64 (l).id, .int .i64 (l).ac, .int .i64 (l).st, .int .i64 (l).pp, .int .i64 (l).pi, .int .i64 (l).fee, .int .i64 (l).pen, .int .i64 (l).chg, .int .i64 (l).prov, .int .i64 (l).loss, .int .i64 (l).rcv, .int .i64 ((l).tm).me, .int .i64 ((l).tm).pr, .int .i64 ((l).tm).ppm, .int .i64 ((l).tm).stt, .int .i64 ((l).tm).ev, .int .i64 ((l).tm).ct, .int .i64 ((l).tm).ba, .int .i64 ((l).tm).mo, .int .i64 ((l).tm).pen, .int .i64 ((l).tm).fe, .string ((l).tm).cal, .string ((l).tm).cur, .slice da (l).ds.length dk, .slice ca (l).cs.length ck] 27) = w1 at *
    have q3 : ∀ W', Reg.Cls w1 W' → W'.cell? ⟨w.heap.size, 3, none⟩ = some (.int .i64 l.pp) := fun W' hW => (hk.later hW).c3
    have q4 : ∀ W', Reg.Cls w1 W' → W'.cell? ⟨w.heap.size, 4, none⟩ = some (.int .i64 l.pi) := fun W' hW => (hk.later hW).c4
    have q5 : ∀ W', Reg.Cls w1 W' → W'.cell? ⟨w.heap.size, 5, none⟩ = some (.int .i64 l.fee) := fun W' hW => (hk.later hW).c5
    have q6 : ∀ W', Reg.Cls w1 W' → W'.cell? ⟨w.heap.size, 6, none⟩ = some (.int .i64 l.pen) := fun W' hW => (hk.later hW).c6
    have HQ := Lib.hid (fun (W' : World) (hW : Reg.Cls w1 W') => hk.later hW)
    clear hk
    refine Reg.region_quiet (by kernel_rfl) (by kernel_rfl) ?_
    iterate 23 (first | go_big_quiet_skip | (go_big_quiet_want; (first | (refine quiet_load_row 27 _ rfl _ rfl _ _ _ _ (HQ.out) Try.underlying27 rfl (by kernel_rfl) ?_; (simp only [Act.put, List.setIfInBounds_toArray, List.set_cons_zero, List.set_cons_succ]; go_big_quiet_on)) | (go_big_quiet_op; go_big_quiet_on) | (apply Reg.quiet_run; (intro W hW; skip; go_simp; (first | done | rfl | exact ⟨rfl, rfl⟩ )); (simp only [Act.put, List.setIfInBounds_toArray, List.set_cons_zero, List.set_cons_succ]; go_big_quiet_on)) | (apply Reg.quiet_call; (intro W hW; go_simp; (first | done | rfl | exact ⟨rfl, rfl⟩)); (intro W hW; (first | (go_at_call 26; exact Reg.cls_call hW (HP.out _ (bl2 hW b1))) | (go_at_call 27; exact Reg.cls_call hW (HI.out _ (bl2 hW b1))))); (simp only [Act.put, List.setIfInBounds_toArray, List.set_cons_zero, List.set_cons_succ]; go_big_quiet_on)))))
    refine wpQuiet_nil ?_
    intro w2 hW
    have b2 := bl2 hW b1
    go_wp2_with fail
    go_ret
    exact ⟨rfl, b2⟩

def greatB (l : Lo) : Bool := decide (300 < l.ds.length) || decide (100 < l.cs.length)
theorem great_any (l : Lo) (da ca : Option Addr) (dk ck : Nat) (w : World) :
    Calls Try.prog 7 #[(.agg #[.int .i64 (l).id, .int .i64 (l).ac, .int .i64 (l).st, .int .i64 (l).pp, .int .i64 (l).pi, .int .i64 (l).fee, .int .i64 (l).pen, .int .i64 (l).chg, .int .i64 (l).prov, .int .i64 (l).loss, .int .i64 (l).rcv, .int .i64 ((l).tm).me, .int .i64 ((l).tm).pr, .int .i64 ((l).tm).ppm, .int .i64 ((l).tm).stt, .int .i64 ((l).tm).ev, .int .i64 ((l).tm).ct, .int .i64 ((l).tm).ba, .int .i64 ((l).tm).mo, .int .i64 ((l).tm).pen, .int .i64 ((l).tm).fe, .string ((l).tm).cal, .string ((l).tm).cur, .slice da (l).ds.length dk, .slice ca (l).cs.length ck])] w fun e w' => e = .returned (.bool (greatB l)) ∧ Below w.heap.size w w' := by
  by_cases h1 : 300 < l.ds.length
  · rw [show greatB l = true by unfold greatB; simp [h1]]
    go_enter Try.func7, Try.ntmps7
    go_wp2_with fail
    go_ret
    exact ⟨rfl, (Below.refl _ _).alloc (Nat.le_refl _) _⟩
  · have h2 : l.ds.length ≤ 300 := by omega
    by_cases h3 : 100 < l.cs.length
    · rw [show greatB l = true by unfold greatB; simp [h3]]
      go_enter Try.func7, Try.ntmps7
      go_wp2_with fail
      go_ret
      exact ⟨by first | rfl | (simp; omega), (Below.refl _ _).alloc (Nat.le_refl _) _⟩
    · rw [show greatB l = false by unfold greatB; simp; omega]
      go_enter Try.func7, Try.ntmps7
      go_wp2_with fail
      go_ret
      exact ⟨by first | rfl | (simp; omega), (Below.refl _ _).alloc (Nat.le_refl _) _⟩
end Go.Proofs.Ytaibocobeibobaa.Ln
