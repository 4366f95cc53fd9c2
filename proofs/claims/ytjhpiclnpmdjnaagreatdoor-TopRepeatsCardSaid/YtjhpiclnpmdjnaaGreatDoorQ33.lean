/-
  Parts of the proof: Y9.
-/
import Derived.Test.YtjhpiclnpmdjnaaGreatDoorQ32
namespace Go.Proofs.YtjhpiclnpmdjnaaGreatDoor.Bm
open Go Go.RowKit
open Go.Proofs.YtjhpiclnpmdjnaaGreatDoor
open Go.Proofs.YtjhpiclnpmdjnaaGreatDoor.Kl (byt byt_get)
open Go.Proofs.YtjhpiclnpmdjnaaGreatDoor.Ln (load_guarded SB tk ts z0 z1 z3 z4 z5 take_at call_at flat flat_len flat_get flat_mem RowIn OwnR Idx bl2 results2_cell Blk_setRow_same Blk_setRow_ne Below_setRow)
set_option linter.unusedSimpArgs false
set_option linter.unusedVariables false
set_option maxRecDepth 100000
theorem call_isn' {P : Program} {w0 : World} {f : FuncId} {args : Array Value} {W : World} (hS : SB w0 W) (h : Calls P f args W fun e w' => IsN e ∧ W = w') : Calls P f args W fun e w' => ∃ v, e = .returned v ∧ (∃ q : Int, v = .int .i64 q) ∧ SB w0 w' :=
 h.mono fun _ _ ⟨⟨q, he⟩, hb⟩ => ⟨_, he, ⟨q, rfl⟩, hb ▸ hS⟩
def RgR (w : World) (e : Xp) (g : Nat) (s : Value) (W : World) : Prop := ∃ k : Nat, k + g = e.l.length ∧ s = .int .i64 k ∧ Bk.Blk W w.heap.size #[.int .i64 (e).op, .int .i64 (e).n, .string (e).s, .slice (e).a (e).l.length (e).k] 139 ∧ Below w.heap.size w W
set_option maxHeartbeats 64000000 in
theorem right10_any (e : Xp) : ∀ w : World, XpIn w e → Calls Tryz.prog 188 #[.agg #[.int .i64 (e).op, .int .i64 (e).n, .string (e).s, .slice (e).a (e).l.length (e).k]] w fun r w' => IsB r ∧ Below w.heap.size w w' := by
 induction e using Xp.ind with
 | h e ih =>
 intro w h
 have hln := h.ln
 have hml : e.l.length ≤ 9223372036854775807 := by unfold maxLen at hln; omega
 clear hln
 have HIH := Lib.hid (fun (k : Nat) (hk : k < e.l.length) (W : World) (hW : Below w.heap.size w W) => ih e.l[k]! (by rw [getElem!_pos e.l k hk]; exact List.getElem_mem hk) W ((h.at hk).later hW))
 have HR := Lib.hid h.r
 clear h ih
 have cw : Below w.heap.size w (w.alloc (.cells #[.int .i64 (e).op, .int .i64 (e).n, .string (e).s, .slice (e).a (e).l.length (e).k] 139)) := Bk.be
 have ke : Bk.Blk (w.alloc (.cells #[.int .i64 (e).op, .int .i64 (e).n, .string (e).s, .slice (e).a (e).l.length (e).k] 139)) w.heap.size _ 139 := Bk.Blk.nw10
 go_enter Tryz.func188, Tryz.ntmps188
 go_upto_region 1 with fail
 generalize (w.alloc (.cells _ 139)) = w1 at *
 have hS0 : SB w1 w1.drew := (Below.refl _ _).drew
 refine wp_region_held_drew (S := SB w1) (by kernel_rfl) hS0 (fun hS => ?_)
 clear hS0
 refine tk 0 (by decide) ?_ hS (by kernel_rfl) (by kernel_rfl) (by kernel_rfl) (by rfl) (fun _ _ _ h => h) ?_ ?_
 rotate_left
 ·intro W hW
  clear hW
  simp only [z0, z1]
  go_simp
  first | done | with_reducible rfl
 simp only [z0, z1, Act.put, z3, z4, z5]
 refine tk 1 (by decide) ?_ hS (by kernel_rfl) (by kernel_rfl) (by kernel_rfl) (by rfl) (fun _ _ _ h => h) ?_ ?_
 rotate_left
 ·intro W hW
  have q0 := (ke.later hW).c0; have q1 := (ke.later hW).c1; have q2 := (ke.later hW).c2; have q3 := (ke.later hW).c3
  clear hW
  simp only [z0, z1]
  go_simp
  first | done | with_reducible rfl
 simp only [z0, z1, Act.put, z3, z4, z5]
 refine tk 2 (by decide) ?_ hS (by kernel_rfl) (by kernel_rfl) (by kernel_rfl) (by rfl) (fun _ _ _ h => h) ?_ ?_
 rotate_left
 ·intro W hW
  clear hW
  simp only [z0, z1]
  go_simp
  first | done | with_reducible rfl
 simp only [z0, z1, Act.put, z3, z4, z5]
 refine tk 3 (by decide) ?_ hS (by kernel_rfl) (by kernel_rfl) (by kernel_rfl) (by rfl) (fun _ _ _ h => h) ?_ ?_
 rotate_left
 ·intro W hW
  clear hW
  simp only [z0, z1]
  go_simp
  first | done | with_reducible rfl
 simp only [z0, z1, Act.put, z3, z4, z5]
 refine tk 4 (by decide) ?_ hS (by kernel_rfl) (by kernel_rfl) (by kernel_rfl) (by rfl) (fun _ _ _ h => h) ?_ ?_
 rotate_left
 ·intro W hW
  have q0 := (ke.later hW).c0; have q1 := (ke.later hW).c1; have q2 := (ke.later hW).c2; have q3 := (ke.later hW).c3
  clear hW
  simp only [z0, z1]
  go_simp
  first | done | with_reducible rfl
 simp only [z0, z1, Act.put, z3, z4, z5]
 refine call_at 5 (by decide) (Pi := fun v _ => ∃ q : Int, v = .int .i64 q) (by kernel_rfl) (by rfl) (by simp only [z0, z1]; go_simp; first | done | rfl | exact ⟨rfl, rfl⟩) (call_isn' hS (opnds_any _ _)) ?_
 clear hS
 rintro w12 u hS ⟨n, rfl⟩
 simp only [z0, z1, Act.put, z3, z4, z5]
 cases b1 : ((e.l.length : Int) != n)
 rotate_left
 ·refine tk 6 (by decide) ?_ hS (by kernel_rfl) (by kernel_rfl) (by kernel_rfl) (by rfl) (fun _ _ _ h => h) ?_ ?_
  rotate_left
  ·intro W hW
   clear hW
   simp only [z0, z1]
   go_simp
   first | done | with_reducible rfl
  simp only [z0, z1, Act.put, z3, z4, z5]
  refine tk 7 (by decide) ?_ hS (by kernel_rfl) (by kernel_rfl) (by kernel_rfl) (by rfl) (fun _ _ _ h => h) ?_ ?_
  rotate_left
  ·intro W hW
   clear hW
   simp only [z0, z1]
   go_simp
   first | done | with_reducible rfl
  simp only [z0, z1, Act.put, z3, z4, z5]
  refine ts 8 (by decide) hS (by kernel_rfl) (by kernel_rfl) (by kernel_rfl) (by rfl) (fun _ _ _ h => h) ?_
  simp only [z0, z1, Act.put, z3, z4, z5]
  refine ts 9 (by decide) hS (by kernel_rfl) (by kernel_rfl) (by kernel_rfl) (by rfl) (fun _ _ _ h => h) ?_
  simp only [z0, z1, Act.put, z3, z4, z5]
  refine ts 10 (by decide) hS (by kernel_rfl) (by kernel_rfl) (by kernel_rfl) (by rfl) (fun _ _ _ h => h) ?_
  simp only [z0, z1, Act.put, z3, z4, z5]
  refine tk 11 (by decide) ?_ hS (by kernel_rfl) (by kernel_rfl) (by kernel_rfl) (by rfl) (fun _ _ _ h => h) ?_ ?_
  rotate_left
  ·intro W hW
   clear hW
   simp only [z0, z1]
   go_simp
   first | done | with_reducible rfl
  simp only [z0, z1, Act.put, z3, z4, z5]
  refine tk 12 (by decide) ?_ hS (by kernel_rfl) (by kernel_rfl) (by kernel_rfl) (by rfl) (fun _ _ _ h => h) ?_ ?_
  rotate_left
  ·intro W hW
   clear hW
   simp only [z0, z1]
   go_simp
   first | done | with_reducible rfl
  simp only [z0, z1, Act.put, z3, z4, z5]
  refine ts 13 (by decide) hS (by kernel_rfl) (by kernel_rfl) (by kernel_rfl) (by rfl) (fun _ _ _ h => h) ?_
  simp only [z0, z1, Act.put, z3, z4, z5]
  refine ts 14 (by decide) hS (by kernel_rfl) (by kernel_rfl) (by kernel_rfl) (by rfl) (fun _ _ _ h => h) ?_
  simp only [z0, z1, Act.put, z3, z4, z5]
  refine ts 15 (by decide) hS (by kernel_rfl) (by kernel_rfl) (by kernel_rfl) (by rfl) (fun _ _ _ h => h) ?_
  simp only [z0, z1, Act.put, z3, z4, z5]
  refine ts 16 (by decide) hS (by kernel_rfl) (by kernel_rfl) (by kernel_rfl) (by rfl) (fun _ _ _ h => h) ?_
  simp only [z0, z1, Act.put, z3, z4, z5]
  refine ts 17 (by decide) hS (by kernel_rfl) (by kernel_rfl) (by kernel_rfl) (by rfl) (fun _ _ _ h => h) ?_
  simp only [z0, z1, Act.put, z3, z4, z5]
  refine ts 18 (by decide) hS (by kernel_rfl) (by kernel_rfl) (by kernel_rfl) (by rfl) (fun _ _ _ h => h) ?_
  simp only [z0, z1, Act.put, z3, z4, z5]
  refine tk 19 (by decide) ?_ hS (by kernel_rfl) (by kernel_rfl) (by kernel_rfl) (by rfl) (fun _ _ _ h => h) ?_ ?_
  rotate_left
  ·intro W hW
   clear hW
   simp only [z0, z1]
   go_simp
   first | done | with_reducible rfl
  simp only [z0, z1, Act.put, z3, z4, z5]
  refine tk 20 (by decide) ?_ hS (by kernel_rfl) (by kernel_rfl) (by kernel_rfl) (by rfl) (fun _ _ _ h => h) ?_ ?_
  rotate_left
  ·intro W hW
   clear hW
   simp only [z0, z1]
   go_simp
   first | done | with_reducible rfl
  simp only [z0, z1, Act.put, z3, z4, z5]
  refine ts 21 (by decide) hS (by kernel_rfl) (by kernel_rfl) (by kernel_rfl) (by rfl) (fun _ _ _ h => h) ?_
  simp only [z0, z1, Act.put, z3, z4, z5]
  refine ts 22 (by decide) hS (by kernel_rfl) (by kernel_rfl) (by kernel_rfl) (by rfl) (fun _ _ _ h => h) ?_
  simp only [z0, z1, Act.put, z3, z4, z5]
  refine ts 23 (by decide) hS (by kernel_rfl) (by kernel_rfl) (by kernel_rfl) (by rfl) (fun _ _ _ h => h) ?_
  simp only [z0, z1, Act.put, z3, z4, z5]
  refine ts 24 (by decide) hS (by kernel_rfl) (by kernel_rfl) (by kernel_rfl) (by rfl) (fun _ _ _ h => h) ?_
  simp only [z0, z1, Act.put, z3, z4, z5]
  refine ts 25 (by decide) hS (by kernel_rfl) (by kernel_rfl) (by kernel_rfl) (by rfl) (fun _ _ _ h => h) ?_
  simp only [z0, z1, Act.put, z3, z4, z5]
  refine ts 26 (by decide) hS (by kernel_rfl) (by kernel_rfl) (by kernel_rfl) (by rfl) (fun _ _ _ h => h) ?_
  simp only [z0, z1, Act.put, z3, z4, z5]
  refine ts 27 (by decide) hS (by kernel_rfl) (by kernel_rfl) (by kernel_rfl) (by rfl) (fun _ _ _ h => h) ?_
  simp only [z0, z1, Act.put, z3, z4, z5]
  refine ts 28 (by decide) hS (by kernel_rfl) (by kernel_rfl) (by kernel_rfl) (by rfl) (fun _ _ _ h => h) ?_
  simp only [z0, z1, Act.put, z3, z4, z5]
  refine tk 29 (by decide) ?_ hS (by kernel_rfl) (by kernel_rfl) (by kernel_rfl) (by rfl) (fun _ _ _ h => h) ?_ ?_
  rotate_left
  ·intro W hW
   clear hW
   simp only [z0, z1]
   go_simp
   first | done | with_reducible rfl
  simp only [z0, z1, Act.put, z3, z4, z5]
  refine wpAnyH_done (by kernel_rfl) ?_ _
  have c9 := bl2 hS cw
  replace ke := ke.later hS
  clear hS
  go_wp2_with fail
  (go_ret; exact ⟨⟨_, rfl⟩, c9⟩)
 by_cases h2 : e.n < 0
 ·have g2 : decide (e.n < 0) = true := decide_eq_true h2
  clear h2
  refine tk 6 (by decide) ?_ hS (by kernel_rfl) (by kernel_rfl) (by kernel_rfl) (by rfl) (fun _ _ _ h => h) ?_ ?_
  rotate_left
  ·intro W hW
   clear hW
   simp only [z0, z1]
   go_simp
   first | done | with_reducible rfl
  simp only [z0, z1, Act.put, z3, z4, z5]
  refine tk 7 (by decide) ?_ hS (by kernel_rfl) (by kernel_rfl) (by kernel_rfl) (by rfl) (fun _ _ _ h => h) ?_ ?_
  rotate_left
  ·intro W hW
   clear hW
   simp only [z0, z1]
   go_simp
   first | done | with_reducible rfl
  simp only [z0, z1, Act.put, z3, z4, z5]
  refine tk 8 (by decide) ?_ hS (by kernel_rfl) (by kernel_rfl) (by kernel_rfl) (by rfl) (fun _ _ _ h => h) ?_ ?_
  rotate_left
  ·intro W hW
   clear hW
   simp only [z0, z1]
   go_simp
   first | done | with_reducible rfl
  simp only [z0, z1, Act.put, z3, z4, z5]
  refine tk 9 (by decide) ?_ hS (by kernel_rfl) (by kernel_rfl) (by kernel_rfl) (by rfl) (fun _ _ _ h => h) ?_ ?_
  rotate_left
  ·intro W hW
   have q0 := (ke.later hW).c0; have q1 := (ke.later hW).c1; have q2 := (ke.later hW).c2; have q3 := (ke.later hW).c3
   clear hW
   simp only [z0, z1]
   go_simp
   first | done | with_reducible rfl
  simp only [z0, z1, Act.put, z3, z4, z5]
  refine tk 10 (by decide) ?_ hS (by kernel_rfl) (by kernel_rfl) (by kernel_rfl) (by rfl) (fun _ _ _ h => h) ?_ ?_
  rotate_left
  ·intro W hW
   clear hW
   simp only [z0, z1]
   go_simp
   first | done | with_reducible rfl
  simp only [z0, z1, Act.put, z3, z4, z5]
  refine tk 11 (by decide) ?_ hS (by kernel_rfl) (by kernel_rfl) (by kernel_rfl) (by rfl) (fun _ _ _ h => h) ?_ ?_
  rotate_left
  ·intro W hW
   clear hW
   simp only [z0, z1]
   go_simp
   first | done | with_reducible rfl
  simp only [z0, z1, Act.put, z3, z4, z5]
  refine tk 12 (by decide) ?_ hS (by kernel_rfl) (by kernel_rfl) (by kernel_rfl) (by rfl) (fun _ _ _ h => h) ?_ ?_
  rotate_left
  ·intro W hW
   clear hW
   simp only [z0, z1]
   go_simp
   first | done | with_reducible rfl
  simp only [z0, z1, Act.put, z3, z4, z5]
  refine ts 13 (by decide) hS (by kernel_rfl) (by kernel_rfl) (by kernel_rfl) (by rfl) (fun _ _ _ h => h) ?_
  simp only [z0, z1, Act.put, z3, z4, z5]
  refine ts 14 (by decide) hS (by kernel_rfl) (by kernel_rfl) (by kernel_rfl) (by rfl) (fun _ _ _ h => h) ?_
  simp only [z0, z1, Act.put, z3, z4, z5]
  refine ts 15 (by decide) hS (by kernel_rfl) (by kernel_rfl) (by kernel_rfl) (by rfl) (fun _ _ _ h => h) ?_
  simp only [z0, z1, Act.put, z3, z4, z5]
  refine ts 16 (by decide) hS (by kernel_rfl) (by kernel_rfl) (by kernel_rfl) (by rfl) (fun _ _ _ h => h) ?_
  simp only [z0, z1, Act.put, z3, z4, z5]
  refine ts 17 (by decide) hS (by kernel_rfl) (by kernel_rfl) (by kernel_rfl) (by rfl) (fun _ _ _ h => h) ?_
  simp only [z0, z1, Act.put, z3, z4, z5]
  refine ts 18 (by decide) hS (by kernel_rfl) (by kernel_rfl) (by kernel_rfl) (by rfl) (fun _ _ _ h => h) ?_
  simp only [z0, z1, Act.put, z3, z4, z5]
  refine tk 19 (by decide) ?_ hS (by kernel_rfl) (by kernel_rfl) (by kernel_rfl) (by rfl) (fun _ _ _ h => h) ?_ ?_
  rotate_left
  ·intro W hW
   clear hW
   simp only [z0, z1]
   go_simp
   first | done | with_reducible rfl
  simp only [z0, z1, Act.put, z3, z4, z5]
  refine tk 20 (by decide) ?_ hS (by kernel_rfl) (by kernel_rfl) (by kernel_rfl) (by rfl) (fun _ _ _ h => h) ?_ ?_
  rotate_left
  ·intro W hW
   clear hW
   simp only [z0, z1]
   go_simp
   first | done | with_reducible rfl
  simp only [z0, z1, Act.put, z3, z4, z5]
  refine ts 21 (by decide) hS (by kernel_rfl) (by kernel_rfl) (by kernel_rfl) (by rfl) (fun _ _ _ h => h) ?_
  simp only [z0, z1, Act.put, z3, z4, z5]
  refine ts 22 (by decide) hS (by kernel_rfl) (by kernel_rfl) (by kernel_rfl) (by rfl) (fun _ _ _ h => h) ?_
  simp only [z0, z1, Act.put, z3, z4, z5]
  refine ts 23 (by decide) hS (by kernel_rfl) (by kernel_rfl) (by kernel_rfl) (by rfl) (fun _ _ _ h => h) ?_
  simp only [z0, z1, Act.put, z3, z4, z5]
  refine ts 24 (by decide) hS (by kernel_rfl) (by kernel_rfl) (by kernel_rfl) (by rfl) (fun _ _ _ h => h) ?_
  simp only [z0, z1, Act.put, z3, z4, z5]
  refine ts 25 (by decide) hS (by kernel_rfl) (by kernel_rfl) (by kernel_rfl) (by rfl) (fun _ _ _ h => h) ?_
  simp only [z0, z1, Act.put, z3, z4, z5]
  refine ts 26 (by decide) hS (by kernel_rfl) (by kernel_rfl) (by kernel_rfl) (by rfl) (fun _ _ _ h => h) ?_
  simp only [z0, z1, Act.put, z3, z4, z5]
  refine ts 27 (by decide) hS (by kernel_rfl) (by kernel_rfl) (by kernel_rfl) (by rfl) (fun _ _ _ h => h) ?_
  simp only [z0, z1, Act.put, z3, z4, z5]
  refine ts 28 (by decide) hS (by kernel_rfl) (by kernel_rfl) (by kernel_rfl) (by rfl) (fun _ _ _ h => h) ?_
  simp only [z0, z1, Act.put, z3, z4, z5]
  refine tk 29 (by decide) ?_ hS (by kernel_rfl) (by kernel_rfl) (by kernel_rfl) (by rfl) (fun _ _ _ h => h) ?_ ?_
  rotate_left
  ·intro W hW
   clear hW
   simp only [z0, z1]
   go_simp
   first | done | with_reducible rfl
  simp only [z0, z1, Act.put, z3, z4, z5]
  refine wpAnyH_done (by kernel_rfl) ?_ _
  have c9 := bl2 hS cw
  replace ke := ke.later hS
  clear hS
  go_wp2_with fail
  (go_ret; exact ⟨⟨_, rfl⟩, c9⟩)
 have g2 : decide (e.n < 0) = false := decide_eq_false h2
 clear h2
 refine tk 6 (by decide) ?_ hS (by kernel_rfl) (by kernel_rfl) (by kernel_rfl) (by rfl) (fun _ _ _ h => h) ?_ ?_
 rotate_left
 ·intro W hW
  clear hW
  simp only [z0, z1]
  go_simp
  first | done | with_reducible rfl
 simp only [z0, z1, Act.put, z3, z4, z5]
 refine tk 7 (by decide) ?_ hS (by kernel_rfl) (by kernel_rfl) (by kernel_rfl) (by rfl) (fun _ _ _ h => h) ?_ ?_
 rotate_left
 ·intro W hW
  clear hW
  simp only [z0, z1]
  go_simp
  first | done | with_reducible rfl
 simp only [z0, z1, Act.put, z3, z4, z5]
 refine tk 8 (by decide) ?_ hS (by kernel_rfl) (by kernel_rfl) (by kernel_rfl) (by rfl) (fun _ _ _ h => h) ?_ ?_
 rotate_left
 ·intro W hW
  clear hW
  simp only [z0, z1]
  go_simp
  first | done | with_reducible rfl
 simp only [z0, z1, Act.put, z3, z4, z5]
 refine tk 9 (by decide) ?_ hS (by kernel_rfl) (by kernel_rfl) (by kernel_rfl) (by rfl) (fun _ _ _ h => h) ?_ ?_
 rotate_left
 ·intro W hW
  have q0 := (ke.later hW).c0; have q1 := (ke.later hW).c1; have q2 := (ke.later hW).c2; have q3 := (ke.later hW).c3
  clear hW
  simp only [z0, z1]
  go_simp
  first | done | with_reducible rfl
 simp only [z0, z1, Act.put, z3, z4, z5]
 refine tk 10 (by decide) ?_ hS (by kernel_rfl) (by kernel_rfl) (by kernel_rfl) (by rfl) (fun _ _ _ h => h) ?_ ?_
 rotate_left
 ·intro W hW
  clear hW
  simp only [z0, z1]
  go_simp
  first | done | with_reducible rfl
 simp only [z0, z1, Act.put, z3, z4, z5]
 refine tk 11 (by decide) ?_ hS (by kernel_rfl) (by kernel_rfl) (by kernel_rfl) (by rfl) (fun _ _ _ h => h) ?_ ?_
 rotate_left
 ·intro W hW
  clear hW
  simp only [z0, z1]
  go_simp
  first | done | with_reducible rfl
 simp only [z0, z1, Act.put, z3, z4, z5]
 refine tk 12 (by decide) ?_ hS (by kernel_rfl) (by kernel_rfl) (by kernel_rfl) (by rfl) (fun _ _ _ h => h) ?_ ?_
 rotate_left
 ·intro W hW
  clear hW
  simp only [z0, z1]
  go_simp
  first | done | with_reducible rfl
 simp only [z0, z1, Act.put, z3, z4, z5]
 refine tk 13 (by decide) ?_ hS (by kernel_rfl) (by kernel_rfl) (by kernel_rfl) (by rfl) (fun _ _ _ h => h) ?_ ?_
 rotate_left
 ·intro W hW
  clear hW
  simp only [z0, z1]
  go_simp
  first | done | with_reducible rfl
 simp only [z0, z1, Act.put, z3, z4, z5]
 refine tk 14 (by decide) ?_ hS (by kernel_rfl) (by kernel_rfl) (by kernel_rfl) (by rfl) (fun _ _ _ h => h) ?_ ?_
 rotate_left
 ·intro W hW
  have q0 := (ke.later hW).c0; have q1 := (ke.later hW).c1; have q2 := (ke.later hW).c2; have q3 := (ke.later hW).c3
  clear hW
  simp only [z0, z1]
  go_simp
  first | done | with_reducible rfl
 simp only [z0, z1, Act.put, z3, z4, z5]
 refine tk 15 (by decide) ?_ hS (by kernel_rfl) (by kernel_rfl) (by kernel_rfl) (by rfl) (fun _ _ _ h => h) ?_ ?_
 rotate_left
 ·intro W hW
  clear hW
  simp only [z0, z1]
  go_simp
  first | done | with_reducible rfl
 simp only [z0, z1, Act.put, z3, z4, z5]
 refine tk 16 (by decide) ?_ hS (by kernel_rfl) (by kernel_rfl) (by kernel_rfl) (by rfl) (fun _ _ _ h => h) ?_ ?_
 rotate_left
 ·intro W hW
  have q0 := (ke.later hW).c0; have q1 := (ke.later hW).c1; have q2 := (ke.later hW).c2; have q3 := (ke.later hW).c3
  clear hW
  simp only [z0, z1]
  go_simp
  first | done | with_reducible rfl
 simp only [z0, z1, Act.put, z3, z4, z5]
 refine call_at 17 (by decide) (Pi := fun v _ => ∃ q : Int, v = .int .i64 q) (by kernel_rfl) (by rfl) (by simp only [z0, z1]; go_simp; first | done | rfl | exact ⟨rfl, rfl⟩) (call_isn' hS (most_any _ _)) ?_
 clear hS
 rintro w24 u hS ⟨m, rfl⟩
 simp only [z0, z1, Act.put, z3, z4, z5]
 by_cases h3 : m < e.n
 ·have g3 : decide (m < e.n) = true := decide_eq_true h3
  clear h3
  refine tk 18 (by decide) ?_ hS (by kernel_rfl) (by kernel_rfl) (by kernel_rfl) (by rfl) (fun _ _ _ h => h) ?_ ?_
  rotate_left
  ·intro W hW
   clear hW
   simp only [z0, z1]
   go_simp
   first | done | with_reducible rfl
  simp only [z0, z1, Act.put, z3, z4, z5]
  refine tk 19 (by decide) ?_ hS (by kernel_rfl) (by kernel_rfl) (by kernel_rfl) (by rfl) (fun _ _ _ h => h) ?_ ?_
  rotate_left
  ·intro W hW
   clear hW
   simp only [z0, z1]
   go_simp
   first | done | with_reducible rfl
  simp only [z0, z1, Act.put, z3, z4, z5]
  refine tk 20 (by decide) ?_ hS (by kernel_rfl) (by kernel_rfl) (by kernel_rfl) (by rfl) (fun _ _ _ h => h) ?_ ?_
  rotate_left
  ·intro W hW
   clear hW
   simp only [z0, z1]
   go_simp
   first | done | with_reducible rfl
  simp only [z0, z1, Act.put, z3, z4, z5]
  refine ts 21 (by decide) hS (by kernel_rfl) (by kernel_rfl) (by kernel_rfl) (by rfl) (fun _ _ _ h => h) ?_
  simp only [z0, z1, Act.put, z3, z4, z5]
  refine ts 22 (by decide) hS (by kernel_rfl) (by kernel_rfl) (by kernel_rfl) (by rfl) (fun _ _ _ h => h) ?_
  simp only [z0, z1, Act.put, z3, z4, z5]
  refine ts 23 (by decide) hS (by kernel_rfl) (by kernel_rfl) (by kernel_rfl) (by rfl) (fun _ _ _ h => h) ?_
  simp only [z0, z1, Act.put, z3, z4, z5]
  refine ts 24 (by decide) hS (by kernel_rfl) (by kernel_rfl) (by kernel_rfl) (by rfl) (fun _ _ _ h => h) ?_
  simp only [z0, z1, Act.put, z3, z4, z5]
  refine ts 25 (by decide) hS (by kernel_rfl) (by kernel_rfl) (by kernel_rfl) (by rfl) (fun _ _ _ h => h) ?_
  simp only [z0, z1, Act.put, z3, z4, z5]
  refine ts 26 (by decide) hS (by kernel_rfl) (by kernel_rfl) (by kernel_rfl) (by rfl) (fun _ _ _ h => h) ?_
  simp only [z0, z1, Act.put, z3, z4, z5]
  refine ts 27 (by decide) hS (by kernel_rfl) (by kernel_rfl) (by kernel_rfl) (by rfl) (fun _ _ _ h => h) ?_
  simp only [z0, z1, Act.put, z3, z4, z5]
  refine ts 28 (by decide) hS (by kernel_rfl) (by kernel_rfl) (by kernel_rfl) (by rfl) (fun _ _ _ h => h) ?_
  simp only [z0, z1, Act.put, z3, z4, z5]
  refine tk 29 (by decide) ?_ hS (by kernel_rfl) (by kernel_rfl) (by kernel_rfl) (by rfl) (fun _ _ _ h => h) ?_ ?_
  rotate_left
  ·intro W hW
   clear hW
   simp only [z0, z1]
   go_simp
   first | done | with_reducible rfl
  simp only [z0, z1, Act.put, z3, z4, z5]
  refine wpAnyH_done (by kernel_rfl) ?_ _
  have c9 := bl2 hS cw
  replace ke := ke.later hS
  clear hS
  go_wp2_with fail
  (go_ret; exact ⟨⟨_, rfl⟩, c9⟩)
 have g3 : decide (m < e.n) = false := decide_eq_false h3
 clear h3
 cases b4 : (e.op != 4)
 ·refine tk 18 (by decide) ?_ hS (by kernel_rfl) (by kernel_rfl) (by kernel_rfl) (by rfl) (fun _ _ _ h => h) ?_ ?_
  rotate_left
  ·intro W hW
   clear hW
   simp only [z0, z1]
   go_simp
   first | done | with_reducible rfl
  simp only [z0, z1, Act.put, z3, z4, z5]
  refine tk 19 (by decide) ?_ hS (by kernel_rfl) (by kernel_rfl) (by kernel_rfl) (by rfl) (fun _ _ _ h => h) ?_ ?_
  rotate_left
  ·intro W hW
   clear hW
   simp only [z0, z1]
   go_simp
   first | done | with_reducible rfl
  simp only [z0, z1, Act.put, z3, z4, z5]
  refine tk 20 (by decide) ?_ hS (by kernel_rfl) (by kernel_rfl) (by kernel_rfl) (by rfl) (fun _ _ _ h => h) ?_ ?_
  rotate_left
  ·intro W hW
   clear hW
   simp only [z0, z1]
   go_simp
   first | done | with_reducible rfl
  simp only [z0, z1, Act.put, z3, z4, z5]
  refine tk 21 (by decide) ?_ hS (by kernel_rfl) (by kernel_rfl) (by kernel_rfl) (by rfl) (fun _ _ _ h => h) ?_ ?_
  rotate_left
  ·intro W hW
   clear hW
   simp only [z0, z1]
   go_simp
   first | done | with_reducible rfl
  simp only [z0, z1, Act.put, z3, z4, z5]
  refine tk 22 (by decide) ?_ hS (by kernel_rfl) (by kernel_rfl) (by kernel_rfl) (by rfl) (fun _ _ _ h => h) ?_ ?_
  rotate_left
  ·intro W hW
   have q0 := (ke.later hW).c0; have q1 := (ke.later hW).c1; have q2 := (ke.later hW).c2; have q3 := (ke.later hW).c3
   clear hW
   simp only [z0, z1]
   go_simp
   first | done | with_reducible rfl
  simp only [z0, z1, Act.put, z3, z4, z5]
  refine tk 23 (by decide) ?_ hS (by kernel_rfl) (by kernel_rfl) (by kernel_rfl) (by rfl) (fun _ _ _ h => h) ?_ ?_
  rotate_left
  ·intro W hW
   clear hW
   simp only [z0, z1]
   go_simp
   first | done | with_reducible rfl
  simp only [z0, z1, Act.put, z3, z4, z5]
  refine tk 24 (by decide) ?_ hS (by kernel_rfl) (by kernel_rfl) (by kernel_rfl) (by rfl) (fun _ _ _ h => h) ?_ ?_
  rotate_left
  ·intro W hW
   clear hW
   simp only [z0, z1]
   go_simp
   first | done | with_reducible rfl
  simp only [z0, z1, Act.put, z3, z4, z5]
  refine ts 25 (by decide) hS (by kernel_rfl) (by kernel_rfl) (by kernel_rfl) (by rfl) (fun _ _ _ h => h) ?_
  simp only [z0, z1, Act.put, z3, z4, z5]
  refine ts 26 (by decide) hS (by kernel_rfl) (by kernel_rfl) (by kernel_rfl) (by rfl) (fun _ _ _ h => h) ?_
  simp only [z0, z1, Act.put, z3, z4, z5]
  refine ts 27 (by decide) hS (by kernel_rfl) (by kernel_rfl) (by kernel_rfl) (by rfl) (fun _ _ _ h => h) ?_
  simp only [z0, z1, Act.put, z3, z4, z5]
  refine tk 28 (by decide) ?_ hS (by kernel_rfl) (by kernel_rfl) (by kernel_rfl) (by rfl) (fun _ _ _ h => h) ?_ ?_
  rotate_left
  ·intro W hW
   clear hW
   simp only [z0, z1]
   go_simp
   first | done | with_reducible rfl
  simp only [z0, z1, Act.put, z3, z4, z5]
  refine tk 29 (by decide) ?_ hS (by kernel_rfl) (by kernel_rfl) (by kernel_rfl) (by rfl) (fun _ _ _ h => h) ?_ ?_
  rotate_left
  ·intro W hW
   clear hW
   simp only [z0, z1]
   go_simp
   first | done | with_reducible rfl
  simp only [z0, z1, Act.put, z3, z4, z5]
  refine wpAnyH_done (by kernel_rfl) ?_ _
  have c9 := bl2 hS cw
  replace ke := ke.later hS
  clear hS
  go_wp2_with fail
  all_goals first
   | (go_ret; exact ⟨⟨_, rfl⟩, c9⟩)
   | skip
  go_loopg [3] e.l.length (RgR w e)
  case atStart => exact ⟨0, by omega, rfl, ke, c9⟩
  case round =>
   clear ke c9 cw
   obtain ⟨k, hk, rfl, ke, hbr⟩ := hrel
   have e3 := ke.c3
   by_cases hlt : k < e.l.length
   ·obtain ⟨b, off, ha, hc⟩ := rowat xpenc_len HR.out (by omega)
    have hm := range_later hbr (hc k hlt)
    clear hc
    have HC := Lib.hid (HIH.out k hlt)
    obtain ⟨x, hxx⟩ : ∃ x, x = e.l[k]! := ⟨_, rfl⟩
    rw [← hxx] at hm HC
    clear hxx
    rw [ha] at e3
    clear ha
    go_wp2_with ((refine wpList_load_mid rfl 139 _ rfl _ (off + k * 4) (by first | rfl | simp) ([.int .i64 (x).op, .int .i64 (x).n, .string (x).s, .slice (x).a (x).l.length (x).k]) _ (hm) Tryz.underlying139 rfl (by kernel_rfl) ?_))
    refine (HC.out _ hbr).mono ?_
    rintro r w3 ⟨⟨c, rfl⟩, hb⟩
    have c3 := bl2 hb hbr
    replace ke := ke.later hb
    clear hb e3
    cases c
    ·go_wp2_with fail
     (go_ret; exact ⟨⟨_, rfl⟩, c3⟩)
    ·go_wp2_with fail
     go_roundg (gk - 1)
     case measure => omega
     case rel => exact ⟨k + 1, by omega, by go_num, ke, c3⟩
   ·go_wp2_with fail
    (go_ret; exact ⟨⟨_, rfl⟩, hbr⟩)
 ·cases bs : e.s.toList.isEmpty
  ·refine tk 18 (by decide) ?_ hS (by kernel_rfl) (by kernel_rfl) (by kernel_rfl) (by rfl) (fun _ _ _ h => h) ?_ ?_
   rotate_left
   ·intro W hW
    clear hW
    simp only [z0, z1]
    go_simp
    first | done | with_reducible rfl
   simp only [z0, z1, Act.put, z3, z4, z5]
   refine tk 19 (by decide) ?_ hS (by kernel_rfl) (by kernel_rfl) (by kernel_rfl) (by rfl) (fun _ _ _ h => h) ?_ ?_
   rotate_left
   ·intro W hW
    clear hW
    simp only [z0, z1]
    go_simp
    first | done | with_reducible rfl
   simp only [z0, z1, Act.put, z3, z4, z5]
   refine tk 20 (by decide) ?_ hS (by kernel_rfl) (by kernel_rfl) (by kernel_rfl) (by rfl) (fun _ _ _ h => h) ?_ ?_
   rotate_left
   ·intro W hW
    clear hW
    simp only [z0, z1]
    go_simp
    first | done | with_reducible rfl
   simp only [z0, z1, Act.put, z3, z4, z5]
   refine tk 21 (by decide) ?_ hS (by kernel_rfl) (by kernel_rfl) (by kernel_rfl) (by rfl) (fun _ _ _ h => h) ?_ ?_
   rotate_left
   ·intro W hW
    clear hW
    simp only [z0, z1]
    go_simp
    first | done | with_reducible rfl
   simp only [z0, z1, Act.put, z3, z4, z5]
   refine tk 22 (by decide) ?_ hS (by kernel_rfl) (by kernel_rfl) (by kernel_rfl) (by rfl) (fun _ _ _ h => h) ?_ ?_
   rotate_left
   ·intro W hW
    have q0 := (ke.later hW).c0; have q1 := (ke.later hW).c1; have q2 := (ke.later hW).c2; have q3 := (ke.later hW).c3
    clear hW
    simp only [z0, z1]
    go_simp
    first | done | with_reducible rfl
   simp only [z0, z1, Act.put, z3, z4, z5]
   refine tk 23 (by decide) ?_ hS (by kernel_rfl) (by kernel_rfl) (by kernel_rfl) (by rfl) (fun _ _ _ h => h) ?_ ?_
   rotate_left
   ·intro W hW
    clear hW
    simp only [z0, z1]
    go_simp
    first | done | with_reducible rfl
   simp only [z0, z1, Act.put, z3, z4, z5]
   refine tk 24 (by decide) ?_ hS (by kernel_rfl) (by kernel_rfl) (by kernel_rfl) (by rfl) (fun _ _ _ h => h) ?_ ?_
   rotate_left
   ·intro W hW
    clear hW
    simp only [z0, z1]
    go_simp
    first | done | with_reducible rfl
   simp only [z0, z1, Act.put, z3, z4, z5]
   refine tk 25 (by decide) ?_ hS (by kernel_rfl) (by kernel_rfl) (by kernel_rfl) (by rfl) (fun _ _ _ h => h) ?_ ?_
   rotate_left
   ·intro W hW
    clear hW
    simp only [z0, z1]
    go_simp
    first | done | with_reducible rfl
   simp only [z0, z1, Act.put, z3, z4, z5]
   refine tk 26 (by decide) ?_ hS (by kernel_rfl) (by kernel_rfl) (by kernel_rfl) (by rfl) (fun _ _ _ h => h) ?_ ?_
   rotate_left
   ·intro W hW
    have q0 := (ke.later hW).c0; have q1 := (ke.later hW).c1; have q2 := (ke.later hW).c2; have q3 := (ke.later hW).c3
    clear hW
    simp only [z0, z1]
    go_simp
    first | done | with_reducible rfl
   simp only [z0, z1, Act.put, z3, z4, z5]
   refine tk 27 (by decide) ?_ hS (by kernel_rfl) (by kernel_rfl) (by kernel_rfl) (by rfl) (fun _ _ _ h => h) ?_ ?_
   rotate_left
   ·intro W hW
    clear hW
    simp only [z0, z1]
    go_simp
    first | done | with_reducible rfl
   simp only [z0, z1, Act.put, z3, z4, z5]
   refine tk 28 (by decide) ?_ hS (by kernel_rfl) (by kernel_rfl) (by kernel_rfl) (by rfl) (fun _ _ _ h => h) ?_ ?_
   rotate_left
   ·intro W hW
    clear hW
    simp only [z0, z1]
    go_simp
    first | done | with_reducible rfl
   simp only [z0, z1, Act.put, z3, z4, z5]
   refine tk 29 (by decide) ?_ hS (by kernel_rfl) (by kernel_rfl) (by kernel_rfl) (by rfl) (fun _ _ _ h => h) ?_ ?_
   rotate_left
   ·intro W hW
    clear hW
    simp only [z0, z1]
    go_simp
    first | done | with_reducible rfl
   simp only [z0, z1, Act.put, z3, z4, z5]
   refine wpAnyH_done (by kernel_rfl) ?_ _
   have c9 := bl2 hS cw
   replace ke := ke.later hS
   clear hS
   go_wp2_with fail
   (go_ret; exact ⟨⟨_, rfl⟩, c9⟩)
  ·refine tk 18 (by decide) ?_ hS (by kernel_rfl) (by kernel_rfl) (by kernel_rfl) (by rfl) (fun _ _ _ h => h) ?_ ?_
   rotate_left
   ·intro W hW
    clear hW
    simp only [z0, z1]
    go_simp
    first | done | with_reducible rfl
   simp only [z0, z1, Act.put, z3, z4, z5]
   refine tk 19 (by decide) ?_ hS (by kernel_rfl) (by kernel_rfl) (by kernel_rfl) (by rfl) (fun _ _ _ h => h) ?_ ?_
   rotate_left
   ·intro W hW
    clear hW
    simp only [z0, z1]
    go_simp
    first | done | with_reducible rfl
   simp only [z0, z1, Act.put, z3, z4, z5]
   refine tk 20 (by decide) ?_ hS (by kernel_rfl) (by kernel_rfl) (by kernel_rfl) (by rfl) (fun _ _ _ h => h) ?_ ?_
   rotate_left
   ·intro W hW
    clear hW
    simp only [z0, z1]
    go_simp
    first | done | with_reducible rfl
   simp only [z0, z1, Act.put, z3, z4, z5]
   refine tk 21 (by decide) ?_ hS (by kernel_rfl) (by kernel_rfl) (by kernel_rfl) (by rfl) (fun _ _ _ h => h) ?_ ?_
   rotate_left
   ·intro W hW
    clear hW
    simp only [z0, z1]
    go_simp
    first | done | with_reducible rfl
   simp only [z0, z1, Act.put, z3, z4, z5]
   refine tk 22 (by decide) ?_ hS (by kernel_rfl) (by kernel_rfl) (by kernel_rfl) (by rfl) (fun _ _ _ h => h) ?_ ?_
   rotate_left
   ·intro W hW
    have q0 := (ke.later hW).c0; have q1 := (ke.later hW).c1; have q2 := (ke.later hW).c2; have q3 := (ke.later hW).c3
    clear hW
    simp only [z0, z1]
    go_simp
    first | done | with_reducible rfl
   simp only [z0, z1, Act.put, z3, z4, z5]
   refine tk 23 (by decide) ?_ hS (by kernel_rfl) (by kernel_rfl) (by kernel_rfl) (by rfl) (fun _ _ _ h => h) ?_ ?_
   rotate_left
   ·intro W hW
    clear hW
    simp only [z0, z1]
    go_simp
    first | done | with_reducible rfl
   simp only [z0, z1, Act.put, z3, z4, z5]
   refine tk 24 (by decide) ?_ hS (by kernel_rfl) (by kernel_rfl) (by kernel_rfl) (by rfl) (fun _ _ _ h => h) ?_ ?_
   rotate_left
   ·intro W hW
    clear hW
    simp only [z0, z1]
    go_simp
    first | done | with_reducible rfl
   simp only [z0, z1, Act.put, z3, z4, z5]
   refine tk 25 (by decide) ?_ hS (by kernel_rfl) (by kernel_rfl) (by kernel_rfl) (by rfl) (fun _ _ _ h => h) ?_ ?_
   rotate_left
   ·intro W hW
    clear hW
    simp only [z0, z1]
    go_simp
    first | done | with_reducible rfl
   simp only [z0, z1, Act.put, z3, z4, z5]
   refine tk 26 (by decide) ?_ hS (by kernel_rfl) (by kernel_rfl) (by kernel_rfl) (by rfl) (fun _ _ _ h => h) ?_ ?_
   rotate_left
   ·intro W hW
    have q0 := (ke.later hW).c0; have q1 := (ke.later hW).c1; have q2 := (ke.later hW).c2; have q3 := (ke.later hW).c3
    clear hW
    simp only [z0, z1]
    go_simp
    first | done | with_reducible rfl
   simp only [z0, z1, Act.put, z3, z4, z5]
   refine tk 27 (by decide) ?_ hS (by kernel_rfl) (by kernel_rfl) (by kernel_rfl) (by rfl) (fun _ _ _ h => h) ?_ ?_
   rotate_left
   ·intro W hW
    clear hW
    simp only [z0, z1]
    go_simp
    first | done | with_reducible rfl
   simp only [z0, z1, Act.put, z3, z4, z5]
   refine tk 28 (by decide) ?_ hS (by kernel_rfl) (by kernel_rfl) (by kernel_rfl) (by rfl) (fun _ _ _ h => h) ?_ ?_
   rotate_left
   ·intro W hW
    clear hW
    simp only [z0, z1]
    go_simp
    first | done | with_reducible rfl
   simp only [z0, z1, Act.put, z3, z4, z5]
   refine tk 29 (by decide) ?_ hS (by kernel_rfl) (by kernel_rfl) (by kernel_rfl) (by rfl) (fun _ _ _ h => h) ?_ ?_
   rotate_left
   ·intro W hW
    clear hW
    simp only [z0, z1]
    go_simp
    first | done | with_reducible rfl
   simp only [z0, z1, Act.put, z3, z4, z5]
   refine wpAnyH_done (by kernel_rfl) ?_ _
   have c9 := bl2 hS cw
   replace ke := ke.later hS
   clear hS
   go_wp2_with fail
   all_goals first
    | (go_ret; exact ⟨⟨_, rfl⟩, c9⟩)
    | skip
   go_loopg [3] e.l.length (RgR w e)
   case atStart => exact ⟨0, by omega, rfl, ke, c9⟩
   case round =>
    clear ke c9 cw
    obtain ⟨k, hk, rfl, ke, hbr⟩ := hrel
    have e3 := ke.c3
    by_cases hlt : k < e.l.length
    ·obtain ⟨b, off, ha, hc⟩ := rowat xpenc_len HR.out (by omega)
     have hm := range_later hbr (hc k hlt)
     clear hc
     have HC := Lib.hid (HIH.out k hlt)
     obtain ⟨x, hxx⟩ : ∃ x, x = e.l[k]! := ⟨_, rfl⟩
     rw [← hxx] at hm HC
     clear hxx
     rw [ha] at e3
     clear ha
     go_wp2_with ((refine wpList_load_mid rfl 139 _ rfl _ (off + k * 4) (by first | rfl | simp) ([.int .i64 (x).op, .int .i64 (x).n, .string (x).s, .slice (x).a (x).l.length (x).k]) _ (hm) Tryz.underlying139 rfl (by kernel_rfl) ?_))
     refine (HC.out _ hbr).mono ?_
     rintro r w3 ⟨⟨c, rfl⟩, hb⟩
     have c3 := bl2 hb hbr
     replace ke := ke.later hb
     clear hb e3
     cases c
     ·go_wp2_with fail
      (go_ret; exact ⟨⟨_, rfl⟩, c3⟩)
     ·go_wp2_with fail
      go_roundg (gk - 1)
      case measure => omega
      case rel => exact ⟨k + 1, by omega, by go_num, ke, c3⟩
    ·go_wp2_with fail
     (go_ret; exact ⟨⟨_, rfl⟩, hbr⟩)
def IsVd (e : Xp) (r : Ending) : Prop := ∃ n : Int, r = .returned (.int .i64 n) ∧ (n = 0 → e.nd ≤ 1000)
def VlR (w w5 : World) (n : Nat) (g : Nat) (s : Value) (W : World) : Prop := ∃ k : Nat, k + g = n ∧ s = .int .i64 k ∧ Below w5.heap.size w5 W ∧ Below w.heap.size w W
set_option maxHeartbeats 16000000 in
theorem valid10_any (e : Xp) (w : World) (h : XpIn w e) : Calls Tryz.prog 168 #[.agg #[.int .i64 (e).op, .int .i64 (e).n, .string (e).s, .slice (e).a (e).l.length (e).k]] w fun r w' => IsVd e r ∧ Below w.heap.size w w' := by
 have HG := Lib.hid (fun (W : World) (hW : Below w.heap.size w W) => great10_any e 64 (by decide) (by decide) W (h.later hW))
 have HD := Lib.hid (fun (W : World) (hW : Below w.heap.size w W) => depth10_any e W (h.later hW))
 have HR := Lib.hid (fun (W : World) (hW : Below w.heap.size w W) => right10_any e W (h.later hW))
 have HN := Lib.hid (fun (h0 : e.nd ≤ 1000) (W : World) (hW : Below w.heap.size w W) => names10_any e h0 W (h.later hW))
 clear h
 have cw : Below w.heap.size w (w.alloc (.cells #[.int .i64 (e).op, .int .i64 (e).n, .string (e).s, .slice (e).a (e).l.length (e).k] 139)) := Bk.be
 have ke : Bk.Blk (w.alloc (.cells #[.int .i64 (e).op, .int .i64 (e).n, .string (e).s, .slice (e).a (e).l.length (e).k] 139)) w.heap.size _ 139 := Bk.Blk.nw10
 go_enter Tryz.func168, Tryz.ntmps168
 go_upto_region 1 with fail
 generalize (w.alloc (.cells _ 139)) = w1 at *
 go_wp2_with ((refine wpList_load_row rfl 139 _ rfl _ rfl _ _ _ _ (ke) Tryz.underlying139 rfl (by kernel_rfl) ?_))
 refine (HG.out _ cw).mono ?_
 rintro r w2 ⟨⟨q, rfl, hq⟩, hb⟩
 have c2 := bl2 hb cw
 replace ke := ke.later hb
 have HQ := Lib.hid hq
 clear hb cw hq
 cases q
 rotate_left
 ·go_wp2_with fail
  (go_ret; exact ⟨⟨_, rfl, fun h => absurd h (by decide)⟩, c2⟩)
 have HND := Lib.hid (show e.nd ≤ 1000 by have := HQ.out rfl; omega)
 clear HQ
 go_wp2_with (first | (refine load_guarded 139 _ rfl rfl _ rfl _ _ _ _ (ke) Tryz.underlying139 rfl (by kernel_rfl) ?_) | (refine wpList_load_row rfl 139 _ rfl _ rfl _ _ _ _ (ke) Tryz.underlying139 rfl (by kernel_rfl) ?_))
 refine (HD.out _ c2).mono ?_
 rintro r w3 ⟨⟨n, rfl⟩, hb⟩
 have c3 := bl2 hb c2
 replace ke := ke.later hb
 clear hb c2
 by_cases h8 : 8 < n
 ·go_wp2_with fail
  (go_ret; exact ⟨⟨_, rfl, fun _ => HND.out⟩, c3⟩)
 go_wp2_with ((refine wpList_load_row rfl 139 _ rfl _ rfl _ _ _ _ (ke) Tryz.underlying139 rfl (by kernel_rfl) ?_))
 refine (HR.out _ c3).mono ?_
 rintro r w4 ⟨⟨q, rfl⟩, hb⟩
 have c4 := bl2 hb c3
 replace ke := ke.later hb
 clear hb c3 h8
 cases q
 ·go_wp2_with fail
  (go_ret; exact ⟨⟨_, rfl, fun _ => HND.out⟩, c4⟩)
 go_wp2_with ((refine wpList_load_row rfl 139 _ rfl _ rfl _ _ _ _ (ke) Tryz.underlying139 rfl (by kernel_rfl) ?_))
 refine (HN.out HND.out _ c4).mono ?_
 rintro r w5 ⟨⟨v, l, rfl, hv, hl, hz⟩, hb⟩
 have c5 := bl2 hb c4
 obtain ⟨a, c, rfl, hr, -⟩ := hv.row
 have H := Lib.hid hr
 have HZ := Lib.hid hz
 have hml : l.length ≤ 9223372036854775807 := by have := HND.out; omega
 clear hb c4 hv hr hz hl ke
 go_wp2_with fail
 go_loopg [4] l.length (VlR w w5 l.length)
 case atStart => exact ⟨0, by omega, rfl, Below.refl _ _, c5⟩
 case round =>
  clear c5
  obtain ⟨i, hi, rfl, h5, hbr⟩ := hrel
  by_cases hlt : i < l.length
  ·obtain ⟨b, off, rfl, hc⟩ := rowat Sr.senc_len (H.out.later h5) (by omega)
   have m0 : wr.cell? ⟨b, off + i, none⟩ = some (.string l[i]!) := by
    rw [show off + i = off + i * 1 + 0 by omega]
    exact hc i hlt 0 _ rfl
   have hd5 := HZ.out l[i]! (by rw [getElem!_pos l i hlt]; exact List.getElem_mem hlt)
   clear hc
   obtain ⟨d, hd⟩ : ∃ d, d = l[i]! := ⟨_, rfl⟩
   rw [← hd] at m0 hd5
   have HD5 := Lib.hid hd5
   clear hd hd5
   go_wp2_with fail
   refine (variable_any _ _ HD5.out).mono ?_
   rintro r w6 ⟨⟨q, rfl⟩, hb⟩
   have c6 := bl2 hb hbr
   have h6 := bl2 hb h5
   clear m0 hb h5 hbr
   cases q
   ·go_wp2_with fail
    (go_ret; exact ⟨⟨_, rfl, fun _ => HND.out⟩, c6⟩)
   ·go_wp2_with fail
    go_roundg (gk - 1)
    case measure => omega
    case rel => exact ⟨i + 1, by omega, by go_num, h6, c6⟩
  ·go_wp2_with fail
   (go_ret; exact ⟨⟨_, rfl, fun _ => HND.out⟩, hbr⟩)
end Go.Proofs.YtjhpiclnpmdjnaaGreatDoor.Bm
