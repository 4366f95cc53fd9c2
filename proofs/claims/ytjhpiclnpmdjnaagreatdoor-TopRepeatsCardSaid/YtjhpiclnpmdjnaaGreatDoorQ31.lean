/-
  Parts of the proof: Y6.
-/
import Derived.Test.YtjhpiclnpmdjnaaGreatDoorQ30
import Derived.Deep.CutRange
namespace Go.Proofs.YtjhpiclnpmdjnaaGreatDoor.Bm
open Go Go.RowKit
open Go.Proofs.YtjhpiclnpmdjnaaGreatDoor
open Go.Proofs.YtjhpiclnpmdjnaaGreatDoor.Kl (byt byt_get)
open Go.Proofs.YtjhpiclnpmdjnaaGreatDoor.Ln (SB tk ts z0 z1 z3 z4 z5 take_at call_at flat flat_len flat_get flat_mem RowIn OwnR Idx bl2 results2_cell Blk_setRow_same Blk_setRow_ne Below_setRow)
set_option linter.unusedSimpArgs false
set_option linter.unusedVariables false
set_option maxRecDepth 100000
set_option maxHeartbeats 16000000 in
theorem ract24_any (B : Bo) (id day : Int) (w : World) (hl : B.as.length ≤ maxLen) (h : RowIn acenc w B.aa B.as) :
    Calls Tryz.prog 114 #[(.agg #[.slice (B).ua (B).us.length (B).uk, .slice (B).ka (B).kn (B).kk, .slice (B).ga (B).gs.length (B).gk, .int .i64 ((B).pl).p0, .int .i64 ((B).pl).p1, .int .i64 ((B).pl).p2, .int .i64 ((B).pl).p3, .int .i64 ((B).pl).p4, .int .i64 ((B).pl).p5, .int .i64 ((B).pl).p6, .int .i64 ((B).pl).p7, .int .i64 ((B).pl).p8, .int .i64 ((B).pl).p9, .int .i64 ((B).pl).p10, .int .i64 ((B).pl).p11, .int .i64 ((B).pl).p12, .int .i64 ((B).pl).p13, .slice (B).pa (B).ps.length (B).pk, .slice (B).aa (B).as.length (B).ak, .slice (B).ja (B).js.length (B).jk, .slice (B).ha (B).hn (B).hk, .slice (B).ba (B).bn (B).bk]), .int .i64 id, .int .i64 day] w fun e w' => IsB e ∧ Below w.heap.size w w' := by
  have HF := Lib.hid (fun (W : World) (hW : Below w.heap.size w W) => rafind_any B id W hl (h.later hW))
  clear hl h
  have cw : Below w.heap.size w (w.alloc (.cells #[.slice (B).ua (B).us.length (B).uk, .slice (B).ka (B).kn (B).kk, .slice (B).ga (B).gs.length (B).gk, .int .i64 ((B).pl).p0, .int .i64 ((B).pl).p1, .int .i64 ((B).pl).p2, .int .i64 ((B).pl).p3, .int .i64 ((B).pl).p4, .int .i64 ((B).pl).p5, .int .i64 ((B).pl).p6, .int .i64 ((B).pl).p7, .int .i64 ((B).pl).p8, .int .i64 ((B).pl).p9, .int .i64 ((B).pl).p10, .int .i64 ((B).pl).p11, .int .i64 ((B).pl).p12, .int .i64 ((B).pl).p13, .slice (B).pa (B).ps.length (B).pk, .slice (B).aa (B).as.length (B).ak, .slice (B).ja (B).js.length (B).jk, .slice (B).ha (B).hn (B).hk, .slice (B).ba (B).bn (B).bk] 33)) := Bk.be
  have kb : Bk.Blk (w.alloc (.cells #[.slice (B).ua (B).us.length (B).uk, .slice (B).ka (B).kn (B).kk, .slice (B).ga (B).gs.length (B).gk, .int .i64 ((B).pl).p0, .int .i64 ((B).pl).p1, .int .i64 ((B).pl).p2, .int .i64 ((B).pl).p3, .int .i64 ((B).pl).p4, .int .i64 ((B).pl).p5, .int .i64 ((B).pl).p6, .int .i64 ((B).pl).p7, .int .i64 ((B).pl).p8, .int .i64 ((B).pl).p9, .int .i64 ((B).pl).p10, .int .i64 ((B).pl).p11, .int .i64 ((B).pl).p12, .int .i64 ((B).pl).p13, .slice (B).pa (B).ps.length (B).pk, .slice (B).aa (B).as.length (B).ak, .slice (B).ja (B).js.length (B).jk, .slice (B).ha (B).hn (B).hk, .slice (B).ba (B).bn (B).bk] 33)) w.heap.size _ 33 := Bk.Blk.nw10
  go_enter Tryz.func114, Tryz.ntmps114
  go_upto_region 1 with fail
  generalize (w.alloc (.cells _ 33)) = w1 at *
  go_wp2_with ((refine wpList_load_row rfl 33 _ rfl _ rfl _ _ _ _ (kb) Tryz.underlying33 rfl (by kernel_rfl) ?_))
  refine (HF.out _ cw).mono ?_
  rintro e w2 ⟨⟨x, q, rfl⟩, hb0⟩
  have hb := bl2 hb0 cw
  clear hb0 cw kb
  go_upto_region 2 with ((refine wpList_store_row rfl 76 _ _ rfl _ _ rfl rfl _ _ (Bk.Blk.nw10) (by kernel_rfl) rfl (by simp [Value.oneCell']) ?_))
  have cx : Below w2.heap.size w2 ((w2.alloc (.cells #[.int .i64 0, .int .i64 0, .int .i64 0, .int .i64 0, .string { data := #[] }, .string { data := #[] }, .string { data := #[] }] 76)).setRow w2.heap.size #[.int .i64 (x).id, .int .i64 (x).op, .int .i64 (x).cl, .int .i64 (x).ex, .string (x).ow, .string (x).pr, .string (x).nu]) := Below_setRow ((Below.refl _ _).alloc (Nat.le_refl _) _) (Nat.le_refl _) _
  have kx : Bk.Blk ((w2.alloc (.cells #[.int .i64 0, .int .i64 0, .int .i64 0, .int .i64 0, .string { data := #[] }, .string { data := #[] }, .string { data := #[] }] 76)).setRow w2.heap.size #[.int .i64 (x).id, .int .i64 (x).op, .int .i64 (x).cl, .int .i64 (x).ex, .string (x).ow, .string (x).pr, .string (x).nu]) w2.heap.size _ 76 := Blk_setRow_same Bk.Blk.nw10
  have c3 := bl2 cx hb
  clear cx hb
  (try simp only [Act.put])
  generalize ((w2.alloc (.cells _ 76)).setRow w2.heap.size _) = w3 at *
  generalize w2.heap.size = gw3 at *
  have x1 := kx.c1
  have x2 := kx.c2
  cases q
  all_goals go_wp2_with fail
  all_goals (go_ret; exact ⟨⟨_, rfl⟩, c3⟩)
set_option maxHeartbeats 16000000 in
theorem rown24_any (B : Bo) (a : Ac) (w : World) (ha : a.ow.size ≤ maxLen) (hl : B.ps.length ≤ maxLen) (h : RowIn pdenc w B.pa B.ps) :
    Calls Tryz.prog 39 #[(.agg #[.slice (B).ua (B).us.length (B).uk, .slice (B).ka (B).kn (B).kk, .slice (B).ga (B).gs.length (B).gk, .int .i64 ((B).pl).p0, .int .i64 ((B).pl).p1, .int .i64 ((B).pl).p2, .int .i64 ((B).pl).p3, .int .i64 ((B).pl).p4, .int .i64 ((B).pl).p5, .int .i64 ((B).pl).p6, .int .i64 ((B).pl).p7, .int .i64 ((B).pl).p8, .int .i64 ((B).pl).p9, .int .i64 ((B).pl).p10, .int .i64 ((B).pl).p11, .int .i64 ((B).pl).p12, .int .i64 ((B).pl).p13, .slice (B).pa (B).ps.length (B).pk, .slice (B).aa (B).as.length (B).ak, .slice (B).ja (B).js.length (B).jk, .slice (B).ha (B).hn (B).hk, .slice (B).ba (B).bn (B).bk]), (.agg #[.int .i64 (a).id, .int .i64 (a).op, .int .i64 (a).cl, .int .i64 (a).ex, .string (a).ow, .string (a).pr, .string (a).nu])] w fun e w' => IsN e ∧ Below w.heap.size w w' := by
  have HF := Lib.hid (fun (W : World) (hW : Below w.heap.size w W) => rat17_any B.pa B.pk B.ps a.pr a.op W hl (h.later hW))
  have HA := Lib.hid ha
  clear hl h ha
  have cw : Below w.heap.size w ((w.alloc (.cells #[.slice (B).ua (B).us.length (B).uk, .slice (B).ka (B).kn (B).kk, .slice (B).ga (B).gs.length (B).gk, .int .i64 ((B).pl).p0, .int .i64 ((B).pl).p1, .int .i64 ((B).pl).p2, .int .i64 ((B).pl).p3, .int .i64 ((B).pl).p4, .int .i64 ((B).pl).p5, .int .i64 ((B).pl).p6, .int .i64 ((B).pl).p7, .int .i64 ((B).pl).p8, .int .i64 ((B).pl).p9, .int .i64 ((B).pl).p10, .int .i64 ((B).pl).p11, .int .i64 ((B).pl).p12, .int .i64 ((B).pl).p13, .slice (B).pa (B).ps.length (B).pk, .slice (B).aa (B).as.length (B).ak, .slice (B).ja (B).js.length (B).jk, .slice (B).ha (B).hn (B).hk, .slice (B).ba (B).bn (B).bk] 33)).alloc (.cells #[.int .i64 (a).id, .int .i64 (a).op, .int .i64 (a).cl, .int .i64 (a).ex, .string (a).ow, .string (a).pr, .string (a).nu] 76)) := Bk.be
  have kb : Bk.Blk ((w.alloc (.cells #[.slice (B).ua (B).us.length (B).uk, .slice (B).ka (B).kn (B).kk, .slice (B).ga (B).gs.length (B).gk, .int .i64 ((B).pl).p0, .int .i64 ((B).pl).p1, .int .i64 ((B).pl).p2, .int .i64 ((B).pl).p3, .int .i64 ((B).pl).p4, .int .i64 ((B).pl).p5, .int .i64 ((B).pl).p6, .int .i64 ((B).pl).p7, .int .i64 ((B).pl).p8, .int .i64 ((B).pl).p9, .int .i64 ((B).pl).p10, .int .i64 ((B).pl).p11, .int .i64 ((B).pl).p12, .int .i64 ((B).pl).p13, .slice (B).pa (B).ps.length (B).pk, .slice (B).aa (B).as.length (B).ak, .slice (B).ja (B).js.length (B).jk, .slice (B).ha (B).hn (B).hk, .slice (B).ba (B).bn (B).bk] 33)).alloc (.cells #[.int .i64 (a).id, .int .i64 (a).op, .int .i64 (a).cl, .int .i64 (a).ex, .string (a).ow, .string (a).pr, .string (a).nu] 76)) w.heap.size _ 33 := Bk.Blk.nw20
  have ka : Bk.Blk ((w.alloc (.cells #[.slice (B).ua (B).us.length (B).uk, .slice (B).ka (B).kn (B).kk, .slice (B).ga (B).gs.length (B).gk, .int .i64 ((B).pl).p0, .int .i64 ((B).pl).p1, .int .i64 ((B).pl).p2, .int .i64 ((B).pl).p3, .int .i64 ((B).pl).p4, .int .i64 ((B).pl).p5, .int .i64 ((B).pl).p6, .int .i64 ((B).pl).p7, .int .i64 ((B).pl).p8, .int .i64 ((B).pl).p9, .int .i64 ((B).pl).p10, .int .i64 ((B).pl).p11, .int .i64 ((B).pl).p12, .int .i64 ((B).pl).p13, .slice (B).pa (B).ps.length (B).pk, .slice (B).aa (B).as.length (B).ak, .slice (B).ja (B).js.length (B).jk, .slice (B).ha (B).hn (B).hk, .slice (B).ba (B).bn (B).bk] 33)).alloc (.cells #[.int .i64 (a).id, .int .i64 (a).op, .int .i64 (a).cl, .int .i64 (a).ex, .string (a).ow, .string (a).pr, .string (a).nu] 76)) (w.heap.size + 1) _ 76 := Bk.Blk.nw21
  go_enter Tryz.func39, Tryz.ntmps39
  go_upto_region 1 with fail
  generalize ((w.alloc (.cells _ 33)).alloc (.cells _ 76)) = w1 at *
  have a4 := ka.c4
  have a5 := ka.c5
  have a1 := ka.c1
  have b17 := kb.c17
  go_wp2_with fail
  refine (name15_any _ _ HA.out).mono ?_
  rintro e w' ⟨⟨q, rfl⟩, rfl⟩
  cases q
  · go_wp2_with fail
    (go_ret; exact ⟨⟨_, rfl⟩, cw⟩)
  go_wp2_with fail
  refine (HF.out _ cw).mono ?_
  rintro e w2 ⟨⟨x, q, rfl⟩, hb0⟩
  have hb := bl2 hb0 cw
  clear hb0 cw kb ka a1 a4 a5 b17
  go_upto_region 4 with ((refine wpList_store_row rfl 73 _ _ rfl _ _ rfl rfl _ _ (Bk.Blk.nw10) (by kernel_rfl) rfl (by simp [Value.oneCell']) ?_))
  have cx : Below w2.heap.size w2 ((w2.alloc (.cells #[.string { data := #[] }, .string { data := #[] }, .string { data := #[] }, .int .i64 0, .int .i64 0, .int .i64 0, .int .i64 0, .slice none 0 0, .bool false, .int .i64 0, .int .i64 0, .bool false, .slice none 0 0, .bool false, .int .i64 0, .int .i64 0, .bool false, .slice none 0 0, .slice none 0 0] 73)).setRow w2.heap.size #[.string (x).nm, .string (x).cu, .string (x).ca, .int .i64 (x).fr, .int .i64 (x).ev, .int .i64 (x).ov, .int .i64 (x).tx, .slice ((x).ci).ta ((x).ci).tn ((x).ci).tk, .bool ((x).ci).mg, .int .i64 ((x).ci).ba, .int .i64 ((x).ci).mo, .bool ((x).ci).kp, .slice ((x).di).ta ((x).di).tn ((x).di).tk, .bool ((x).di).mg, .int .i64 ((x).di).ba, .int .i64 ((x).di).mo, .bool ((x).di).kp, .slice (x).fa (x).fn (x).fk, .slice (x).ra (x).rn (x).rk]) := Below_setRow ((Below.refl _ _).alloc (Nat.le_refl _) _) (Nat.le_refl _) _
  have kx : Bk.Blk ((w2.alloc (.cells #[.string { data := #[] }, .string { data := #[] }, .string { data := #[] }, .int .i64 0, .int .i64 0, .int .i64 0, .int .i64 0, .slice none 0 0, .bool false, .int .i64 0, .int .i64 0, .bool false, .slice none 0 0, .bool false, .int .i64 0, .int .i64 0, .bool false, .slice none 0 0, .slice none 0 0] 73)).setRow w2.heap.size #[.string (x).nm, .string (x).cu, .string (x).ca, .int .i64 (x).fr, .int .i64 (x).ev, .int .i64 (x).ov, .int .i64 (x).tx, .slice ((x).ci).ta ((x).ci).tn ((x).ci).tk, .bool ((x).ci).mg, .int .i64 ((x).ci).ba, .int .i64 ((x).ci).mo, .bool ((x).ci).kp, .slice ((x).di).ta ((x).di).tn ((x).di).tk, .bool ((x).di).mg, .int .i64 ((x).di).ba, .int .i64 ((x).di).mo, .bool ((x).di).kp, .slice (x).fa (x).fn (x).fk, .slice (x).ra (x).rn (x).rk]) w2.heap.size _ 73 := Blk_setRow_same Bk.Blk.nw10
  have c3 := bl2 cx hb
  clear cx hb
  (try simp only [Act.put])
  generalize ((w2.alloc (.cells _ 73)).setRow w2.heap.size _) = w3 at *
  generalize w2.heap.size = gw3 at *
  cases q
  all_goals go_wp2_with fail
  all_goals (go_ret; exact ⟨⟨_, rfl⟩, c3⟩)
theorem call_ist {P : Program} {w0 : World} {f : FuncId} {args : Array Value} {W : World} (hS : SB w0 W) (h : Calls P f args W fun e w' => (∃ t : ByteArray, e = .returned (.string t)) ∧ Below W.heap.size W w') : Calls P f args W fun e w' => ∃ v, e = .returned v ∧ (∃ q : ByteArray, v = .string q) ∧ SB w0 w' :=
  h.mono fun _ _ ⟨⟨q, he⟩, hb⟩ => ⟨_, he, ⟨q, rfl⟩, bl2 hb hS⟩
set_option maxHeartbeats 32000000 in
theorem rshp24_any (a : Ac) (w : World) : Calls Tryz.prog 38 #[(.agg #[.int .i64 (a).id, .int .i64 (a).op, .int .i64 (a).cl, .int .i64 (a).ex, .string (a).ow, .string (a).pr, .string (a).nu])] w fun e w' => IsB e ∧ Below w.heap.size w w' := by
  have cw : Below w.heap.size w (w.alloc (.cells #[.int .i64 (a).id, .int .i64 (a).op, .int .i64 (a).cl, .int .i64 (a).ex, .string (a).ow, .string (a).pr, .string (a).nu] 76)) := Bk.be
  have ka : Bk.Blk (w.alloc (.cells #[.int .i64 (a).id, .int .i64 (a).op, .int .i64 (a).cl, .int .i64 (a).ex, .string (a).ow, .string (a).pr, .string (a).nu] 76)) w.heap.size _ 76 := Bk.Blk.nw10
  go_enter Tryz.func38, Tryz.ntmps38
  go_upto_region 1 with fail
  generalize (w.alloc (.cells _ 76)) = w1 at *
  have hS0 : SB w1 w1.drew := (Below.refl _ _).drew
  refine wp_region_held_drew (S := SB w1) (by kernel_rfl) hS0 (fun hS => ?_)
  clear hS0
  by_cases h1 : a.id < 1000
  · have g1 : decide ((1000 : Int) ≤ a.id) = false := decide_eq_false (by omega)
    refine tk 0 (by decide) ?_ hS (by kernel_rfl) (by kernel_rfl) (by kernel_rfl) (by rfl) (fun _ _ _ h => h) ?_ ?_
    rotate_left
    · intro W hW
      have q0 := (ka.later hW).c0; have q1 := (ka.later hW).c1; have q6 := (ka.later hW).c6
      clear hW
      simp only [z0, z1]
      go_simp
      first | done | with_reducible rfl
    simp only [z0, z1, Act.put, z3, z4, z5]
    refine tk 1 (by decide) ?_ hS (by kernel_rfl) (by kernel_rfl) (by kernel_rfl) (by rfl) (fun _ _ _ h => h) ?_ ?_
    rotate_left
    · intro W hW
      have q0 := (ka.later hW).c0; have q1 := (ka.later hW).c1; have q6 := (ka.later hW).c6
      clear hW
      simp only [z0, z1]
      go_simp
      first | done | with_reducible rfl
    simp only [z0, z1, Act.put, z3, z4, z5]
    refine tk 2 (by decide) ?_ hS (by kernel_rfl) (by kernel_rfl) (by kernel_rfl) (by rfl) (fun _ _ _ h => h) ?_ ?_
    rotate_left
    · intro W hW
      have q0 := (ka.later hW).c0; have q1 := (ka.later hW).c1; have q6 := (ka.later hW).c6
      clear hW
      simp only [z0, z1]
      go_simp
      first | done | with_reducible rfl
    simp only [z0, z1, Act.put, z3, z4, z5]
    refine tk 3 (by decide) ?_ hS (by kernel_rfl) (by kernel_rfl) (by kernel_rfl) (by rfl) (fun _ _ _ h => h) ?_ ?_
    rotate_left
    · intro W hW
      have q0 := (ka.later hW).c0; have q1 := (ka.later hW).c1; have q6 := (ka.later hW).c6
      clear hW
      simp only [z0, z1]
      go_simp
      first | done | with_reducible rfl
    simp only [z0, z1, Act.put, z3, z4, z5]
    refine ts 4 (by decide) hS (by kernel_rfl) (by kernel_rfl) (by kernel_rfl) (by rfl) (fun _ _ _ h => h) ?_
    simp only [z0, z1, Act.put, z3, z4, z5]
    refine ts 5 (by decide) hS (by kernel_rfl) (by kernel_rfl) (by kernel_rfl) (by rfl) (fun _ _ _ h => h) ?_
    simp only [z0, z1, Act.put, z3, z4, z5]
    refine ts 6 (by decide) hS (by kernel_rfl) (by kernel_rfl) (by kernel_rfl) (by rfl) (fun _ _ _ h => h) ?_
    simp only [z0, z1, Act.put, z3, z4, z5]
    refine tk 7 (by decide) ?_ hS (by kernel_rfl) (by kernel_rfl) (by kernel_rfl) (by rfl) (fun _ _ _ h => h) ?_ ?_
    rotate_left
    · intro W hW
      have q0 := (ka.later hW).c0; have q1 := (ka.later hW).c1; have q6 := (ka.later hW).c6
      clear hW
      simp only [z0, z1]
      go_simp
      first | done | with_reducible rfl
    simp only [z0, z1, Act.put, z3, z4, z5]
    refine tk 8 (by decide) ?_ hS (by kernel_rfl) (by kernel_rfl) (by kernel_rfl) (by rfl) (fun _ _ _ h => h) ?_ ?_
    rotate_left
    · intro W hW
      have q0 := (ka.later hW).c0; have q1 := (ka.later hW).c1; have q6 := (ka.later hW).c6
      clear hW
      simp only [z0, z1]
      go_simp
      first | done | with_reducible rfl
    simp only [z0, z1, Act.put, z3, z4, z5]
    refine ts 9 (by decide) hS (by kernel_rfl) (by kernel_rfl) (by kernel_rfl) (by rfl) (fun _ _ _ h => h) ?_
    simp only [z0, z1, Act.put, z3, z4, z5]
    refine ts 10 (by decide) hS (by kernel_rfl) (by kernel_rfl) (by kernel_rfl) (by rfl) (fun _ _ _ h => h) ?_
    simp only [z0, z1, Act.put, z3, z4, z5]
    refine ts 11 (by decide) hS (by kernel_rfl) (by kernel_rfl) (by kernel_rfl) (by rfl) (fun _ _ _ h => h) ?_
    simp only [z0, z1, Act.put, z3, z4, z5]
    refine tk 12 (by decide) ?_ hS (by kernel_rfl) (by kernel_rfl) (by kernel_rfl) (by rfl) (fun _ _ _ h => h) ?_ ?_
    rotate_left
    · intro W hW
      have q0 := (ka.later hW).c0; have q1 := (ka.later hW).c1; have q6 := (ka.later hW).c6
      clear hW
      simp only [z0, z1]
      go_simp
      first | done | with_reducible rfl
    simp only [z0, z1, Act.put, z3, z4, z5]
    refine tk 13 (by decide) ?_ hS (by kernel_rfl) (by kernel_rfl) (by kernel_rfl) (by rfl) (fun _ _ _ h => h) ?_ ?_
    rotate_left
    · intro W hW
      have q0 := (ka.later hW).c0; have q1 := (ka.later hW).c1; have q6 := (ka.later hW).c6
      clear hW
      simp only [z0, z1]
      go_simp
      first | done | with_reducible rfl
    simp only [z0, z1, Act.put, z3, z4, z5]
    refine ts 14 (by decide) hS (by kernel_rfl) (by kernel_rfl) (by kernel_rfl) (by rfl) (fun _ _ _ h => h) ?_
    simp only [z0, z1, Act.put, z3, z4, z5]
    refine ts 15 (by decide) hS (by kernel_rfl) (by kernel_rfl) (by kernel_rfl) (by rfl) (fun _ _ _ h => h) ?_
    simp only [z0, z1, Act.put, z3, z4, z5]
    refine ts 16 (by decide) hS (by kernel_rfl) (by kernel_rfl) (by kernel_rfl) (by rfl) (fun _ _ _ h => h) ?_
    simp only [z0, z1, Act.put, z3, z4, z5]
    refine ts 17 (by decide) hS (by kernel_rfl) (by kernel_rfl) (by kernel_rfl) (by rfl) (fun _ _ _ h => h) ?_
    simp only [z0, z1, Act.put, z3, z4, z5]
    refine ts 18 (by decide) hS (by kernel_rfl) (by kernel_rfl) (by kernel_rfl) (by rfl) (fun _ _ _ h => h) ?_
    simp only [z0, z1, Act.put, z3, z4, z5]
    refine ts 19 (by decide) hS (by kernel_rfl) (by kernel_rfl) (by kernel_rfl) (by rfl) (fun _ _ _ h => h) ?_
    simp only [z0, z1, Act.put, z3, z4, z5]
    refine tk 20 (by decide) ?_ hS (by kernel_rfl) (by kernel_rfl) (by kernel_rfl) (by rfl) (fun _ _ _ h => h) ?_ ?_
    rotate_left
    · intro W hW
      have q0 := (ka.later hW).c0; have q1 := (ka.later hW).c1; have q6 := (ka.later hW).c6
      clear hW
      simp only [z0, z1]
      go_simp
      first | done | with_reducible rfl
    simp only [z0, z1, Act.put, z3, z4, z5]
    refine tk 21 (by decide) ?_ hS (by kernel_rfl) (by kernel_rfl) (by kernel_rfl) (by rfl) (fun _ _ _ h => h) ?_ ?_
    rotate_left
    · intro W hW
      have q0 := (ka.later hW).c0; have q1 := (ka.later hW).c1; have q6 := (ka.later hW).c6
      clear hW
      simp only [z0, z1]
      go_simp
      first | done | with_reducible rfl
    simp only [z0, z1, Act.put, z3, z4, z5]
    refine wpAnyH_done (by kernel_rfl) ?_ _
    have c9 := bl2 hS cw
    clear hS
    go_wp2_with fail
    (go_ret; exact ⟨⟨_, rfl⟩, c9⟩)
  have g1 : decide ((1000 : Int) ≤ a.id) = true := decide_eq_true (by omega)
  by_cases h2 : 99999999 < a.id
  · have g2 : decide (a.id ≤ (99999999 : Int)) = false := decide_eq_false (by omega)
    refine tk 0 (by decide) ?_ hS (by kernel_rfl) (by kernel_rfl) (by kernel_rfl) (by rfl) (fun _ _ _ h => h) ?_ ?_
    rotate_left
    · intro W hW
      have q0 := (ka.later hW).c0; have q1 := (ka.later hW).c1; have q6 := (ka.later hW).c6
      clear hW
      simp only [z0, z1]
      go_simp
      first | done | with_reducible rfl
    simp only [z0, z1, Act.put, z3, z4, z5]
    refine tk 1 (by decide) ?_ hS (by kernel_rfl) (by kernel_rfl) (by kernel_rfl) (by rfl) (fun _ _ _ h => h) ?_ ?_
    rotate_left
    · intro W hW
      have q0 := (ka.later hW).c0; have q1 := (ka.later hW).c1; have q6 := (ka.later hW).c6
      clear hW
      simp only [z0, z1]
      go_simp
      first | done | with_reducible rfl
    simp only [z0, z1, Act.put, z3, z4, z5]
    refine tk 2 (by decide) ?_ hS (by kernel_rfl) (by kernel_rfl) (by kernel_rfl) (by rfl) (fun _ _ _ h => h) ?_ ?_
    rotate_left
    · intro W hW
      have q0 := (ka.later hW).c0; have q1 := (ka.later hW).c1; have q6 := (ka.later hW).c6
      clear hW
      simp only [z0, z1]
      go_simp
      first | done | with_reducible rfl
    simp only [z0, z1, Act.put, z3, z4, z5]
    refine tk 3 (by decide) ?_ hS (by kernel_rfl) (by kernel_rfl) (by kernel_rfl) (by rfl) (fun _ _ _ h => h) ?_ ?_
    rotate_left
    · intro W hW
      have q0 := (ka.later hW).c0; have q1 := (ka.later hW).c1; have q6 := (ka.later hW).c6
      clear hW
      simp only [z0, z1]
      go_simp
      first | done | with_reducible rfl
    simp only [z0, z1, Act.put, z3, z4, z5]
    refine tk 4 (by decide) ?_ hS (by kernel_rfl) (by kernel_rfl) (by kernel_rfl) (by rfl) (fun _ _ _ h => h) ?_ ?_
    rotate_left
    · intro W hW
      have q0 := (ka.later hW).c0; have q1 := (ka.later hW).c1; have q6 := (ka.later hW).c6
      clear hW
      simp only [z0, z1]
      go_simp
      first | done | with_reducible rfl
    simp only [z0, z1, Act.put, z3, z4, z5]
    refine tk 5 (by decide) ?_ hS (by kernel_rfl) (by kernel_rfl) (by kernel_rfl) (by rfl) (fun _ _ _ h => h) ?_ ?_
    rotate_left
    · intro W hW
      have q0 := (ka.later hW).c0; have q1 := (ka.later hW).c1; have q6 := (ka.later hW).c6
      clear hW
      simp only [z0, z1]
      go_simp
      first | done | with_reducible rfl
    simp only [z0, z1, Act.put, z3, z4, z5]
    refine tk 6 (by decide) ?_ hS (by kernel_rfl) (by kernel_rfl) (by kernel_rfl) (by rfl) (fun _ _ _ h => h) ?_ ?_
    rotate_left
    · intro W hW
      have q0 := (ka.later hW).c0; have q1 := (ka.later hW).c1; have q6 := (ka.later hW).c6
      clear hW
      simp only [z0, z1]
      go_simp
      first | done | with_reducible rfl
    simp only [z0, z1, Act.put, z3, z4, z5]
    refine tk 7 (by decide) ?_ hS (by kernel_rfl) (by kernel_rfl) (by kernel_rfl) (by rfl) (fun _ _ _ h => h) ?_ ?_
    rotate_left
    · intro W hW
      have q0 := (ka.later hW).c0; have q1 := (ka.later hW).c1; have q6 := (ka.later hW).c6
      clear hW
      simp only [z0, z1]
      go_simp
      first | done | with_reducible rfl
    simp only [z0, z1, Act.put, z3, z4, z5]
    refine tk 8 (by decide) ?_ hS (by kernel_rfl) (by kernel_rfl) (by kernel_rfl) (by rfl) (fun _ _ _ h => h) ?_ ?_
    rotate_left
    · intro W hW
      have q0 := (ka.later hW).c0; have q1 := (ka.later hW).c1; have q6 := (ka.later hW).c6
      clear hW
      simp only [z0, z1]
      go_simp
      first | done | with_reducible rfl
    simp only [z0, z1, Act.put, z3, z4, z5]
    refine ts 9 (by decide) hS (by kernel_rfl) (by kernel_rfl) (by kernel_rfl) (by rfl) (fun _ _ _ h => h) ?_
    simp only [z0, z1, Act.put, z3, z4, z5]
    refine ts 10 (by decide) hS (by kernel_rfl) (by kernel_rfl) (by kernel_rfl) (by rfl) (fun _ _ _ h => h) ?_
    simp only [z0, z1, Act.put, z3, z4, z5]
    refine ts 11 (by decide) hS (by kernel_rfl) (by kernel_rfl) (by kernel_rfl) (by rfl) (fun _ _ _ h => h) ?_
    simp only [z0, z1, Act.put, z3, z4, z5]
    refine tk 12 (by decide) ?_ hS (by kernel_rfl) (by kernel_rfl) (by kernel_rfl) (by rfl) (fun _ _ _ h => h) ?_ ?_
    rotate_left
    · intro W hW
      have q0 := (ka.later hW).c0; have q1 := (ka.later hW).c1; have q6 := (ka.later hW).c6
      clear hW
      simp only [z0, z1]
      go_simp
      first | done | with_reducible rfl
    simp only [z0, z1, Act.put, z3, z4, z5]
    refine tk 13 (by decide) ?_ hS (by kernel_rfl) (by kernel_rfl) (by kernel_rfl) (by rfl) (fun _ _ _ h => h) ?_ ?_
    rotate_left
    · intro W hW
      have q0 := (ka.later hW).c0; have q1 := (ka.later hW).c1; have q6 := (ka.later hW).c6
      clear hW
      simp only [z0, z1]
      go_simp
      first | done | with_reducible rfl
    simp only [z0, z1, Act.put, z3, z4, z5]
    refine ts 14 (by decide) hS (by kernel_rfl) (by kernel_rfl) (by kernel_rfl) (by rfl) (fun _ _ _ h => h) ?_
    simp only [z0, z1, Act.put, z3, z4, z5]
    refine ts 15 (by decide) hS (by kernel_rfl) (by kernel_rfl) (by kernel_rfl) (by rfl) (fun _ _ _ h => h) ?_
    simp only [z0, z1, Act.put, z3, z4, z5]
    refine ts 16 (by decide) hS (by kernel_rfl) (by kernel_rfl) (by kernel_rfl) (by rfl) (fun _ _ _ h => h) ?_
    simp only [z0, z1, Act.put, z3, z4, z5]
    refine ts 17 (by decide) hS (by kernel_rfl) (by kernel_rfl) (by kernel_rfl) (by rfl) (fun _ _ _ h => h) ?_
    simp only [z0, z1, Act.put, z3, z4, z5]
    refine ts 18 (by decide) hS (by kernel_rfl) (by kernel_rfl) (by kernel_rfl) (by rfl) (fun _ _ _ h => h) ?_
    simp only [z0, z1, Act.put, z3, z4, z5]
    refine ts 19 (by decide) hS (by kernel_rfl) (by kernel_rfl) (by kernel_rfl) (by rfl) (fun _ _ _ h => h) ?_
    simp only [z0, z1, Act.put, z3, z4, z5]
    refine tk 20 (by decide) ?_ hS (by kernel_rfl) (by kernel_rfl) (by kernel_rfl) (by rfl) (fun _ _ _ h => h) ?_ ?_
    rotate_left
    · intro W hW
      have q0 := (ka.later hW).c0; have q1 := (ka.later hW).c1; have q6 := (ka.later hW).c6
      clear hW
      simp only [z0, z1]
      go_simp
      first | done | with_reducible rfl
    simp only [z0, z1, Act.put, z3, z4, z5]
    refine tk 21 (by decide) ?_ hS (by kernel_rfl) (by kernel_rfl) (by kernel_rfl) (by rfl) (fun _ _ _ h => h) ?_ ?_
    rotate_left
    · intro W hW
      have q0 := (ka.later hW).c0; have q1 := (ka.later hW).c1; have q6 := (ka.later hW).c6
      clear hW
      simp only [z0, z1]
      go_simp
      first | done | with_reducible rfl
    simp only [z0, z1, Act.put, z3, z4, z5]
    refine wpAnyH_done (by kernel_rfl) ?_ _
    have c9 := bl2 hS cw
    clear hS
    go_wp2_with fail
    (go_ret; exact ⟨⟨_, rfl⟩, c9⟩)
  have g2 : decide (a.id ≤ (99999999 : Int)) = true := decide_eq_true (by omega)
  refine tk 0 (by decide) ?_ hS (by kernel_rfl) (by kernel_rfl) (by kernel_rfl) (by rfl) (fun _ _ _ h => h) ?_ ?_
  rotate_left
  · intro W hW
    clear hW
    simp only [z0, z1]
    go_simp
    first | done | with_reducible rfl
  simp only [z0, z1, Act.put, z3, z4, z5]
  refine tk 1 (by decide) ?_ hS (by kernel_rfl) (by kernel_rfl) (by kernel_rfl) (by rfl) (fun _ _ _ h => h) ?_ ?_
  rotate_left
  · intro W hW
    have q0 := (ka.later hW).c0; have q1 := (ka.later hW).c1; have q6 := (ka.later hW).c6
    clear hW
    simp only [z0, z1]
    go_simp
    first | done | with_reducible rfl
  simp only [z0, z1, Act.put, z3, z4, z5]
  refine tk 2 (by decide) ?_ hS (by kernel_rfl) (by kernel_rfl) (by kernel_rfl) (by rfl) (fun _ _ _ h => h) ?_ ?_
  rotate_left
  · intro W hW
    clear hW
    simp only [z0, z1]
    go_simp
    first | done | with_reducible rfl
  simp only [z0, z1, Act.put, z3, z4, z5]
  refine tk 3 (by decide) ?_ hS (by kernel_rfl) (by kernel_rfl) (by kernel_rfl) (by rfl) (fun _ _ _ h => h) ?_ ?_
  rotate_left
  · intro W hW
    clear hW
    simp only [z0, z1]
    go_simp
    first | done | with_reducible rfl
  simp only [z0, z1, Act.put, z3, z4, z5]
  refine tk 4 (by decide) ?_ hS (by kernel_rfl) (by kernel_rfl) (by kernel_rfl) (by rfl) (fun _ _ _ h => h) ?_ ?_
  rotate_left
  · intro W hW
    clear hW
    simp only [z0, z1]
    go_simp
    first | done | with_reducible rfl
  simp only [z0, z1, Act.put, z3, z4, z5]
  refine tk 5 (by decide) ?_ hS (by kernel_rfl) (by kernel_rfl) (by kernel_rfl) (by rfl) (fun _ _ _ h => h) ?_ ?_
  rotate_left
  · intro W hW
    have q0 := (ka.later hW).c0; have q1 := (ka.later hW).c1; have q6 := (ka.later hW).c6
    clear hW
    simp only [z0, z1]
    go_simp
    first | done | with_reducible rfl
  simp only [z0, z1, Act.put, z3, z4, z5]
  refine tk 6 (by decide) ?_ hS (by kernel_rfl) (by kernel_rfl) (by kernel_rfl) (by rfl) (fun _ _ _ h => h) ?_ ?_
  rotate_left
  · intro W hW
    clear hW
    simp only [z0, z1]
    go_simp
    first | done | with_reducible rfl
  simp only [z0, z1, Act.put, z3, z4, z5]
  refine tk 7 (by decide) ?_ hS (by kernel_rfl) (by kernel_rfl) (by kernel_rfl) (by rfl) (fun _ _ _ h => h) ?_ ?_
  rotate_left
  · intro W hW
    clear hW
    simp only [z0, z1]
    go_simp
    first | done | with_reducible rfl
  simp only [z0, z1, Act.put, z3, z4, z5]
  refine tk 8 (by decide) ?_ hS (by kernel_rfl) (by kernel_rfl) (by kernel_rfl) (by rfl) (fun _ _ _ h => h) ?_ ?_
  rotate_left
  · intro W hW
    clear hW
    simp only [z0, z1]
    go_simp
    first | done | with_reducible rfl
  simp only [z0, z1, Act.put, z3, z4, z5]
  refine tk 9 (by decide) ?_ hS (by kernel_rfl) (by kernel_rfl) (by kernel_rfl) (by rfl) (fun _ _ _ h => h) ?_ ?_
  rotate_left
  · intro W hW
    clear hW
    simp only [z0, z1]
    go_simp
    first | done | with_reducible rfl
  simp only [z0, z1, Act.put, z3, z4, z5]
  refine tk 10 (by decide) ?_ hS (by kernel_rfl) (by kernel_rfl) (by kernel_rfl) (by rfl) (fun _ _ _ h => h) ?_ ?_
  rotate_left
  · intro W hW
    have q0 := (ka.later hW).c0; have q1 := (ka.later hW).c1; have q6 := (ka.later hW).c6
    clear hW
    simp only [z0, z1]
    go_simp
    first | done | with_reducible rfl
  simp only [z0, z1, Act.put, z3, z4, z5]
  refine call_at 11 (by decide) (Pi := fun v _ => ∃ q : Bool, v = .bool q) (by kernel_rfl) (by rfl) (by simp only [z0, z1]; go_simp; first | done | rfl | exact ⟨rfl, rfl⟩) (call_isb hS (valid04_any _ _)) ?_
  clear hS
  rintro w8 u hS ⟨q, rfl⟩
  simp only [z0, z1, Act.put, z3, z4, z5]
  cases q
  · refine tk 12 (by decide) ?_ hS (by kernel_rfl) (by kernel_rfl) (by kernel_rfl) (by rfl) (fun _ _ _ h => h) ?_ ?_
    rotate_left
    · intro W hW
      clear hW
      simp only [z0, z1]
      go_simp
      first | done | with_reducible rfl
    simp only [z0, z1, Act.put, z3, z4, z5]
    refine tk 13 (by decide) ?_ hS (by kernel_rfl) (by kernel_rfl) (by kernel_rfl) (by rfl) (fun _ _ _ h => h) ?_ ?_
    rotate_left
    · intro W hW
      clear hW
      simp only [z0, z1]
      go_simp
      first | done | with_reducible rfl
    simp only [z0, z1, Act.put, z3, z4, z5]
    refine ts 14 (by decide) hS (by kernel_rfl) (by kernel_rfl) (by kernel_rfl) (by rfl) (fun _ _ _ h => h) ?_
    simp only [z0, z1, Act.put, z3, z4, z5]
    refine ts 15 (by decide) hS (by kernel_rfl) (by kernel_rfl) (by kernel_rfl) (by rfl) (fun _ _ _ h => h) ?_
    simp only [z0, z1, Act.put, z3, z4, z5]
    refine ts 16 (by decide) hS (by kernel_rfl) (by kernel_rfl) (by kernel_rfl) (by rfl) (fun _ _ _ h => h) ?_
    simp only [z0, z1, Act.put, z3, z4, z5]
    refine ts 17 (by decide) hS (by kernel_rfl) (by kernel_rfl) (by kernel_rfl) (by rfl) (fun _ _ _ h => h) ?_
    simp only [z0, z1, Act.put, z3, z4, z5]
    refine ts 18 (by decide) hS (by kernel_rfl) (by kernel_rfl) (by kernel_rfl) (by rfl) (fun _ _ _ h => h) ?_
    simp only [z0, z1, Act.put, z3, z4, z5]
    refine ts 19 (by decide) hS (by kernel_rfl) (by kernel_rfl) (by kernel_rfl) (by rfl) (fun _ _ _ h => h) ?_
    simp only [z0, z1, Act.put, z3, z4, z5]
    refine tk 20 (by decide) ?_ hS (by kernel_rfl) (by kernel_rfl) (by kernel_rfl) (by rfl) (fun _ _ _ h => h) ?_ ?_
    rotate_left
    · intro W hW
      clear hW
      simp only [z0, z1]
      go_simp
      first | done | with_reducible rfl
    simp only [z0, z1, Act.put, z3, z4, z5]
    refine tk 21 (by decide) ?_ hS (by kernel_rfl) (by kernel_rfl) (by kernel_rfl) (by rfl) (fun _ _ _ h => h) ?_ ?_
    rotate_left
    · intro W hW
      clear hW
      simp only [z0, z1]
      go_simp
      first | done | with_reducible rfl
    simp only [z0, z1, Act.put, z3, z4, z5]
    refine wpAnyH_done (by kernel_rfl) ?_ _
    have c9 := bl2 hS cw
    clear hS
    go_wp2_with fail
    (go_ret; exact ⟨⟨_, rfl⟩, c9⟩)
  · refine tk 12 (by decide) ?_ hS (by kernel_rfl) (by kernel_rfl) (by kernel_rfl) (by rfl) (fun _ _ _ h => h) ?_ ?_
    rotate_left
    · intro W hW
      clear hW
      simp only [z0, z1]
      go_simp
      first | done | with_reducible rfl
    simp only [z0, z1, Act.put, z3, z4, z5]
    refine tk 13 (by decide) ?_ hS (by kernel_rfl) (by kernel_rfl) (by kernel_rfl) (by rfl) (fun _ _ _ h => h) ?_ ?_
    rotate_left
    · intro W hW
      clear hW
      simp only [z0, z1]
      go_simp
      first | done | with_reducible rfl
    simp only [z0, z1, Act.put, z3, z4, z5]
    refine tk 14 (by decide) ?_ hS (by kernel_rfl) (by kernel_rfl) (by kernel_rfl) (by rfl) (fun _ _ _ h => h) ?_ ?_
    rotate_left
    · intro W hW
      clear hW
      simp only [z0, z1]
      go_simp
      first | done | with_reducible rfl
    simp only [z0, z1, Act.put, z3, z4, z5]
    refine tk 15 (by decide) ?_ hS (by kernel_rfl) (by kernel_rfl) (by kernel_rfl) (by rfl) (fun _ _ _ h => h) ?_ ?_
    rotate_left
    · intro W hW
      have q0 := (ka.later hW).c0; have q1 := (ka.later hW).c1; have q6 := (ka.later hW).c6
      clear hW
      simp only [z0, z1]
      go_simp
      first | done | with_reducible rfl
    simp only [z0, z1, Act.put, z3, z4, z5]
    refine tk 16 (by decide) ?_ hS (by kernel_rfl) (by kernel_rfl) (by kernel_rfl) (by rfl) (fun _ _ _ h => h) ?_ ?_
    rotate_left
    · intro W hW
      clear hW
      simp only [z0, z1]
      go_simp
      first | done | with_reducible rfl
    simp only [z0, z1, Act.put, z3, z4, z5]
    refine tk 17 (by decide) ?_ hS (by kernel_rfl) (by kernel_rfl) (by kernel_rfl) (by rfl) (fun _ _ _ h => h) ?_ ?_
    rotate_left
    · intro W hW
      have q0 := (ka.later hW).c0; have q1 := (ka.later hW).c1; have q6 := (ka.later hW).c6
      clear hW
      simp only [z0, z1]
      go_simp
      first | done | with_reducible rfl
    simp only [z0, z1, Act.put, z3, z4, z5]
    refine call_at 18 (by decide) (Pi := fun v _ => ∃ q : ByteArray, v = .string q) (by kernel_rfl) (by rfl) (by simp only [z0, z1]; go_simp; first | done | rfl | exact ⟨rfl, rfl⟩) (call_ist hS (number_any a.id _ (by omega) (by omega))) ?_
    clear hS
    rintro w9 u hS ⟨q, rfl⟩
    simp only [z0, z1, Act.put, z3, z4, z5]
    refine tk 19 (by decide) ?_ hS (by kernel_rfl) (by kernel_rfl) (by kernel_rfl) (by rfl) (fun _ _ _ h => h) ?_ ?_
    rotate_left
    · intro W hW
      clear hW
      simp only [z0, z1]
      go_simp
      first | done | with_reducible rfl
    simp only [z0, z1, Act.put, z3, z4, z5]
    refine tk 20 (by decide) ?_ hS (by kernel_rfl) (by kernel_rfl) (by kernel_rfl) (by rfl) (fun _ _ _ h => h) ?_ ?_
    rotate_left
    · intro W hW
      clear hW
      simp only [z0, z1]
      go_simp
      first | done | with_reducible rfl
    simp only [z0, z1, Act.put, z3, z4, z5]
    refine tk 21 (by decide) ?_ hS (by kernel_rfl) (by kernel_rfl) (by kernel_rfl) (by rfl) (fun _ _ _ h => h) ?_ ?_
    rotate_left
    · intro W hW
      clear hW
      simp only [z0, z1]
      go_simp
      first | done | with_reducible rfl
    simp only [z0, z1, Act.put, z3, z4, z5]
    refine wpAnyH_done (by kernel_rfl) ?_ _
    have c9 := bl2 hS cw
    clear hS
    go_wp2_with fail
    (go_ret; exact ⟨⟨_, rfl⟩, c9⟩)
def CkR (w : World) (B : Bo) (n : Nat) (g : Nat) (s : Value) (W : World) : Prop := ∃ k : Nat, k + g = n ∧ s = .int .i64 k ∧ Bk.Blk W w.heap.size #[.slice (B).ua (B).us.length (B).uk, .slice (B).ka (B).kn (B).kk, .slice (B).ga (B).gs.length (B).gk, .int .i64 ((B).pl).p0, .int .i64 ((B).pl).p1, .int .i64 ((B).pl).p2, .int .i64 ((B).pl).p3, .int .i64 ((B).pl).p4, .int .i64 ((B).pl).p5, .int .i64 ((B).pl).p6, .int .i64 ((B).pl).p7, .int .i64 ((B).pl).p8, .int .i64 ((B).pl).p9, .int .i64 ((B).pl).p10, .int .i64 ((B).pl).p11, .int .i64 ((B).pl).p12, .int .i64 ((B).pl).p13, .slice (B).pa (B).ps.length (B).pk, .slice (B).aa (B).as.length (B).ak, .slice (B).ja (B).js.length (B).jk, .slice (B).ha (B).hn (B).hk, .slice (B).ba (B).bn (B).bk] 33 ∧ Below w.heap.size w W
set_option maxHeartbeats 64000000 in
theorem rchk24_any (B : Bo) (w : World) (ha : B.as.length ≤ maxLen) (hA : RowIn acenc w B.aa B.as) (hz : ∀ x ∈ B.as, x.ow.size ≤ maxLen) (hp : B.ps.length ≤ maxLen) (hP : RowIn pdenc w B.pa B.ps) :
    Calls Tryz.prog 17 #[(.agg #[.slice (B).ua (B).us.length (B).uk, .slice (B).ka (B).kn (B).kk, .slice (B).ga (B).gs.length (B).gk, .int .i64 ((B).pl).p0, .int .i64 ((B).pl).p1, .int .i64 ((B).pl).p2, .int .i64 ((B).pl).p3, .int .i64 ((B).pl).p4, .int .i64 ((B).pl).p5, .int .i64 ((B).pl).p6, .int .i64 ((B).pl).p7, .int .i64 ((B).pl).p8, .int .i64 ((B).pl).p9, .int .i64 ((B).pl).p10, .int .i64 ((B).pl).p11, .int .i64 ((B).pl).p12, .int .i64 ((B).pl).p13, .slice (B).pa (B).ps.length (B).pk, .slice (B).aa (B).as.length (B).ak, .slice (B).ja (B).js.length (B).jk, .slice (B).ha (B).hn (B).hk, .slice (B).ba (B).bn (B).bk])] w fun e w' => IsN e ∧ Below w.heap.size w w' := by
  have H := Lib.hid hA
  have HZ := Lib.hid hz
  have HO := Lib.hid (fun (a : Ac) (h0 : a.ow.size ≤ maxLen) (W : World) (hW : Below w.heap.size w W) => rown24_any B a W h0 hp (hP.later hW))
  have hm : B.as.length ≤ 9223372036854775807 := by unfold maxLen at ha; omega
  clear ha hA hz hp hP
  have cw : Below w.heap.size w (w.alloc (.cells #[.slice (B).ua (B).us.length (B).uk, .slice (B).ka (B).kn (B).kk, .slice (B).ga (B).gs.length (B).gk, .int .i64 ((B).pl).p0, .int .i64 ((B).pl).p1, .int .i64 ((B).pl).p2, .int .i64 ((B).pl).p3, .int .i64 ((B).pl).p4, .int .i64 ((B).pl).p5, .int .i64 ((B).pl).p6, .int .i64 ((B).pl).p7, .int .i64 ((B).pl).p8, .int .i64 ((B).pl).p9, .int .i64 ((B).pl).p10, .int .i64 ((B).pl).p11, .int .i64 ((B).pl).p12, .int .i64 ((B).pl).p13, .slice (B).pa (B).ps.length (B).pk, .slice (B).aa (B).as.length (B).ak, .slice (B).ja (B).js.length (B).jk, .slice (B).ha (B).hn (B).hk, .slice (B).ba (B).bn (B).bk] 33)) := Bk.be
  have kb : Bk.Blk (w.alloc (.cells #[.slice (B).ua (B).us.length (B).uk, .slice (B).ka (B).kn (B).kk, .slice (B).ga (B).gs.length (B).gk, .int .i64 ((B).pl).p0, .int .i64 ((B).pl).p1, .int .i64 ((B).pl).p2, .int .i64 ((B).pl).p3, .int .i64 ((B).pl).p4, .int .i64 ((B).pl).p5, .int .i64 ((B).pl).p6, .int .i64 ((B).pl).p7, .int .i64 ((B).pl).p8, .int .i64 ((B).pl).p9, .int .i64 ((B).pl).p10, .int .i64 ((B).pl).p11, .int .i64 ((B).pl).p12, .int .i64 ((B).pl).p13, .slice (B).pa (B).ps.length (B).pk, .slice (B).aa (B).as.length (B).ak, .slice (B).ja (B).js.length (B).jk, .slice (B).ha (B).hn (B).hk, .slice (B).ba (B).bn (B).bk] 33)) w.heap.size _ 33 := Bk.Blk.nw10
  go_enter Tryz.func17, Tryz.ntmps17
  go_upto_region 1 with fail
  generalize (w.alloc (.cells _ 33)) = w1 at *
  have b18 := kb.c18
  go_wp2_with fail
  all_goals first
    | (go_ret; exact ⟨⟨_, rfl⟩, cw⟩)
    | skip
  clear b18
  go_loopg [3] B.as.length (CkR w B B.as.length)
  case atStart => exact ⟨0, by omega, rfl, kb, cw⟩
  case round =>
    clear kb cw
    obtain ⟨k, hk, rfl, kb, hbr⟩ := hrel
    have b18 := kb.c18
    by_cases hlt : k < B.as.length
    · obtain ⟨b, off, ha, hc⟩ := rowat acenc_len H.out (by omega)
      rw [ha] at b18
      have HAA := Lib.hid ha
      clear ha
      have HC := Lib.hid (fun (j : Nat) (hj : j < B.as.length) => range_later hbr (hc j hj))
      clear hc
      have hm1 := HC.out k hlt
      have hsz := HZ.out B.as[k]! (by rw [getElem!_pos B.as k hlt]; exact List.getElem_mem hlt)
      obtain ⟨d, hd⟩ : ∃ d, d = B.as[k]! := ⟨_, rfl⟩
      rw [← hd] at hm1 hsz
      clear hd
      have HSZ := Lib.hid hsz
      clear hsz
      have hgb := kb.lt
      go_upto_region 7 with (first | (refine wpList_load_mid rfl 76 _ rfl _ (off + k * 7) (by first | rfl | simp) ([.int .i64 (d).id, .int .i64 (d).op, .int .i64 (d).cl, .int .i64 (d).ex, .string (d).ow, .string (d).pr, .string (d).nu]) _ (hm1) Tryz.underlying76 rfl (by kernel_rfl) ?_) | (refine wpList_store_row rfl 76 _ _ rfl _ _ rfl rfl _ _ (Bk.Blk.nw10) (by kernel_rfl) rfl (by simp [Value.oneCell']) ?_))
      have cx : Below wr.heap.size wr ((wr.alloc (.cells #[.int .i64 0, .int .i64 0, .int .i64 0, .int .i64 0, .string { data := #[] }, .string { data := #[] }, .string { data := #[] }] 76)).setRow wr.heap.size #[.int .i64 (d).id, .int .i64 (d).op, .int .i64 (d).cl, .int .i64 (d).ex, .string (d).ow, .string (d).pr, .string (d).nu]) := Below_setRow ((Below.refl _ _).alloc (Nat.le_refl _) _) (Nat.le_refl _) _
      have kx : Bk.Blk ((wr.alloc (.cells #[.int .i64 0, .int .i64 0, .int .i64 0, .int .i64 0, .string { data := #[] }, .string { data := #[] }, .string { data := #[] }] 76)).setRow wr.heap.size #[.int .i64 (d).id, .int .i64 (d).op, .int .i64 (d).cl, .int .i64 (d).ex, .string (d).ow, .string (d).pr, .string (d).nu]) wr.heap.size _ 76 := Blk_setRow_same Bk.Blk.nw10
      have c3 := bl2 cx hbr
      replace kb := kb.later cx
      have HC3 := Lib.hid (fun (j : Nat) (hj : j < B.as.length) => range_later cx (HC.out j hj))
      clear HC hm1 b18 hgb
      clear cx hbr
      (try simp only [Act.put])
      generalize ((wr.alloc (.cells _ 76)).setRow wr.heap.size _) = w3 at *
      generalize wr.heap.size = gw3 at *
      have x1 := kx.c1
      have x2 := kx.c2
      go_cut [5] from 11 to 74 (fun s5 wx => (∃ q : Bool, s5 = .bool q) ∧ wx = w3)
      case first =>
        go_wp2_with fail
        all_goals first
          | (go_meet; exact ⟨⟨_, rfl⟩, rfl⟩)
          | skip
        refine (valid04_any _ _).mono ?_
        rintro e w' ⟨⟨q, rfl⟩, rfl⟩
        cases q
        all_goals go_wp2_with fail
        all_goals (go_meet; exact ⟨⟨_, rfl⟩, rfl⟩)
      case rest =>
        obtain ⟨⟨op, rfl⟩, rfl⟩ := hcut
        go_wp2_with ((refine wpList_load_row rfl 76 _ rfl _ rfl _ _ _ _ (kx) Tryz.underlying76 rfl (by kernel_rfl) ?_))
        refine (rshp24_any d _).mono ?_
        rintro e w4 ⟨⟨q, rfl⟩, hb⟩
        have c4 := bl2 hb c3
        replace kb := kb.later hb
        replace kx := kx.later hb
        have HC4 := Lib.hid (fun (j : Nat) (hj : j < B.as.length) => range_later hb (HC3.out j hj))
        clear hb c3 HC3
        have x3 := kx.c3
        cases q
        · go_wp2_with fail
          (go_ret; exact ⟨⟨_, rfl⟩, c4⟩)
        cases op
        · go_wp2_with fail
          (go_ret; exact ⟨⟨_, rfl⟩, c4⟩)
        by_cases e0 : d.ex < 0
        · go_wp2_with fail
          (go_ret; exact ⟨⟨_, rfl⟩, c4⟩)
        by_cases e1 : 1000000000000 < d.ex
        · go_wp2_with fail
          (go_ret; exact ⟨⟨_, rfl⟩, c4⟩)
        go_upto_region 10 with fail
        clear x3
        have m0 := kx.c0
        have b18 := kb.c18
        rw [HAA.out] at b18
        by_cases h0 : k = 0
        · have g0 : decide (0 < k) = false := decide_eq_false (by omega)
          have g0b : decide ((0 : Int) < (k : Int)) = false := decide_eq_false (by omega)
          clear h0
          refine Reg.region_quiet (by kernel_rfl) (by kernel_rfl) ?_
          iterate 14 (first | go_big_quiet_skip | (go_big_quiet_want; (first | (go_big_quiet_op; go_big_quiet_on) | (apply Reg.quiet_run; (intro W hW; skip; go_simp; (first | done | rfl | exact ⟨rfl, rfl⟩ )); (simp only [Act.put, List.setIfInBounds_toArray, List.set_cons_zero, List.set_cons_succ]; go_big_quiet_on)) | (apply Reg.quiet_call; (intro W hW; go_simp; (first | done | rfl | exact ⟨rfl, rfl⟩)); (intro W hW; (first | fail)); (simp only [Act.put, List.setIfInBounds_toArray, List.set_cons_zero, List.set_cons_succ]; go_big_quiet_on)))))
          refine wpQuiet_nil ?_
          intro w8 hW
          have c8 := bl2 hW c4
          replace kb := kb.later hW
          replace kx := kx.later hW
          clear hW m0 b18
          go_wp2_with (first | (refine wpList_load_row rfl 33 _ rfl _ rfl _ _ _ _ (kb) Tryz.underlying33 rfl (by kernel_rfl) ?_) | (refine wpList_load_row rfl 76 _ rfl _ rfl _ _ _ _ (kx) Tryz.underlying76 rfl (by kernel_rfl) ?_))
          all_goals first
            | (go_ret; exact ⟨⟨_, rfl⟩, c8⟩)
            | skip
          refine (HO.out d HSZ.out _ c8).mono ?_
          rintro e w9 ⟨⟨q2, rfl⟩, hb⟩
          have c9 := bl2 hb c8
          replace kb := kb.later hb
          clear hb
          go_wp2_with fail
          all_goals first
            | (go_ret; exact ⟨⟨_, rfl⟩, c9⟩)
            | (go_roundg (gk - 1)
               case measure => omega
               case rel => exact ⟨k + 1, by omega, by go_num, kb, c9⟩)
        · have g0 : decide (0 < k) = true := decide_eq_true (by omega)
          have g0b : decide ((0 : Int) < (k : Int)) = true := decide_eq_true (by omega)
          have hw0 : IntKind.i64.wrap ((k : Int) - 1) = ((k - 1 : Nat) : Int) := by rw [IntKind.wrap_i64]; omega
          have i3 : k - 1 < B.as.length := by omega
          have hm2 := HC4.out (k - 1) i3
          obtain ⟨d2, hd2⟩ : ∃ d2, d2 = B.as[k - 1]! := ⟨_, rfl⟩
          rw [← hd2] at hm2
          clear hd2 h0
          have p0 : w4.cell? ⟨b, off + (k - 1) * 7, none⟩ = some (.int .i64 d2.id) := hm2 0 _ rfl
          clear hm2
          refine Reg.region_quiet (by kernel_rfl) (by kernel_rfl) ?_
          iterate 14 (first | go_big_quiet_skip | (go_big_quiet_want; (first | (go_big_quiet_op; go_big_quiet_on) | (apply Reg.quiet_run; (intro W hW; (have q0 := hW.cell m0; have q1 := hW.cell p0; have q2 := hW.cell b18); go_simp; (first | done | rfl | exact ⟨rfl, rfl⟩ )); (simp only [Act.put, List.setIfInBounds_toArray, List.set_cons_zero, List.set_cons_succ]; go_big_quiet_on)) | (apply Reg.quiet_call; (intro W hW; go_simp; (first | done | rfl | exact ⟨rfl, rfl⟩)); (intro W hW; (first | fail)); (simp only [Act.put, List.setIfInBounds_toArray, List.set_cons_zero, List.set_cons_succ]; go_big_quiet_on)))))
          refine wpQuiet_nil ?_
          intro w8 hW
          have c8 := bl2 hW c4
          replace kb := kb.later hW
          replace kx := kx.later hW
          clear hW m0 b18
          go_wp2_with (first | (refine wpList_load_row rfl 33 _ rfl _ rfl _ _ _ _ (kb) Tryz.underlying33 rfl (by kernel_rfl) ?_) | (refine wpList_load_row rfl 76 _ rfl _ rfl _ _ _ _ (kx) Tryz.underlying76 rfl (by kernel_rfl) ?_))
          all_goals first
            | (go_ret; exact ⟨⟨_, rfl⟩, c8⟩)
            | skip
          refine (HO.out d HSZ.out _ c8).mono ?_
          rintro e w9 ⟨⟨q2, rfl⟩, hb⟩
          have c9 := bl2 hb c8
          replace kb := kb.later hb
          clear hb
          go_wp2_with fail
          all_goals first
            | (go_ret; exact ⟨⟨_, rfl⟩, c9⟩)
            | (go_roundg (gk - 1)
               case measure => omega
               case rel => exact ⟨k + 1, by omega, by go_num, kb, c9⟩)
    · go_wp2_with fail
      (go_ret; exact ⟨⟨_, rfl⟩, hbr⟩)
end Go.Proofs.YtjhpiclnpmdjnaaGreatDoor.Bm
