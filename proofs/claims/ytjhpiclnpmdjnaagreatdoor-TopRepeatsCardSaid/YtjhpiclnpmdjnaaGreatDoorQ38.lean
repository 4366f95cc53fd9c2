/-
  Parts of the proof: Y20.
-/
import Derived.Test.YtjhpiclnpmdjnaaGreatDoorQ37
namespace Go.Proofs.YtjhpiclnpmdjnaaGreatDoor.Bm
open Go Go.RowKit
open Go.Proofs.YtjhpiclnpmdjnaaGreatDoor
open Go.Proofs.YtjhpiclnpmdjnaaGreatDoor.Kl (byt byt_get)
open Go.Proofs.YtjhpiclnpmdjnaaGreatDoor.Ln (SB tk ts z0 z1 z3 z4 z5 take_at call_at flat flat_len flat_get flat_mem RowIn OwnR Idx bl2 results2_cell Blk_setRow_same Blk_setRow_ne Below_setRow)
set_option linter.unusedSimpArgs false
set_option linter.unusedVariables false
set_option maxRecDepth 100000
def En.nx (e : En) (n c : Int) : En := { e with id := n, ch := c }
def IsNx (e : En) (r : Ending) : Prop := ∃ n c : Int, r = .returned (.agg #[.int .i64 ((e.nx n c)).id, .int .i64 ((e.nx n c)).bo, .int .i64 ((e.nx n c)).va, .int .i64 ((e.nx n c)).ki, .int .i64 ((e.nx n c)).au, .int .i64 ((e.nx n c)).pe, .string ((e.nx n c)).ke, .string ((e.nx n c)).tx, .slice ((e.nx n c)).la ((e.nx n c)).lg.length ((e.nx n c)).lk, .int .u64 ((e.nx n c)).ch])
set_option maxHeartbeats 64000000 in
theorem rnext20_any (ja : Option Addr) (jc : Nat) (js : List En) (e : En) (w : World) (hj : js.length ≤ 100000) (h : RowIn enenc w ja js) (hg : EnW e) (hs : ShE e) (hl : RowIn lgenc w e.la e.lg) :
    Calls Tryz.prog 77 #[.slice ja js.length jc, (.agg #[.int .i64 (e).id, .int .i64 (e).bo, .int .i64 (e).va, .int .i64 (e).ki, .int .i64 (e).au, .int .i64 (e).pe, .string (e).ke, .string (e).tx, .slice (e).la (e).lg.length (e).lk, .int .u64 (e).ch])] w fun r w' => IsNx e r ∧ Below w.heap.size w w' := by
  have HJ := Lib.hid h
  have HEN := Lib.hid (fun (W : World) (hW : Below w.heap.size w W) => rencode19_any (e.nx ((js.length : Int) + 1) e.ch) W ⟨(show wid ((js.length : Int) + 1) by unfold wid; omega), hg.n1, hg.n2, hg.n3, hg.n4, hg.n5, hg.lg⟩ hs (hl.later hW))
  clear h hg hs hl
  have cw : Below w.heap.size w ((w.alloc (.cells #[.int .i64 (e).id, .int .i64 (e).bo, .int .i64 (e).va, .int .i64 (e).ki, .int .i64 (e).au, .int .i64 (e).pe, .string (e).ke, .string (e).tx, .slice (e).la (e).lg.length (e).lk, .int .u64 (e).ch] 39)).alloc (.cells #[.int .i64 0, .int .i64 0, .int .i64 0, .int .i64 0, .int .i64 0, .int .i64 0, .string { data := #[] }, .string { data := #[] }, .slice none 0 0, .int .u64 0] 39)) := Bk.be
  have ke : Bk.Blk ((w.alloc (.cells #[.int .i64 (e).id, .int .i64 (e).bo, .int .i64 (e).va, .int .i64 (e).ki, .int .i64 (e).au, .int .i64 (e).pe, .string (e).ke, .string (e).tx, .slice (e).la (e).lg.length (e).lk, .int .u64 (e).ch] 39)).alloc (.cells #[.int .i64 0, .int .i64 0, .int .i64 0, .int .i64 0, .int .i64 0, .int .i64 0, .string { data := #[] }, .string { data := #[] }, .slice none 0 0, .int .u64 0] 39)) w.heap.size _ 39 := Bk.Blk.nw20
  have kz : Bk.Blk ((w.alloc (.cells #[.int .i64 (e).id, .int .i64 (e).bo, .int .i64 (e).va, .int .i64 (e).ki, .int .i64 (e).au, .int .i64 (e).pe, .string (e).ke, .string (e).tx, .slice (e).la (e).lg.length (e).lk, .int .u64 (e).ch] 39)).alloc (.cells #[.int .i64 0, .int .i64 0, .int .i64 0, .int .i64 0, .int .i64 0, .int .i64 0, .string { data := #[] }, .string { data := #[] }, .slice none 0 0, .int .u64 0] 39)) (w.heap.size + 1) _ 39 := Bk.Blk.nw21
  go_enter Tryz.func77, Tryz.ntmps77
  go_upto_region 1 with fail
  generalize ((w.alloc (.cells _ 39)).alloc (.cells _ 39)) = w1 at *
  have hzz : w.heap.size ≠ w.heap.size + 1 := by omega
  by_cases h0 : 0 < js.length
  · obtain ⟨b, off, rfl, hc⟩ := rowat enenc_len HJ.out h0
    have hjl : js.length - 1 < js.length := by omega
    have hm1 := range_later cw (hc (js.length - 1) hjl)
    clear hc
    obtain ⟨d, hd⟩ : ∃ d, d = js[js.length - 1]! := ⟨_, rfl⟩
    rw [← hd] at hm1
    clear hd
    have m9 : w1.cell? ⟨b, off + (js.length - 1) * 10 + 9, none⟩ = some (.int .u64 d.ch) := hm1 9 _ rfl
    have hw0 : IntKind.i64.wrap ((js.length : Int) - 1) = ((js.length - 1 : Nat) : Int) := by rw [IntKind.wrap_i64]; omega
    clear hm1
    go_upto_region 4 with fail
    clear m9 hw0 hjl
    have ke0 := ke.c0
    have kf0 : w1.frozen? ⟨w.heap.size, 0, none⟩ = false := Bk.Blk.free ke 0
    have hw1 : IntKind.i64.wrap ((js.length : Int) + 1) = (js.length : Int) + 1 := by rw [IntKind.wrap_i64]; omega
    go_upto_region 5 with fail
    have cs : Below w.heap.size w (w1.setCell ⟨w.heap.size, 0, none⟩ (.int .i64 ((js.length : Int) + 1))) := Below.setCell cw (Nat.le_refl _) _
    replace ke : Bk.Blk (w1.setCell ⟨w.heap.size, 0, none⟩ (.int .i64 ((js.length : Int) + 1))) w.heap.size #[.int .i64 ((e.nx ((js.length : Int) + 1) e.ch)).id, .int .i64 ((e.nx ((js.length : Int) + 1) e.ch)).bo, .int .i64 ((e.nx ((js.length : Int) + 1) e.ch)).va, .int .i64 ((e.nx ((js.length : Int) + 1) e.ch)).ki, .int .i64 ((e.nx ((js.length : Int) + 1) e.ch)).au, .int .i64 ((e.nx ((js.length : Int) + 1) e.ch)).pe, .string ((e.nx ((js.length : Int) + 1) e.ch)).ke, .string ((e.nx ((js.length : Int) + 1) e.ch)).tx, .slice ((e.nx ((js.length : Int) + 1) e.ch)).la ((e.nx ((js.length : Int) + 1) e.ch)).lg.length ((e.nx ((js.length : Int) + 1) e.ch)).lk, .int .u64 ((e.nx ((js.length : Int) + 1) e.ch)).ch] 39 := (Bk.Blk.set_same ke).conv (by rfl)
    replace kz : Bk.Blk (w1.setCell ⟨w.heap.size, 0, none⟩ (.int .i64 ((js.length : Int) + 1))) (w.heap.size + 1) #[.int .i64 0, .int .i64 0, .int .i64 0, .int .i64 0, .int .i64 0, .int .i64 0, .string { data := #[] }, .string { data := #[] }, .slice none 0 0, .int .u64 0] 39 := Bk.Blk.set_ne kz (by omega)
    clear ke0 kf0 hw1 cw
    (try simp only [Act.put])
    generalize (w1.setCell ⟨w.heap.size, 0, none⟩ (.int .i64 ((js.length : Int) + 1))) = w2 at *
    go_wp2_with ((refine wpList_load_row rfl 39 _ rfl _ rfl _ _ _ _ (ke) Tryz.underlying39 rfl (by kernel_rfl) ?_))
    refine (HEN.out _ cs).mono ?_
    rintro r w3 ⟨⟨s, rfl, hs⟩, hb⟩
    have c3 := bl2 hb cs
    replace ke := ke.later hb
    replace kz := kz.later hb
    have HSZ := Lib.hid (show s.size ≤ maxLen by unfold maxLen; omega)
    clear hb cs hs
    go_wp2_with fail
    refine (chain08_any _ s _ HSZ.out).mono ?_
    rintro r w4 ⟨⟨c, rfl⟩, hb⟩
    have c4 := bl2 hb c3
    replace ke := ke.later hb
    replace kz := kz.later hb
    clear hb c3
    have ke9 := ke.c9
    have kf9 : w4.frozen? ⟨w.heap.size, 9, none⟩ = false := Bk.Blk.free ke 9
    go_upto_region 6 with fail
    have c5 : Below w.heap.size w (w4.setCell ⟨w.heap.size, 9, none⟩ (.int .u64 c)) := Below.setCell c4 (Nat.le_refl _) _
    replace ke : Bk.Blk (w4.setCell ⟨w.heap.size, 9, none⟩ (.int .u64 c)) w.heap.size #[.int .i64 ((e.nx ((js.length : Int) + 1) c)).id, .int .i64 ((e.nx ((js.length : Int) + 1) c)).bo, .int .i64 ((e.nx ((js.length : Int) + 1) c)).va, .int .i64 ((e.nx ((js.length : Int) + 1) c)).ki, .int .i64 ((e.nx ((js.length : Int) + 1) c)).au, .int .i64 ((e.nx ((js.length : Int) + 1) c)).pe, .string ((e.nx ((js.length : Int) + 1) c)).ke, .string ((e.nx ((js.length : Int) + 1) c)).tx, .slice ((e.nx ((js.length : Int) + 1) c)).la ((e.nx ((js.length : Int) + 1) c)).lg.length ((e.nx ((js.length : Int) + 1) c)).lk, .int .u64 ((e.nx ((js.length : Int) + 1) c)).ch] 39 := (Bk.Blk.set_same ke).conv (by rfl)
    replace kz : Bk.Blk (w4.setCell ⟨w.heap.size, 9, none⟩ (.int .u64 c)) (w.heap.size + 1) #[.int .i64 0, .int .i64 0, .int .i64 0, .int .i64 0, .int .i64 0, .int .i64 0, .string { data := #[] }, .string { data := #[] }, .slice none 0 0, .int .u64 0] 39 := Bk.Blk.set_ne kz (by omega)
    clear ke9 kf9 c4
    (try simp only [Act.put])
    generalize (w4.setCell ⟨w.heap.size, 9, none⟩ (.int .u64 c)) = w5 at *
    have hzz : w.heap.size ≠ w.heap.size + 1 := by omega
    go_wp2_with (first | (refine wpList_load_row rfl 39 _ rfl _ rfl _ _ _ _ (ke) Tryz.underlying39 rfl (by kernel_rfl) ?_) | (refine wpList_store_row rfl 39 _ _ rfl _ _ rfl rfl _ _ (kz) (by kernel_rfl) rfl (by simp [Value.oneCell']) ?_))
    (try simp only [Exit.inBlock, Exit.then])
    refine bodyPost_ret (results_cell_row Tryz.results77 _ _ _ _ _ _ _ rfl (Blk_setRow_same kz) Tryz.underlying39 rfl (by kernel_rfl)) rfl ?_
    exact ⟨⟨_, _, rfl⟩, Below_setRow c5 (by omega) _⟩
  · go_upto_region 4 with fail
    have ke0 := ke.c0
    have kf0 : w1.frozen? ⟨w.heap.size, 0, none⟩ = false := Bk.Blk.free ke 0
    have hw1 : IntKind.i64.wrap ((js.length : Int) + 1) = (js.length : Int) + 1 := by rw [IntKind.wrap_i64]; omega
    go_upto_region 5 with fail
    have cs : Below w.heap.size w (w1.setCell ⟨w.heap.size, 0, none⟩ (.int .i64 ((js.length : Int) + 1))) := Below.setCell cw (Nat.le_refl _) _
    replace ke : Bk.Blk (w1.setCell ⟨w.heap.size, 0, none⟩ (.int .i64 ((js.length : Int) + 1))) w.heap.size #[.int .i64 ((e.nx ((js.length : Int) + 1) e.ch)).id, .int .i64 ((e.nx ((js.length : Int) + 1) e.ch)).bo, .int .i64 ((e.nx ((js.length : Int) + 1) e.ch)).va, .int .i64 ((e.nx ((js.length : Int) + 1) e.ch)).ki, .int .i64 ((e.nx ((js.length : Int) + 1) e.ch)).au, .int .i64 ((e.nx ((js.length : Int) + 1) e.ch)).pe, .string ((e.nx ((js.length : Int) + 1) e.ch)).ke, .string ((e.nx ((js.length : Int) + 1) e.ch)).tx, .slice ((e.nx ((js.length : Int) + 1) e.ch)).la ((e.nx ((js.length : Int) + 1) e.ch)).lg.length ((e.nx ((js.length : Int) + 1) e.ch)).lk, .int .u64 ((e.nx ((js.length : Int) + 1) e.ch)).ch] 39 := (Bk.Blk.set_same ke).conv (by rfl)
    replace kz : Bk.Blk (w1.setCell ⟨w.heap.size, 0, none⟩ (.int .i64 ((js.length : Int) + 1))) (w.heap.size + 1) #[.int .i64 0, .int .i64 0, .int .i64 0, .int .i64 0, .int .i64 0, .int .i64 0, .string { data := #[] }, .string { data := #[] }, .slice none 0 0, .int .u64 0] 39 := Bk.Blk.set_ne kz (by omega)
    clear ke0 kf0 hw1 cw
    (try simp only [Act.put])
    generalize (w1.setCell ⟨w.heap.size, 0, none⟩ (.int .i64 ((js.length : Int) + 1))) = w2 at *
    go_wp2_with ((refine wpList_load_row rfl 39 _ rfl _ rfl _ _ _ _ (ke) Tryz.underlying39 rfl (by kernel_rfl) ?_))
    refine (HEN.out _ cs).mono ?_
    rintro r w3 ⟨⟨s, rfl, hs⟩, hb⟩
    have c3 := bl2 hb cs
    replace ke := ke.later hb
    replace kz := kz.later hb
    have HSZ := Lib.hid (show s.size ≤ maxLen by unfold maxLen; omega)
    clear hb cs hs
    go_wp2_with fail
    refine (chain08_any _ s _ HSZ.out).mono ?_
    rintro r w4 ⟨⟨c, rfl⟩, hb⟩
    have c4 := bl2 hb c3
    replace ke := ke.later hb
    replace kz := kz.later hb
    clear hb c3
    have ke9 := ke.c9
    have kf9 : w4.frozen? ⟨w.heap.size, 9, none⟩ = false := Bk.Blk.free ke 9
    go_upto_region 6 with fail
    have c5 : Below w.heap.size w (w4.setCell ⟨w.heap.size, 9, none⟩ (.int .u64 c)) := Below.setCell c4 (Nat.le_refl _) _
    replace ke : Bk.Blk (w4.setCell ⟨w.heap.size, 9, none⟩ (.int .u64 c)) w.heap.size #[.int .i64 ((e.nx ((js.length : Int) + 1) c)).id, .int .i64 ((e.nx ((js.length : Int) + 1) c)).bo, .int .i64 ((e.nx ((js.length : Int) + 1) c)).va, .int .i64 ((e.nx ((js.length : Int) + 1) c)).ki, .int .i64 ((e.nx ((js.length : Int) + 1) c)).au, .int .i64 ((e.nx ((js.length : Int) + 1) c)).pe, .string ((e.nx ((js.length : Int) + 1) c)).ke, .string ((e.nx ((js.length : Int) + 1) c)).tx, .slice ((e.nx ((js.length : Int) + 1) c)).la ((e.nx ((js.length : Int) + 1) c)).lg.length ((e.nx ((js.length : Int) + 1) c)).lk, .int .u64 ((e.nx ((js.length : Int) + 1) c)).ch] 39 := (Bk.Blk.set_same ke).conv (by rfl)
    replace kz : Bk.Blk (w4.setCell ⟨w.heap.size, 9, none⟩ (.int .u64 c)) (w.heap.size + 1) #[.int .i64 0, .int .i64 0, .int .i64 0, .int .i64 0, .int .i64 0, .int .i64 0, .string { data := #[] }, .string { data := #[] }, .slice none 0 0, .int .u64 0] 39 := Bk.Blk.set_ne kz (by omega)
    clear ke9 kf9 c4
    (try simp only [Act.put])
    generalize (w4.setCell ⟨w.heap.size, 9, none⟩ (.int .u64 c)) = w5 at *
    have hzz : w.heap.size ≠ w.heap.size + 1 := by omega
    go_wp2_with (first | (refine wpList_load_row rfl 39 _ rfl _ rfl _ _ _ _ (ke) Tryz.underlying39 rfl (by kernel_rfl) ?_) | (refine wpList_store_row rfl 39 _ _ rfl _ _ rfl rfl _ _ (kz) (by kernel_rfl) rfl (by simp [Value.oneCell']) ?_))
    (try simp only [Exit.inBlock, Exit.then])
    refine bodyPost_ret (results_cell_row Tryz.results77 _ _ _ _ _ _ _ rfl (Blk_setRow_same kz) Tryz.underlying39 rfl (by kernel_rfl)) rfl ?_
    exact ⟨⟨_, _, rfl⟩, Below_setRow c5 (by omega) _⟩
def ExJ (w : World) (e : En) (n : Nat) (g : Nat) (s : Value) (W : World) : Prop := ∃ k : Nat, k + g = n ∧ s = .int .i64 k ∧ Bk.Blk W w.heap.size #[.int .i64 (e).id, .int .i64 (e).bo, .int .i64 (e).va, .int .i64 (e).ki, .int .i64 (e).au, .int .i64 (e).pe, .string (e).ke, .string (e).tx, .slice (e).la (e).lg.length (e).lk, .int .u64 (e).ch] 39 ∧ Below w.heap.size w W
set_option maxHeartbeats 64000000 in
theorem rexam20_any (ja : Option Addr) (jc : Nat) (js : List En) (e : En) (w : World) (hj : js.length ≤ 100000) (h : RowIn enenc w ja js) (he : EnIn w e) :
    Calls Tryz.prog 75 #[.slice ja js.length jc, (.agg #[.int .i64 (e).id, .int .i64 (e).bo, .int .i64 (e).va, .int .i64 (e).ki, .int .i64 (e).au, .int .i64 (e).pe, .string (e).ke, .string (e).tx, .slice (e).la (e).lg.length (e).lk, .int .u64 (e).ch])] w fun r w' => IsEc e r ∧ Below w.heap.size w w' := by
  have HJ := Lib.hid h
  have HCK := Lib.hid (fun (W : World) (hW : Below w.heap.size w W) => rchk19_any e W (he.later hW))
  clear h he
  have cw : Below w.heap.size w (w.alloc (.cells #[.int .i64 (e).id, .int .i64 (e).bo, .int .i64 (e).va, .int .i64 (e).ki, .int .i64 (e).au, .int .i64 (e).pe, .string (e).ke, .string (e).tx, .slice (e).la (e).lg.length (e).lk, .int .u64 (e).ch] 39)) := Bk.be
  have ke : Bk.Blk (w.alloc (.cells #[.int .i64 (e).id, .int .i64 (e).bo, .int .i64 (e).va, .int .i64 (e).ki, .int .i64 (e).au, .int .i64 (e).pe, .string (e).ke, .string (e).tx, .slice (e).la (e).lg.length (e).lk, .int .u64 (e).ch] 39)) w.heap.size _ 39 := Bk.Blk.nw10
  go_enter Tryz.func75, Tryz.ntmps75
  go_upto_region 1 with fail
  generalize (w.alloc (.cells _ 39)) = w1 at *
  go_wp2_with ((refine wpList_load_row rfl 39 _ rfl _ rfl _ _ _ _ (ke) Tryz.underlying39 rfl (by kernel_rfl) ?_))
  refine (HCK.out _ cw).mono ?_
  rintro r w2 ⟨⟨n, rfl, hn⟩, hb⟩
  have c2 := bl2 hb cw
  replace ke := ke.later hb
  have HN := Lib.hid hn
  clear hb cw hn HCK
  by_cases h0 : n = 0
  rotate_left
  · have g0 : (n != 0) = true := bne_iff_ne.2 h0
    have HN0 := Lib.hid h0
    clear h0
    go_wp2_with fail
    (go_ret; exact ⟨⟨_, rfl, fun h => absurd h HN0.out⟩, c2⟩)
  have g0 : (n != 0) = false := by rw [h0]; rfl
  have HSH := Lib.hid (HN.out h0)
  clear h0 HN
  go_wp2_with fail
  clear g0
  go_loopg [6] js.length (ExJ w e js.length)
  case atStart => exact ⟨0, by omega, rfl, ke, c2⟩
  case round =>
    clear ke c2
    obtain ⟨k, hk, rfl, ke, hbr⟩ := hrel
    have e6 := ke.c6
    by_cases hlt : k < js.length
    · obtain ⟨b, off, rfl, hc⟩ := rowat enenc_len HJ.out (by omega)
      have hm1 := range_later hbr (hc k hlt)
      clear hc
      obtain ⟨d, hd⟩ : ∃ d, d = js[k]! := ⟨_, rfl⟩
      rw [← hd] at hm1
      clear hd
      have m6 : wr.cell? ⟨b, off + k * 10 + 6, none⟩ = some (.string d.ke) := hm1 6 _ rfl
      clear hm1
      go_upto_region 7 with fail
      refine Reg.region_quiet (by kernel_rfl) (by kernel_rfl) ?_
      iterate 8 (first | go_big_quiet_skip | (go_big_quiet_want; (first | (go_big_quiet_op; go_big_quiet_on) | (apply Reg.quiet_run; (intro W hW; (have q0 := hW.cell e6; have q1 := hW.cell m6); go_simp; (first | done | rfl | exact ⟨rfl, rfl⟩ )); (simp only [Act.put, List.setIfInBounds_toArray, List.set_cons_zero, List.set_cons_succ]; go_big_quiet_on)) | (apply Reg.quiet_call; (intro W hW; go_simp; (first | done | rfl | exact ⟨rfl, rfl⟩)); (intro W hW; (first | fail)); (simp only [Act.put, List.setIfInBounds_toArray, List.set_cons_zero, List.set_cons_succ]; go_big_quiet_on)))))
      refine wpQuiet_nil ?_
      intro w8 hW
      have c8 := bl2 hW hbr
      replace ke := ke.later hW
      clear hW hbr e6 m6
      go_wp2_with fail
      all_goals first
        | (go_ret; exact ⟨⟨_, rfl, fun h => absurd h (by decide)⟩, c8⟩)
        | (go_roundg (gk - 1)
           case measure => omega
           case rel => exact ⟨k + 1, by omega, by go_num, ke, c8⟩)
    · clear hk
      have e1 := ke.c1
      by_cases h1 : 0 < js.length
      · obtain ⟨b, off, rfl, hc⟩ := rowat enenc_len HJ.out h1
        have hjl : js.length - 1 < js.length := by omega
        have hm1 := range_later hbr (hc (js.length - 1) hjl)
        clear hc
        obtain ⟨d, hd⟩ : ∃ d, d = js[js.length - 1]! := ⟨_, rfl⟩
        rw [← hd] at hm1
        clear hd
        have m1 : wr.cell? ⟨b, off + (js.length - 1) * 10 + 1, none⟩ = some (.int .i64 d.bo) := hm1 1 _ rfl
        have hw0 : IntKind.i64.wrap ((js.length : Int) - 1) = ((js.length - 1 : Nat) : Int) := by rw [IntKind.wrap_i64]; omega
        have g5 : decide (0 < js.length) = true := decide_eq_true h1
        have g5b : decide ((0 : Int) < (js.length : Int)) = true := decide_eq_true (by omega)
        clear hm1
        go_upto_region 9 with fail
        refine Reg.region_quiet (by kernel_rfl) (by kernel_rfl) ?_
        iterate 15 (first | go_big_quiet_skip | (go_big_quiet_want; (first | (go_big_quiet_op; go_big_quiet_on) | (apply Reg.quiet_run; (intro W hW; (have q0 := hW.cell e1; have q1 := hW.cell m1); go_simp; (first | done | rfl | exact ⟨rfl, rfl⟩ )); (simp only [Act.put, List.setIfInBounds_toArray, List.set_cons_zero, List.set_cons_succ]; go_big_quiet_on)) | (apply Reg.quiet_call; (intro W hW; go_simp; (first | done | rfl | exact ⟨rfl, rfl⟩)); (intro W hW; (first | fail)); (simp only [Act.put, List.setIfInBounds_toArray, List.set_cons_zero, List.set_cons_succ]; go_big_quiet_on)))))
        refine wpQuiet_nil ?_
        intro w8 hW
        have c8 := bl2 hW hbr
        clear hW
        go_wp2_with fail
        all_goals first
          | (go_ret; exact ⟨⟨_, rfl, fun h => absurd h (by decide)⟩, c8⟩)
          | (go_ret; exact ⟨⟨_, rfl, fun _ => HSH.out⟩, c8⟩)
      · have g5 : decide (0 < js.length) = false := decide_eq_false h1
        have g5b : decide ((0 : Int) < (js.length : Int)) = false := decide_eq_false (by omega)
        go_upto_region 9 with fail
        refine Reg.region_quiet (by kernel_rfl) (by kernel_rfl) ?_
        iterate 15 (first | go_big_quiet_skip | (go_big_quiet_want; (first | (go_big_quiet_op; go_big_quiet_on) | (apply Reg.quiet_run; (intro W hW; skip; go_simp; (first | done | rfl | exact ⟨rfl, rfl⟩ )); (simp only [Act.put, List.setIfInBounds_toArray, List.set_cons_zero, List.set_cons_succ]; go_big_quiet_on)) | (apply Reg.quiet_call; (intro W hW; go_simp; (first | done | rfl | exact ⟨rfl, rfl⟩)); (intro W hW; (first | fail)); (simp only [Act.put, List.setIfInBounds_toArray, List.set_cons_zero, List.set_cons_succ]; go_big_quiet_on)))))
        refine wpQuiet_nil ?_
        intro w8 hW
        have c8 := bl2 hW hbr
        clear hW
        go_wp2_with fail
        all_goals first
          | (go_ret; exact ⟨⟨_, rfl, fun h => absurd h (by decide)⟩, c8⟩)
          | (go_ret; exact ⟨⟨_, rfl, fun _ => HSH.out⟩, c8⟩)
theorem call_isec {P : Program} {w0 : World} {f : FuncId} {args : Array Value} {W : World} {e : En} (hS : SB w0 W) (h : Calls P f args W fun r w' => IsEc e r ∧ Below W.heap.size W w') : Calls P f args W fun e0 w' => ∃ v, e0 = .returned v ∧ (∃ n : Int, v = .int .i64 n ∧ (n = 0 → ShE e)) ∧ SB w0 w' :=
  h.mono fun _ _ ⟨⟨n, he, hn⟩, hb⟩ => ⟨_, he, ⟨n, rfl, hn⟩, bl2 hb hS⟩
theorem call_isnx {P : Program} {w0 : World} {f : FuncId} {args : Array Value} {W : World} {e : En} (hS : SB w0 W) (h : Calls P f args W fun r w' => IsNx e r ∧ Below W.heap.size W w') : Calls P f args W fun e0 w' => ∃ v, e0 = .returned v ∧ (∃ n c : Int, v = (.agg #[.int .i64 ((e.nx n c)).id, .int .i64 ((e.nx n c)).bo, .int .i64 ((e.nx n c)).va, .int .i64 ((e.nx n c)).ki, .int .i64 ((e.nx n c)).au, .int .i64 ((e.nx n c)).pe, .string ((e.nx n c)).ke, .string ((e.nx n c)).tx, .slice ((e.nx n c)).la ((e.nx n c)).lg.length ((e.nx n c)).lk, .int .u64 ((e.nx n c)).ch])) ∧ SB w0 w' :=
  h.mono fun _ _ ⟨⟨n, c, he⟩, hb⟩ => ⟨_, he, ⟨n, c, rfl⟩, bl2 hb hS⟩
set_option maxHeartbeats 64000000 in
theorem rverify20_any (ja : Option Addr) (jc : Nat) (js : List En) (w : World) (hj : js.length ≤ 100000) (hc : js.length ≤ jc) (h : RowIn enenc w ja js) (he : ∀ x ∈ js, EnIn w x) :
    Calls Tryz.prog 40 #[.slice ja js.length jc] w fun r w' => IsN r ∧ Below w.heap.size w w' := by
  have HJ := Lib.hid h
  have HE := Lib.hid he
  clear h he
  go_enter Tryz.func40, Tryz.ntmps40
  go_wp2_with fail
  go_loopg [3] js.length (CntB js.length w)
  case atStart => exact ⟨0, by omega, rfl, Below.refl _ _⟩
  case round =>
    obtain ⟨k, hk, rfl, hbr⟩ := hrel
    by_cases hlt : k < js.length
    · obtain ⟨b, off, rfl, hcc⟩ := rowat enenc_len HJ.out (by omega)
      have hm1 := range_later hbr (hcc k hlt)
      clear hcc
      have hed := HE.out js[k]! (by rw [getElem!_pos js k hlt]; exact List.getElem_mem hlt)
      obtain ⟨d, hd⟩ : ∃ d, d = js[k]! := ⟨_, rfl⟩
      rw [← hd] at hm1 hed
      clear hd
      have hkl : (js.take k).length = k := by rw [List.length_take]; omega
      have hsl := slto_en (some ⟨b, off, none⟩) js.length jc k (by omega)
      have HEX := Lib.hid (fun (W : World) (hW : Below w.heap.size w W) => (hkl ▸ rexam20_any (some ⟨b, off, none⟩) jc (js.take k) d W (by omega) (row_take k (HJ.out.later hW)) (hed.later hW) : Calls Tryz.prog 75 #[.slice (some ⟨b, off, none⟩) k jc, (.agg #[.int .i64 (d).id, .int .i64 (d).bo, .int .i64 (d).va, .int .i64 (d).ki, .int .i64 (d).au, .int .i64 (d).pe, .string (d).ke, .string (d).tx, .slice (d).la (d).lg.length (d).lk, .int .u64 (d).ch])] W fun r w' => IsEc d r ∧ Below W.heap.size W w'))
      have HNX := Lib.hid (fun (hs : ShE d) (W : World) (hW : Below w.heap.size w W) => (hkl ▸ rnext20_any (some ⟨b, off, none⟩) jc (js.take k) d W (by omega) (row_take k (HJ.out.later hW)) hed.w hs (hed.l.later hW) : Calls Tryz.prog 77 #[.slice (some ⟨b, off, none⟩) k jc, (.agg #[.int .i64 (d).id, .int .i64 (d).bo, .int .i64 (d).va, .int .i64 (d).ki, .int .i64 (d).au, .int .i64 (d).pe, .string (d).ke, .string (d).tx, .slice (d).la (d).lg.length (d).lk, .int .u64 (d).ch])] W fun r w' => IsNx d r ∧ Below W.heap.size W w'))
      have HSM := Lib.hid (fun (n c : Int) (W : World) (hW : Below w.heap.size w W) => same19_any (d.nx n c) d W hed.m.2.2.1 hed.m.2.2.1 (hed.l.later hW) (hed.l.later hW))
      clear hkl hed
      go_upto_region 4 with fail
      have hS0 : SB wr wr.drew := (Below.refl _ _).drew
      refine wp_region_held_drew (S := SB wr) (by kernel_rfl) hS0 (fun hS => ?_)
      clear hS0
      refine tk 0 (by decide) ?_ hS (by kernel_rfl) (by kernel_rfl) (by kernel_rfl) (by rfl) (fun _ _ _ h => h) ?_ ?_
      rotate_left
      · intro W hW
        clear hW
        simp only [z0, z1]
        go_simp
        first | done | with_reducible rfl
      simp only [z0, z1, Act.put, z3, z4, z5]
      refine tk 1 (by decide) ?_ hS (by kernel_rfl) (by kernel_rfl) (by kernel_rfl) (by rfl) (fun _ _ _ h => h) ?_ ?_
      rotate_left
      · intro W hW
        clear hW
        simp only [z0, z1]
        go_simp
        first | done | with_reducible rfl
      simp only [z0, z1, Act.put, z3, z4, z5]
      refine tk 2 (by decide) ?_ hS (by kernel_rfl) (by kernel_rfl) (by kernel_rfl) (by rfl) (fun _ _ _ h => h) ?_ ?_
      rotate_left
      · intro W hW
        clear hW
        simp only [z0, z1]
        go_simp
        first | done | with_reducible rfl
      simp only [z0, z1, Act.put, z3, z4, z5]
      refine tk 3 (by decide) ?_ hS (by kernel_rfl) (by kernel_rfl) (by kernel_rfl) (by rfl) (fun _ _ _ h => h) ?_ ?_
      rotate_left
      · intro W hW
        clear hW
        simp only [z0, z1]
        go_simp
        first | done | with_reducible rfl
      simp only [z0, z1, Act.put, z3, z4, z5]
      refine tk 4 (by decide) ?_ hS (by kernel_rfl) (by kernel_rfl) (by kernel_rfl) (by rfl) (fun _ _ _ h => h) ?_ ?_
      rotate_left
      · intro W hW
        clear hW
        simp only [z0, z1]
        go_simp
        first | done | with_reducible rfl
      simp only [z0, z1, Act.put, z3, z4, z5]
      refine tk 5 (by decide) ?_ hS (by kernel_rfl) (by kernel_rfl) (by kernel_rfl) (by rfl) (fun _ _ _ h => h) ?_ ?_
      rotate_left
      · intro W hW
        clear hW
        simp only [z0, z1]
        go_simp
        first | done | with_reducible rfl
      simp only [z0, z1, Act.put, z3, z4, z5]
      refine take_at 6 (by decide) (by kernel_rfl) (by kernel_rfl) (by kernel_rfl) (fun _ _ _ h => h) hS (yieldsIf_load_mid (by rfl) 39 (.tmp 15) rfl _ _ rfl [.int .i64 (d).id, .int .i64 (d).bo, .int .i64 (d).va, .int .i64 (d).ki, .int .i64 (d).au, .int .i64 (d).pe, .string (d).ke, .string (d).tx, .slice (d).la (d).lg.length (d).lk, .int .u64 (d).ch] _ (fun W hW => range_later hW hm1) Tryz.underlying39 rfl (by kernel_rfl)) ?_
      simp only [z0, z1, Act.put, z3, z4, z5]
      refine call_at 7 (by decide) (Pi := fun v _ => ∃ n : Int, v = .int .i64 n ∧ (n = 0 → ShE d)) (by kernel_rfl) (by rfl) (by simp only [z0, z1]; go_simp; first | done | rfl | exact ⟨rfl, rfl⟩ | exact ⟨rfl, rfl, rfl⟩ | exact ⟨rfl, rfl, rfl, rfl⟩) (call_isec hS (HEX.out _ (bl2 hS hbr))) ?_
      clear hS
      rintro w9 u hS ⟨n, rfl, hn⟩
      simp only [z0, z1, Act.put, z3, z4, z5]
      by_cases h0 : n = 0
      · have g0 : (n != 0) = false := by rw [h0]; rfl
        have HSH := Lib.hid (hn h0)
        clear h0 hn
        refine tk 8 (by decide) ?_ hS (by kernel_rfl) (by kernel_rfl) (by kernel_rfl) (by rfl) (fun _ _ _ h => h) ?_ ?_
        rotate_left
        · intro W hW
          clear hW
          simp only [z0, z1]
          go_simp
          first | done | with_reducible rfl
        simp only [z0, z1, Act.put, z3, z4, z5]
        refine tk 9 (by decide) ?_ hS (by kernel_rfl) (by kernel_rfl) (by kernel_rfl) (by rfl) (fun _ _ _ h => h) ?_ ?_
        rotate_left
        · intro W hW
          clear hW
          simp only [z0, z1]
          go_simp
          first | done | with_reducible rfl
        simp only [z0, z1, Act.put, z3, z4, z5]
        refine tk 10 (by decide) ?_ hS (by kernel_rfl) (by kernel_rfl) (by kernel_rfl) (by rfl) (fun _ _ _ h => h) ?_ ?_
        rotate_left
        · intro W hW
          clear hW
          simp only [z0, z1]
          go_simp
          first | done | with_reducible rfl
        simp only [z0, z1, Act.put, z3, z4, z5]
        refine tk 11 (by decide) ?_ hS (by kernel_rfl) (by kernel_rfl) (by kernel_rfl) (by rfl) (fun _ _ _ h => h) ?_ ?_
        rotate_left
        · intro W hW
          clear hW
          simp only [z0, z1]
          go_simp
          first | done | with_reducible rfl
        simp only [z0, z1, Act.put, z3, z4, z5]
        refine tk 12 (by decide) ?_ hS (by kernel_rfl) (by kernel_rfl) (by kernel_rfl) (by rfl) (fun _ _ _ h => h) ?_ ?_
        rotate_left
        · intro W hW
          clear hW
          simp only [z0, z1]
          go_simp
          first | done | with_reducible rfl
        simp only [z0, z1, Act.put, z3, z4, z5]
        refine tk 13 (by decide) ?_ hS (by kernel_rfl) (by kernel_rfl) (by kernel_rfl) (by rfl) (fun _ _ _ h => h) ?_ ?_
        rotate_left
        · intro W hW
          clear hW
          simp only [z0, z1]
          go_simp
          first | done | with_reducible rfl
        simp only [z0, z1, Act.put, z3, z4, z5]
        refine tk 14 (by decide) ?_ hS (by kernel_rfl) (by kernel_rfl) (by kernel_rfl) (by rfl) (fun _ _ _ h => h) ?_ ?_
        rotate_left
        · intro W hW
          clear hW
          simp only [z0, z1]
          go_simp
          first | done | with_reducible rfl
        simp only [z0, z1, Act.put, z3, z4, z5]
        refine tk 15 (by decide) ?_ hS (by kernel_rfl) (by kernel_rfl) (by kernel_rfl) (by rfl) (fun _ _ _ h => h) ?_ ?_
        rotate_left
        · intro W hW
          clear hW
          simp only [z0, z1]
          go_simp
          first | done | with_reducible rfl
        simp only [z0, z1, Act.put, z3, z4, z5]
        refine take_at 16 (by decide) (by kernel_rfl) (by kernel_rfl) (by kernel_rfl) (fun _ _ _ h => h) hS (yieldsIf_load_mid (by rfl) 39 (.tmp 25) rfl _ _ rfl [.int .i64 (d).id, .int .i64 (d).bo, .int .i64 (d).va, .int .i64 (d).ki, .int .i64 (d).au, .int .i64 (d).pe, .string (d).ke, .string (d).tx, .slice (d).la (d).lg.length (d).lk, .int .u64 (d).ch] _ (fun W hW => range_later hW hm1) Tryz.underlying39 rfl (by kernel_rfl)) ?_
        simp only [z0, z1, Act.put, z3, z4, z5]
        refine tk 18 (by decide) ?_ hS (by kernel_rfl) (by kernel_rfl) (by kernel_rfl) (by rfl) (fun _ _ _ h => h) ?_ ?_
        rotate_left
        · intro W hW
          clear hW
          simp only [z0, z1]
          go_simp
          first | done | with_reducible rfl
        simp only [z0, z1, Act.put, z3, z4, z5]
        refine tk 19 (by decide) ?_ hS (by kernel_rfl) (by kernel_rfl) (by kernel_rfl) (by rfl) (fun _ _ _ h => h) ?_ ?_
        rotate_left
        · intro W hW
          clear hW
          simp only [z0, z1]
          go_simp
          first | done | with_reducible rfl
        simp only [z0, z1, Act.put, z3, z4, z5]
        refine tk 20 (by decide) ?_ hS (by kernel_rfl) (by kernel_rfl) (by kernel_rfl) (by rfl) (fun _ _ _ h => h) ?_ ?_
        rotate_left
        · intro W hW
          clear hW
          simp only [z0, z1]
          go_simp
          first | done | with_reducible rfl
        simp only [z0, z1, Act.put, z3, z4, z5]
        refine take_at 21 (by decide) (by kernel_rfl) (by kernel_rfl) (by kernel_rfl) (fun _ _ _ h => h) hS (yieldsIf_load_mid (by rfl) 39 (.tmp 30) rfl _ _ rfl [.int .i64 (d).id, .int .i64 (d).bo, .int .i64 (d).va, .int .i64 (d).ki, .int .i64 (d).au, .int .i64 (d).pe, .string (d).ke, .string (d).tx, .slice (d).la (d).lg.length (d).lk, .int .u64 (d).ch] _ (fun W hW => range_later hW hm1) Tryz.underlying39 rfl (by kernel_rfl)) ?_
        simp only [z0, z1, Act.put, z3, z4, z5]
        refine call_at 17 (by decide) (Pi := fun v _ => ∃ n c : Int, v = (.agg #[.int .i64 ((d.nx n c)).id, .int .i64 ((d.nx n c)).bo, .int .i64 ((d.nx n c)).va, .int .i64 ((d.nx n c)).ki, .int .i64 ((d.nx n c)).au, .int .i64 ((d.nx n c)).pe, .string ((d.nx n c)).ke, .string ((d.nx n c)).tx, .slice ((d.nx n c)).la ((d.nx n c)).lg.length ((d.nx n c)).lk, .int .u64 ((d.nx n c)).ch])) (by kernel_rfl) (by rfl) (by simp only [z0, z1]; go_simp; first | done | rfl | exact ⟨rfl, rfl⟩ | exact ⟨rfl, rfl, rfl⟩ | exact ⟨rfl, rfl, rfl, rfl⟩) (call_isnx hS (HNX.out HSH.out _ (bl2 hS hbr))) ?_
        clear hS
        rintro w10 u hS ⟨n2, c2, rfl⟩
        simp only [z0, z1, Act.put, z3, z4, z5]
        refine call_at 22 (by decide) (Pi := fun v _ => ∃ q : Bool, v = .bool q) (by kernel_rfl) (by rfl) (by simp only [z0, z1]; go_simp; first | done | rfl | exact ⟨rfl, rfl⟩ | exact ⟨rfl, rfl, rfl⟩ | exact ⟨rfl, rfl, rfl, rfl⟩) (call_isb2 hS (HSM.out n2 c2 _ (bl2 hS hbr))) ?_
        clear hS
        rintro w11 u hS ⟨q, rfl⟩
        simp only [z0, z1, Act.put, z3, z4, z5]
        refine tk 23 (by decide) ?_ hS (by kernel_rfl) (by kernel_rfl) (by kernel_rfl) (by rfl) (fun _ _ _ h => h) ?_ ?_
        rotate_left
        · intro W hW
          clear hW
          simp only [z0, z1]
          go_simp
          first | done | with_reducible rfl
        simp only [z0, z1, Act.put, z3, z4, z5]
        refine tk 24 (by decide) ?_ hS (by kernel_rfl) (by kernel_rfl) (by kernel_rfl) (by rfl) (fun _ _ _ h => h) ?_ ?_
        rotate_left
        · intro W hW
          clear hW
          simp only [z0, z1]
          go_simp
          first | done | with_reducible rfl
        simp only [z0, z1, Act.put, z3, z4, z5]
        refine wpAnyH_done (by kernel_rfl) ?_ _
        have c9 := bl2 hS hbr
        clear hS hbr
        cases q
        all_goals go_wp2_with fail
        all_goals first
          | (go_ret; exact ⟨⟨_, rfl⟩, c9⟩)
          | (go_roundg (gk - 1)
             case measure => omega
             case rel => exact ⟨k + 1, by omega, by go_num, c9⟩)
      · have g0 : (n != 0) = true := bne_iff_ne.2 h0
        clear h0 hn
        refine tk 8 (by decide) ?_ hS (by kernel_rfl) (by kernel_rfl) (by kernel_rfl) (by rfl) (fun _ _ _ h => h) ?_ ?_
        rotate_left
        · intro W hW
          clear hW
          simp only [z0, z1]
          go_simp
          first | done | with_reducible rfl
        simp only [z0, z1, Act.put, z3, z4, z5]
        refine tk 9 (by decide) ?_ hS (by kernel_rfl) (by kernel_rfl) (by kernel_rfl) (by rfl) (fun _ _ _ h => h) ?_ ?_
        rotate_left
        · intro W hW
          clear hW
          simp only [z0, z1]
          go_simp
          first | done | with_reducible rfl
        simp only [z0, z1, Act.put, z3, z4, z5]
        refine ts 10 (by decide) hS (by kernel_rfl) (by kernel_rfl) (by kernel_rfl) (by rfl) (fun _ _ _ h => h) ?_
        simp only [z0, z1, Act.put, z3, z4, z5]
        refine ts 11 (by decide) hS (by kernel_rfl) (by kernel_rfl) (by kernel_rfl) (by rfl) (fun _ _ _ h => h) ?_
        simp only [z0, z1, Act.put, z3, z4, z5]
        refine ts 12 (by decide) hS (by kernel_rfl) (by kernel_rfl) (by kernel_rfl) (by rfl) (fun _ _ _ h => h) ?_
        simp only [z0, z1, Act.put, z3, z4, z5]
        refine ts 13 (by decide) hS (by kernel_rfl) (by kernel_rfl) (by kernel_rfl) (by rfl) (fun _ _ _ h => h) ?_
        simp only [z0, z1, Act.put, z3, z4, z5]
        refine ts 14 (by decide) hS (by kernel_rfl) (by kernel_rfl) (by kernel_rfl) (by rfl) (fun _ _ _ h => h) ?_
        simp only [z0, z1, Act.put, z3, z4, z5]
        refine ts 15 (by decide) hS (by kernel_rfl) (by kernel_rfl) (by kernel_rfl) (by rfl) (fun _ _ _ h => h) ?_
        simp only [z0, z1, Act.put, z3, z4, z5]
        refine ts 16 (by decide) hS (by kernel_rfl) (by kernel_rfl) (by kernel_rfl) (by rfl) (fun _ _ _ h => h) ?_
        simp only [z0, z1, Act.put, z3, z4, z5]
        refine ts 17 (by decide) hS (by kernel_rfl) (by kernel_rfl) (by kernel_rfl) (by rfl) (fun _ _ _ h => h) ?_
        simp only [z0, z1, Act.put, z3, z4, z5]
        refine ts 18 (by decide) hS (by kernel_rfl) (by kernel_rfl) (by kernel_rfl) (by rfl) (fun _ _ _ h => h) ?_
        simp only [z0, z1, Act.put, z3, z4, z5]
        refine ts 19 (by decide) hS (by kernel_rfl) (by kernel_rfl) (by kernel_rfl) (by rfl) (fun _ _ _ h => h) ?_
        simp only [z0, z1, Act.put, z3, z4, z5]
        refine ts 20 (by decide) hS (by kernel_rfl) (by kernel_rfl) (by kernel_rfl) (by rfl) (fun _ _ _ h => h) ?_
        simp only [z0, z1, Act.put, z3, z4, z5]
        refine ts 21 (by decide) hS (by kernel_rfl) (by kernel_rfl) (by kernel_rfl) (by rfl) (fun _ _ _ h => h) ?_
        simp only [z0, z1, Act.put, z3, z4, z5]
        refine ts 22 (by decide) hS (by kernel_rfl) (by kernel_rfl) (by kernel_rfl) (by rfl) (fun _ _ _ h => h) ?_
        simp only [z0, z1, Act.put, z3, z4, z5]
        refine ts 23 (by decide) hS (by kernel_rfl) (by kernel_rfl) (by kernel_rfl) (by rfl) (fun _ _ _ h => h) ?_
        simp only [z0, z1, Act.put, z3, z4, z5]
        refine tk 24 (by decide) ?_ hS (by kernel_rfl) (by kernel_rfl) (by kernel_rfl) (by rfl) (fun _ _ _ h => h) ?_ ?_
        rotate_left
        · intro W hW
          clear hW
          simp only [z0, z1]
          go_simp
          first | done | with_reducible rfl
        simp only [z0, z1, Act.put, z3, z4, z5]
        refine wpAnyH_done (by kernel_rfl) ?_ _
        have c9 := bl2 hS hbr
        clear hS hbr
        go_wp2_with fail
        (go_ret; exact ⟨⟨_, rfl⟩, c9⟩)
    · go_wp2_with fail
      (go_ret; exact ⟨⟨_, rfl⟩, hbr⟩)
end Go.Proofs.YtjhpiclnpmdjnaaGreatDoor.Bm
