/-
  Parts of the proof: Y3, Y4.
-/
import Derived.Test.YtjhpiclnpmdjnaaGreatDoorQ28
import Derived.Test.YtjhpiclnpmdjnaaGreatDoorQ06
namespace Go.Proofs.YtjhpiclnpmdjnaaGreatDoor.Bm
open Go Go.RowKit
open Go.Proofs.YtjhpiclnpmdjnaaGreatDoor
open Go.Proofs.YtjhpiclnpmdjnaaGreatDoor.Kl (byt byt_get)
open Go.Proofs.YtjhpiclnpmdjnaaGreatDoor.Ln (SB tk ts z0 z1 z3 z4 z5 take_at call_at flat flat_len flat_get flat_mem RowIn OwnR Idx bl2 results2_cell Blk_setRow_same Blk_setRow_ne Below_setRow)
set_option linter.unusedSimpArgs false
set_option linter.unusedVariables false
set_option maxRecDepth 100000
theorem call_isb {P : Program} {S : World → Prop} {f : FuncId} {args : Array Value} {W : World} (hS : S W) (h : Calls P f args W fun e w' => IsB e ∧ W = w') : Calls P f args W fun e w' => ∃ v, e = .returned v ∧ (∃ q : Bool, v = .bool q) ∧ S w' :=
  h.mono fun _ _ ⟨⟨q, he⟩, hb⟩ => ⟨_, he, ⟨q, rfl⟩, hb ▸ hS⟩
theorem call_isn {P : Program} {w0 : World} {f : FuncId} {args : Array Value} {W : World} (hS : SB w0 W) (h : Calls P f args W fun e w' => IsN e ∧ Below W.heap.size W w') : Calls P f args W fun e w' => ∃ v, e = .returned v ∧ (∃ q : Int, v = .int .i64 q) ∧ SB w0 w' :=
  h.mono fun _ _ ⟨⟨q, he⟩, hb⟩ => ⟨_, he, ⟨q, rfl⟩, bl2 hb hS⟩
set_option maxHeartbeats 8000000 in
theorem rchk03_any (a : Option Addr) (cap : Nat) (l : List Cu) (w : World) (hl : l.length ≤ maxLen) (h : RowIn cuenc w a l) (hs : ∀ x ∈ l, x.cd.size ≤ maxLen) :
    Calls Tryz.prog 13 #[.slice a l.length cap] w fun e w' => IsN e ∧ Below w.heap.size w w' := by
  have H := Lib.hid h
  have HS := Lib.hid hs
  have hm : l.length ≤ 9223372036854775807 := by unfold maxLen at hl; omega
  clear hl h hs
  go_enter Tryz.func13, Tryz.ntmps13
  go_wp2_with fail
  all_goals first
    | (go_ret; exact ⟨⟨_, rfl⟩, Below.refl _ _⟩)
    | skip
  go_loopg [3] l.length (CntB l.length w)
  case atStart => exact ⟨0, by omega, rfl, Below.refl _ _⟩
  case round =>
    obtain ⟨k, hk, rfl, hbr⟩ := hrel
    by_cases hlt : k < l.length
    · obtain ⟨b, off, rfl, hc⟩ := rowat cuenc_len H.out (by omega)
      have HC := Lib.hid (fun (j : Nat) (hj : j < l.length) => range_later hbr (hc j hj))
      clear hc
      have hm1 := HC.out k hlt
      have hsz := HS.out l[k]! (by rw [getElem!_pos l k hlt]; exact List.getElem_mem hlt)
      obtain ⟨d, hd⟩ : ∃ d, d = l[k]! := ⟨_, rfl⟩
      rw [← hd] at hm1 hsz
      clear hd
      have m0 : wr.cell? ⟨b, off + k * 2, none⟩ = some (.string d.cd) := hm1 0 _ rfl
      have m1 : wr.cell? ⟨b, off + k * 2 + 1, none⟩ = some (.int .i64 d.dg) := hm1 1 _ rfl
      have HSZ := Lib.hid hsz
      clear hsz hm1
      go_wp2_with fail
      refine (Kl.rcode_any d.cd _ HSZ.out).mono ?_
      rintro e w' ⟨rfl, rfl⟩
      generalize Kl.codeB d.cd = q
      cases q
      · go_wp2_with fail
        (go_ret; exact ⟨⟨_, rfl⟩, hbr⟩)
      by_cases d0 : d.dg < 0
      · go_wp2_with fail
        (go_ret; exact ⟨⟨_, rfl⟩, hbr⟩)
      by_cases d1 : 4 < d.dg
      · go_wp2_with fail
        (go_ret; exact ⟨⟨_, rfl⟩, hbr⟩)
      go_upto_region 10 with fail
      by_cases h0 : k = 0
      · have g0 : decide (0 < k) = false := decide_eq_false (by omega)
        have g0b : decide ((0 : Int) < (k : Int)) = false := decide_eq_false (by omega)
        clear h0
        refine Reg.region_quiet (by kernel_rfl) (by kernel_rfl) ?_
        iterate 16 (first | go_big_quiet_skip | (go_big_quiet_want; (first | (go_big_quiet_op; go_big_quiet_on) | (apply Reg.quiet_run; (intro W hW; skip; go_simp; (first | done | rfl | exact ⟨rfl, rfl⟩ )); (simp only [Act.put, List.setIfInBounds_toArray, List.set_cons_zero, List.set_cons_succ]; go_big_quiet_on)) | (apply Reg.quiet_call; (intro W hW; go_simp; (first | done | rfl | exact ⟨rfl, rfl⟩)); (intro W hW; (first | fail)); (simp only [Act.put, List.setIfInBounds_toArray, List.set_cons_zero, List.set_cons_succ]; go_big_quiet_on)))))
        refine wpQuiet_nil ?_
        intro w8 hW
        have c8 := bl2 hW hbr
        go_wp2_with fail
        all_goals first
          | (go_ret; exact ⟨⟨_, rfl⟩, c8⟩)
          | (go_roundg (gk - 1)
             case measure => omega
             case rel => exact ⟨k + 1, by omega, by go_num, c8⟩)
      · have g0 : decide (0 < k) = true := decide_eq_true (by omega)
        have g0b : decide ((0 : Int) < (k : Int)) = true := decide_eq_true (by omega)
        have hw0 : IntKind.i64.wrap ((k : Int) - 1) = ((k - 1 : Nat) : Int) := by rw [IntKind.wrap_i64]; omega
        have i3 : k - 1 < l.length := by omega
        have hm2 := HC.out (k - 1) i3
        obtain ⟨d2, hd2⟩ : ∃ d2, d2 = l[k - 1]! := ⟨_, rfl⟩
        rw [← hd2] at hm2
        clear hd2 h0
        have p0 : wr.cell? ⟨b, off + (k - 1) * 2, none⟩ = some (.string d2.cd) := hm2 0 _ rfl
        clear hm2
        refine Reg.region_quiet (by kernel_rfl) (by kernel_rfl) ?_
        iterate 16 (first | go_big_quiet_skip | (go_big_quiet_want; (first | (go_big_quiet_op; go_big_quiet_on) | (apply Reg.quiet_run; (intro W hW; (have q0 := hW.cell m0; have q1 := hW.cell p0); go_simp; (first | done | rfl | exact ⟨rfl, rfl⟩ )); (simp only [Act.put, List.setIfInBounds_toArray, List.set_cons_zero, List.set_cons_succ]; go_big_quiet_on)) | (apply Reg.quiet_call; (intro W hW; go_simp; (first | done | rfl | exact ⟨rfl, rfl⟩)); (intro W hW; (first | fail)); (simp only [Act.put, List.setIfInBounds_toArray, List.set_cons_zero, List.set_cons_succ]; go_big_quiet_on)))))
        refine wpQuiet_nil ?_
        intro w8 hW
        have c8 := bl2 hW hbr
        go_wp2_with fail
        all_goals first
          | (go_ret; exact ⟨⟨_, rfl⟩, c8⟩)
          | (go_roundg (gk - 1)
             case measure => omega
             case rel => exact ⟨k + 1, by omega, by go_num, c8⟩)
    · go_wp2_with fail
      (go_ret; exact ⟨⟨_, rfl⟩, hbr⟩)
set_option maxHeartbeats 8000000 in
theorem rcals_any (a : Option Addr) (cap : Nat) (l : List ClS) (w : World) (hl : l.length ≤ maxLen) (h : RowIn clenc w a l) (hs : ∀ x ∈ l, Kl.CalIn w x.c x.wa x.ha) :
    Calls Tryz.prog 14 #[.slice a l.length cap] w fun e w' => IsN e ∧ Below w.heap.size w w' := by
  have H := Lib.hid h
  have HS := Lib.hid hs
  have hm : l.length ≤ 9223372036854775807 := by unfold maxLen at hl; omega
  clear hl h hs
  go_enter Tryz.func14, Tryz.ntmps14
  go_wp2_with fail
  go_loopg [3] l.length (CntB l.length w)
  case atStart => exact ⟨0, by omega, rfl, Below.refl _ _⟩
  case round =>
    obtain ⟨k, hk, rfl, hbr⟩ := hrel
    by_cases hlt : k < l.length
    · obtain ⟨b, off, rfl, hc⟩ := rowat clenc_len H.out (by omega)
      have HC := Lib.hid (fun (j : Nat) (hj : j < l.length) => range_later hbr (hc j hj))
      clear hc
      have hm1 := HC.out k hlt
      have hsz := (HS.out l[k]! (by rw [getElem!_pos l k hlt]; exact List.getElem_mem hlt)).later hbr
      obtain ⟨d, hd⟩ : ∃ d, d = l[k]! := ⟨_, rfl⟩
      rw [← hd] at hm1 hsz
      clear hd
      have m0 : wr.cell? ⟨b, off + k * 3, none⟩ = some (.string d.c.nm) := hm1 0 _ rfl
      have HSZ := Lib.hid hsz
      clear hsz
      go_wp2_with ((refine wpList_load_mid rfl 55 _ rfl _ (off + k * 3) (by first | rfl | simp) ([.string (d).c.nm, .slice (d).wa (d).c.wk.length (d).wc, .slice (d).ha (d).c.hol.length (d).hc]) _ (hm1) Tryz.underlying55 rfl (by kernel_rfl) ?_))
      refine (Kl.rclchk_any d.c d.wa d.ha d.wc d.hc _ HSZ.out).mono ?_
      rintro e w2 ⟨rfl, hb⟩
      have c2 := bl2 hb hbr
      generalize Kl.clE d.c = q
      replace m0 := cell_later hb m0
      have HC2 := Lib.hid (fun (j : Nat) (hj : j < l.length) => range_later hb (HC.out j hj))
      clear hb hbr hm1 HC
      by_cases hq : q = 0
      · have hq0 : (q != 0) = false := by rw [hq]; rfl
        clear hq
        go_upto_region 7 with fail
        by_cases h0 : k = 0
        · have g0 : decide (0 < k) = false := decide_eq_false (by omega)
          have g0b : decide ((0 : Int) < (k : Int)) = false := decide_eq_false (by omega)
          clear h0
          refine Reg.region_quiet (by kernel_rfl) (by kernel_rfl) ?_
          iterate 16 (first | go_big_quiet_skip | (go_big_quiet_want; (first | (go_big_quiet_op; go_big_quiet_on) | (apply Reg.quiet_run; (intro W hW; skip; go_simp; (first | done | rfl | exact ⟨rfl, rfl⟩ )); (simp only [Act.put, List.setIfInBounds_toArray, List.set_cons_zero, List.set_cons_succ]; go_big_quiet_on)) | (apply Reg.quiet_call; (intro W hW; go_simp; (first | done | rfl | exact ⟨rfl, rfl⟩)); (intro W hW; (first | fail)); (simp only [Act.put, List.setIfInBounds_toArray, List.set_cons_zero, List.set_cons_succ]; go_big_quiet_on)))))
          refine wpQuiet_nil ?_
          intro w8 hW
          have c8 := bl2 hW c2
          go_wp2_with fail
          all_goals first
            | (go_ret; exact ⟨⟨_, rfl⟩, c8⟩)
            | (go_roundg (gk - 1)
               case measure => omega
               case rel => exact ⟨k + 1, by omega, by go_num, c8⟩)
        · have g0 : decide (0 < k) = true := decide_eq_true (by omega)
          have g0b : decide ((0 : Int) < (k : Int)) = true := decide_eq_true (by omega)
          have hw0 : IntKind.i64.wrap ((k : Int) - 1) = ((k - 1 : Nat) : Int) := by rw [IntKind.wrap_i64]; omega
          have i3 : k - 1 < l.length := by omega
          have hm2 := HC2.out (k - 1) i3
          obtain ⟨d2, hd2⟩ : ∃ d2, d2 = l[k - 1]! := ⟨_, rfl⟩
          rw [← hd2] at hm2
          clear hd2 h0
          have p0 : w2.cell? ⟨b, off + (k - 1) * 3, none⟩ = some (.string d2.c.nm) := hm2 0 _ rfl
          clear hm2
          refine Reg.region_quiet (by kernel_rfl) (by kernel_rfl) ?_
          iterate 16 (first | go_big_quiet_skip | (go_big_quiet_want; (first | (go_big_quiet_op; go_big_quiet_on) | (apply Reg.quiet_run; (intro W hW; (have q0 := hW.cell m0; have q1 := hW.cell p0); go_simp; (first | done | rfl | exact ⟨rfl, rfl⟩ )); (simp only [Act.put, List.setIfInBounds_toArray, List.set_cons_zero, List.set_cons_succ]; go_big_quiet_on)) | (apply Reg.quiet_call; (intro W hW; go_simp; (first | done | rfl | exact ⟨rfl, rfl⟩)); (intro W hW; (first | fail)); (simp only [Act.put, List.setIfInBounds_toArray, List.set_cons_zero, List.set_cons_succ]; go_big_quiet_on)))))
          refine wpQuiet_nil ?_
          intro w8 hW
          have c8 := bl2 hW c2
          go_wp2_with fail
          all_goals first
            | (go_ret; exact ⟨⟨_, rfl⟩, c8⟩)
            | (go_roundg (gk - 1)
               case measure => omega
               case rel => exact ⟨k + 1, by omega, by go_num, c8⟩)
      · have hq0 : (q != 0) = true := bne_iff_ne.2 hq
        go_wp2_with fail
        (go_ret; exact ⟨⟨_, rfl⟩, c2⟩)
    · go_wp2_with fail
      (go_ret; exact ⟨⟨_, rfl⟩, hbr⟩)
set_option maxHeartbeats 8000000 in
theorem rone22_any (d : Hd) (w : World) (hs : d.ke.size ≤ maxLen) : Calls Tryz.prog 42 #[(.agg #[.int .i64 (d).id, .int .i64 (d).ac, .int .i64 (d).am, .int .i64 (d).fr, .int .i64 (d).too, .string (d).ke])] w fun e w' => IsN e ∧ Below w.heap.size w w' := by
  have HS := Lib.hid hs
  clear hs
  have cw : Below w.heap.size w (w.alloc (.cells #[.int .i64 (d).id, .int .i64 (d).ac, .int .i64 (d).am, .int .i64 (d).fr, .int .i64 (d).too, .string (d).ke] 101)) := Bk.be
  have kh : Bk.Blk (w.alloc (.cells #[.int .i64 (d).id, .int .i64 (d).ac, .int .i64 (d).am, .int .i64 (d).fr, .int .i64 (d).too, .string (d).ke] 101)) w.heap.size _ 101 := Bk.Blk.nw10
  go_enter Tryz.func42, Tryz.ntmps42
  go_upto_region 1 with fail
  generalize (w.alloc (.cells _ 101)) = w1 at *
  have m0 := kh.c0
  have m1 := kh.c1
  have m2 := kh.c2
  have m3 := kh.c3
  have m4 := kh.c4
  have m5 := kh.c5
  go_wp2_with fail
  all_goals first
    | (go_ret; exact ⟨⟨_, rfl⟩, cw⟩)
    | skip
  refine (valid04_any _ _).mono ?_
  rintro e w' ⟨⟨q, rfl⟩, rfl⟩
  cases q
  all_goals go_wp2_with fail
  all_goals first
    | (go_ret; exact ⟨⟨_, rfl⟩, cw⟩)
    | skip
  refine (valid04_any _ _).mono ?_
  rintro e w' ⟨⟨q, rfl⟩, rfl⟩
  cases q
  all_goals go_wp2_with fail
  all_goals first
    | (go_ret; exact ⟨⟨_, rfl⟩, cw⟩)
    | skip
  refine (key07_any _ _ HS.out).mono ?_
  rintro e w' ⟨⟨q, rfl, -⟩, rfl⟩
  cases q
  all_goals go_wp2_with fail
  all_goals (go_ret; exact ⟨⟨_, rfl⟩, cw⟩)
set_option maxHeartbeats 16000000 in
theorem rchk22_any (a : Option Addr) (cap : Nat) (l : List Hd) (w : World) (hl : l.length ≤ maxLen) (hcap : l.length ≤ cap) (h : RowIn hdenc w a l) (hs : ∀ x ∈ l, x.ke.size ≤ maxLen) :
    Calls Tryz.prog 19 #[.slice a l.length cap] w fun e w' => IsN e ∧ Below w.heap.size w w' := by
  have H := Lib.hid h
  have HS := Lib.hid hs
  have HL := Lib.hid hl
  have hm : l.length ≤ 9223372036854775807 := by unfold maxLen at hl; omega
  clear hl h hs
  go_enter Tryz.func19, Tryz.ntmps19
  go_wp2_with fail
  all_goals first
    | (go_ret; exact ⟨⟨_, rfl⟩, Below.refl _ _⟩)
    | skip
  go_loopg [3] l.length (CntB l.length w)
  case atStart => exact ⟨0, by omega, rfl, Below.refl _ _⟩
  case round =>
    obtain ⟨k, hk, rfl, hbr⟩ := hrel
    by_cases hlt : k < l.length
    · obtain ⟨b, off, rfl, hc⟩ := rowat hdenc_len H.out (by omega)
      have HC := Lib.hid (fun (j : Nat) (hj : j < l.length) => range_later hbr (hc j hj))
      clear hc
      have hm1 := HC.out k hlt
      have hsz := HS.out l[k]! (by rw [getElem!_pos l k hlt]; exact List.getElem_mem hlt)
      obtain ⟨d, hd⟩ : ∃ d, d = l[k]! := ⟨_, rfl⟩
      rw [← hd] at hm1 hsz
      clear hd
      have m0 : wr.cell? ⟨b, off + k * 6, none⟩ = some (.int .i64 d.id) := hm1 0 _ rfl
      have m5 : wr.cell? ⟨b, off + k * 6 + 5, none⟩ = some (.string d.ke) := hm1 5 _ rfl
      have HSZ := Lib.hid hsz
      clear hsz
      go_wp2_with ((refine wpList_load_mid rfl 101 _ rfl _ (off + k * 6) (by first | rfl | simp) ([.int .i64 (d).id, .int .i64 (d).ac, .int .i64 (d).am, .int .i64 (d).fr, .int .i64 (d).too, .string (d).ke]) _ (hm1) Tryz.underlying101 rfl (by kernel_rfl) ?_))
      refine (rone22_any d _ HSZ.out).mono ?_
      rintro e w2 ⟨⟨q, rfl⟩, hb⟩
      have c2 := bl2 hb hbr
      replace m0 := cell_later hb m0
      replace m5 := cell_later hb m5
      have HC2 := Lib.hid (fun (j : Nat) (hj : j < l.length) => range_later hb (HC.out j hj))
      clear hb hbr hm1 HC
      have HN := Lib.hid (fun (W : World) (hW : Below w.heap.size w W) => rnamed_any (some ⟨b, off, none⟩) cap (l.take k) d.ke W (by have := HL.out; rw [List.length_take]; omega) (row_take k (H.out.later hW)))
      by_cases hq : q = 0
      · have hq0 : (q != 0) = false := by rw [hq]; rfl
        clear hq
        go_upto_region 9 with fail
        by_cases h0 : k = 0
        · have g0 : decide (0 < k) = false := decide_eq_false (by omega)
          have g0b : decide ((0 : Int) < (k : Int)) = false := decide_eq_false (by omega)
          clear h0
          refine Reg.region_quiet (by kernel_rfl) (by kernel_rfl) ?_
          iterate 16 (first | go_big_quiet_skip | (go_big_quiet_want; (first | (go_big_quiet_op; go_big_quiet_on) | (apply Reg.quiet_run; (intro W hW; skip; go_simp; (first | done | rfl | exact ⟨rfl, rfl⟩ )); (simp only [Act.put, List.setIfInBounds_toArray, List.set_cons_zero, List.set_cons_succ]; go_big_quiet_on)) | (apply Reg.quiet_call; (intro W hW; go_simp; (first | done | rfl | exact ⟨rfl, rfl⟩)); (intro W hW; (first | fail)); (simp only [Act.put, List.setIfInBounds_toArray, List.set_cons_zero, List.set_cons_succ]; go_big_quiet_on)))))
          refine wpQuiet_nil ?_
          intro w8 hW
          have c8 := bl2 hW c2
          go_wp2_with fail
          all_goals first
            | (go_ret; exact ⟨⟨_, rfl⟩, c8⟩)
            | skip
          replace m5 := cell_later hW m5
          have hsl := slto_hd (some ⟨b, off, none⟩) l.length cap k (by omega)
          have hkl : (l.take k).length = k := by rw [List.length_take]; omega
          have HNB := Lib.hid (hkl ▸ fun W hW => HN.out W hW : ∀ W : World, Below w.heap.size w W → Calls Tryz.prog 43 #[.slice (some ⟨b, off, none⟩) k cap, .string d.ke] W fun e w' => IsB e ∧ W = w')
          clear hkl HN
          go_upto_region 11 with fail
          have hS0 : SB w8 w8.drew := (Below.refl _ _).drew
          refine wp_region_held_drew (S := SB w8) (by kernel_rfl) hS0 (fun hS => ?_)
          clear hS0
          refine tk 0 (by decide) ?_ hS (by kernel_rfl) (by kernel_rfl) (by kernel_rfl) (by rfl) (fun _ _ _ h => h) ?_ ?_
          rotate_left
          · intro W hW
            clear hW
            simp only [z0, z1]
            go_simp
            first | done | with_reducible rfl
          simp only [z0, z1, Act.put, z3, z4, z5]
          refine tk 1 (by decide) ?_ hS (by kernel_rfl) (by kernel_rfl) (by kernel_rfl) (by rfl) (fun _ _ _ h => h) ?_ ?_
          rotate_left
          · intro W hW
            clear hW
            simp only [z0, z1]
            go_simp
            first | done | with_reducible rfl
          simp only [z0, z1, Act.put, z3, z4, z5]
          refine tk 2 (by decide) ?_ hS (by kernel_rfl) (by kernel_rfl) (by kernel_rfl) (by rfl) (fun _ _ _ h => h) ?_ ?_
          rotate_left
          · intro W hW
            clear hW
            simp only [z0, z1]
            go_simp
            first | done | with_reducible rfl
          simp only [z0, z1, Act.put, z3, z4, z5]
          refine tk 3 (by decide) ?_ hS (by kernel_rfl) (by kernel_rfl) (by kernel_rfl) (by rfl) (fun _ _ _ h => h) ?_ ?_
          rotate_left
          · intro W hW
            clear hW
            simp only [z0, z1]
            go_simp
            first | done | with_reducible rfl
          simp only [z0, z1, Act.put, z3, z4, z5]
          refine tk 4 (by decide) ?_ hS (by kernel_rfl) (by kernel_rfl) (by kernel_rfl) (by rfl) (fun _ _ _ h => h) ?_ ?_
          rotate_left
          · intro W hW
            clear hW
            simp only [z0, z1]
            go_simp
            first | done | with_reducible rfl
          simp only [z0, z1, Act.put, z3, z4, z5]
          refine tk 5 (by decide) ?_ hS (by kernel_rfl) (by kernel_rfl) (by kernel_rfl) (by rfl) (fun _ _ _ h => h) ?_ ?_
          rotate_left
          · intro W hW
            clear hW
            simp only [z0, z1]
            go_simp
            first | done | with_reducible rfl
          simp only [z0, z1, Act.put, z3, z4, z5]
          refine tk 6 (by decide) ?_ hS (by kernel_rfl) (by kernel_rfl) (by kernel_rfl) (by rfl) (fun _ _ _ h => h) ?_ ?_
          rotate_left
          · intro W hW
            clear hW
            simp only [z0, z1]
            go_simp
            first | done | with_reducible rfl
          simp only [z0, z1, Act.put, z3, z4, z5]
          refine tk 7 (by decide) ?_ hS (by kernel_rfl) (by kernel_rfl) (by kernel_rfl) (by rfl) (fun _ _ _ h => h) ?_ ?_
          rotate_left
          · intro W hW
            have q5 := cell_later hW m5
            clear hW
            simp only [z0, z1]
            go_simp
            first | done | with_reducible rfl
          simp only [z0, z1, Act.put, z3, z4, z5]
          refine call_at 8 (by decide) (Pi := fun v _ => ∃ q : Bool, v = .bool q) (by kernel_rfl) (by rfl) (by simp only [z0, z1]; go_simp; first | done | rfl | exact ⟨rfl, rfl⟩) (call_isb hS (HNB.out _ (bl2 hS c8))) ?_
          clear hS
          rintro w9 u hS ⟨q, rfl⟩
          simp only [z0, z1, Act.put, z3, z4, z5]
          refine wpAnyH_done (by kernel_rfl) ?_ _
          have c9 := bl2 hS c8
          clear hS
          cases q
          · go_wp2_with fail
            go_roundg (gk - 1)
            case measure => omega
            case rel => exact ⟨k + 1, by omega, by go_num, c9⟩
          · go_wp2_with fail
            (go_ret; exact ⟨⟨_, rfl⟩, c9⟩)
        · have g0 : decide (0 < k) = true := decide_eq_true (by omega)
          have g0b : decide ((0 : Int) < (k : Int)) = true := decide_eq_true (by omega)
          have hw0 : IntKind.i64.wrap ((k : Int) - 1) = ((k - 1 : Nat) : Int) := by rw [IntKind.wrap_i64]; omega
          have i3 : k - 1 < l.length := by omega
          have hm2 := HC2.out (k - 1) i3
          obtain ⟨d2, hd2⟩ : ∃ d2, d2 = l[k - 1]! := ⟨_, rfl⟩
          rw [← hd2] at hm2
          clear hd2 h0
          have p0 : w2.cell? ⟨b, off + (k - 1) * 6, none⟩ = some (.int .i64 d2.id) := hm2 0 _ rfl
          clear hm2
          refine Reg.region_quiet (by kernel_rfl) (by kernel_rfl) ?_
          iterate 16 (first | go_big_quiet_skip | (go_big_quiet_want; (first | (go_big_quiet_op; go_big_quiet_on) | (apply Reg.quiet_run; (intro W hW; (have q0 := hW.cell m0; have q1 := hW.cell p0); go_simp; (first | done | rfl | exact ⟨rfl, rfl⟩ )); (simp only [Act.put, List.setIfInBounds_toArray, List.set_cons_zero, List.set_cons_succ]; go_big_quiet_on)) | (apply Reg.quiet_call; (intro W hW; go_simp; (first | done | rfl | exact ⟨rfl, rfl⟩)); (intro W hW; (first | fail)); (simp only [Act.put, List.setIfInBounds_toArray, List.set_cons_zero, List.set_cons_succ]; go_big_quiet_on)))))
          refine wpQuiet_nil ?_
          intro w8 hW
          have c8 := bl2 hW c2
          go_wp2_with fail
          all_goals first
            | (go_ret; exact ⟨⟨_, rfl⟩, c8⟩)
            | skip
          replace m5 := cell_later hW m5
          have hsl := slto_hd (some ⟨b, off, none⟩) l.length cap k (by omega)
          have hkl : (l.take k).length = k := by rw [List.length_take]; omega
          have HNB := Lib.hid (hkl ▸ fun W hW => HN.out W hW : ∀ W : World, Below w.heap.size w W → Calls Tryz.prog 43 #[.slice (some ⟨b, off, none⟩) k cap, .string d.ke] W fun e w' => IsB e ∧ W = w')
          clear hkl HN
          go_upto_region 11 with fail
          have hS0 : SB w8 w8.drew := (Below.refl _ _).drew
          refine wp_region_held_drew (S := SB w8) (by kernel_rfl) hS0 (fun hS => ?_)
          clear hS0
          refine tk 0 (by decide) ?_ hS (by kernel_rfl) (by kernel_rfl) (by kernel_rfl) (by rfl) (fun _ _ _ h => h) ?_ ?_
          rotate_left
          · intro W hW
            clear hW
            simp only [z0, z1]
            go_simp
            first | done | with_reducible rfl
          simp only [z0, z1, Act.put, z3, z4, z5]
          refine tk 1 (by decide) ?_ hS (by kernel_rfl) (by kernel_rfl) (by kernel_rfl) (by rfl) (fun _ _ _ h => h) ?_ ?_
          rotate_left
          · intro W hW
            clear hW
            simp only [z0, z1]
            go_simp
            first | done | with_reducible rfl
          simp only [z0, z1, Act.put, z3, z4, z5]
          refine tk 2 (by decide) ?_ hS (by kernel_rfl) (by kernel_rfl) (by kernel_rfl) (by rfl) (fun _ _ _ h => h) ?_ ?_
          rotate_left
          · intro W hW
            clear hW
            simp only [z0, z1]
            go_simp
            first | done | with_reducible rfl
          simp only [z0, z1, Act.put, z3, z4, z5]
          refine tk 3 (by decide) ?_ hS (by kernel_rfl) (by kernel_rfl) (by kernel_rfl) (by rfl) (fun _ _ _ h => h) ?_ ?_
          rotate_left
          · intro W hW
            clear hW
            simp only [z0, z1]
            go_simp
            first | done | with_reducible rfl
          simp only [z0, z1, Act.put, z3, z4, z5]
          refine tk 4 (by decide) ?_ hS (by kernel_rfl) (by kernel_rfl) (by kernel_rfl) (by rfl) (fun _ _ _ h => h) ?_ ?_
          rotate_left
          · intro W hW
            clear hW
            simp only [z0, z1]
            go_simp
            first | done | with_reducible rfl
          simp only [z0, z1, Act.put, z3, z4, z5]
          refine tk 5 (by decide) ?_ hS (by kernel_rfl) (by kernel_rfl) (by kernel_rfl) (by rfl) (fun _ _ _ h => h) ?_ ?_
          rotate_left
          · intro W hW
            clear hW
            simp only [z0, z1]
            go_simp
            first | done | with_reducible rfl
          simp only [z0, z1, Act.put, z3, z4, z5]
          refine tk 6 (by decide) ?_ hS (by kernel_rfl) (by kernel_rfl) (by kernel_rfl) (by rfl) (fun _ _ _ h => h) ?_ ?_
          rotate_left
          · intro W hW
            clear hW
            simp only [z0, z1]
            go_simp
            first | done | with_reducible rfl
          simp only [z0, z1, Act.put, z3, z4, z5]
          refine tk 7 (by decide) ?_ hS (by kernel_rfl) (by kernel_rfl) (by kernel_rfl) (by rfl) (fun _ _ _ h => h) ?_ ?_
          rotate_left
          · intro W hW
            have q5 := cell_later hW m5
            clear hW
            simp only [z0, z1]
            go_simp
            first | done | with_reducible rfl
          simp only [z0, z1, Act.put, z3, z4, z5]
          refine call_at 8 (by decide) (Pi := fun v _ => ∃ q : Bool, v = .bool q) (by kernel_rfl) (by rfl) (by simp only [z0, z1]; go_simp; first | done | rfl | exact ⟨rfl, rfl⟩) (call_isb hS (HNB.out _ (bl2 hS c8))) ?_
          clear hS
          rintro w9 u hS ⟨q, rfl⟩
          simp only [z0, z1, Act.put, z3, z4, z5]
          refine wpAnyH_done (by kernel_rfl) ?_ _
          have c9 := bl2 hS c8
          clear hS
          cases q
          · go_wp2_with fail
            go_roundg (gk - 1)
            case measure => omega
            case rel => exact ⟨k + 1, by omega, by go_num, c9⟩
          · go_wp2_with fail
            (go_ret; exact ⟨⟨_, rfl⟩, c9⟩)
      · have hq0 : (q != 0) = true := bne_iff_ne.2 hq
        go_wp2_with fail
        (go_ret; exact ⟨⟨_, rfl⟩, c2⟩)
    · go_wp2_with fail
      (go_ret; exact ⟨⟨_, rfl⟩, hbr⟩)
def CntUB (n : Nat) (w : World) (g : Nat) (s : Value) (W : World) : Prop := ∃ k : Nat, k + g = n - 1 + 1 ∧ 1 ≤ k ∧ s = .int .i64 k ∧ Below w.heap.size w W
set_option maxHeartbeats 16000000 in
theorem rgood23_any (d : Bl) (w : World) : Calls Tryz.prog 44 #[(.agg #[.int .i64 (d).id, .int .i64 (d).ac, .int .i64 (d).ki, .int .i64 (d).am, .int .i64 (d).fr, .int .i64 (d).too, .string (d).so])] w fun e w' => IsB e ∧ Below w.heap.size w w' := by
  have cw : Below w.heap.size w (w.alloc (.cells #[.int .i64 (d).id, .int .i64 (d).ac, .int .i64 (d).ki, .int .i64 (d).am, .int .i64 (d).fr, .int .i64 (d).too, .string (d).so] 105)) := Bk.be
  have kh : Bk.Blk (w.alloc (.cells #[.int .i64 (d).id, .int .i64 (d).ac, .int .i64 (d).ki, .int .i64 (d).am, .int .i64 (d).fr, .int .i64 (d).too, .string (d).so] 105)) w.heap.size _ 105 := Bk.Blk.nw10
  go_enter Tryz.func44, Tryz.ntmps44
  go_upto_region 1 with fail
  generalize (w.alloc (.cells _ 105)) = w1 at *
  have m0 := kh.c0
  have m1 := kh.c1
  have m2 := kh.c2
  have m3 := kh.c3
  have m4 := kh.c4
  have m5 := kh.c5
  go_wp2_with fail
  all_goals first
    | (go_ret; exact ⟨⟨_, rfl⟩, cw⟩)
    | skip
  all_goals
    refine (valid04_any _ _).mono ?_
    rintro e w' ⟨⟨q, rfl⟩, rfl⟩
    cases q
  all_goals go_wp2_with fail
  all_goals first
    | (go_ret; exact ⟨⟨_, rfl⟩, cw⟩)
    | skip
  all_goals
    refine (valid04_any _ _).mono ?_
    rintro e w' ⟨⟨q, rfl⟩, rfl⟩
    cases q
  all_goals go_wp2_with fail
  all_goals (go_ret; exact ⟨⟨_, rfl⟩, cw⟩)
set_option maxHeartbeats 16000000 in
theorem rchk23_any (a : Option Addr) (cap : Nat) (l : List Bl) (w : World) (hl : l.length ≤ maxLen) (h : RowIn blenc w a l) (hs : ∀ x ∈ l, x.so.size ≤ maxLen) :
    Calls Tryz.prog 20 #[.slice a l.length cap] w fun e w' => IsN e ∧ Below w.heap.size w w' := by
  have H := Lib.hid h
  have HS := Lib.hid hs
  have hm : l.length ≤ 9223372036854775807 := by unfold maxLen at hl; omega
  clear hl h hs
  go_enter Tryz.func20, Tryz.ntmps20
  go_wp2_with fail
  all_goals first
    | (go_ret; exact ⟨⟨_, rfl⟩, Below.refl _ _⟩)
    | skip
  go_loopg [3] l.length (CntB l.length w)
  case atStart => exact ⟨0, by omega, rfl, Below.refl _ _⟩
  case round =>
    obtain ⟨k, hk, rfl, hbr⟩ := hrel
    by_cases hlt : k < l.length
    · obtain ⟨b, off, rfl, hc⟩ := rowat blenc_len H.out (by omega)
      have HC := Lib.hid (fun (j : Nat) (hj : j < l.length) => range_later hbr (hc j hj))
      clear hc
      have hm1 := HC.out k hlt
      have hsz := HS.out l[k]! (by rw [getElem!_pos l k hlt]; exact List.getElem_mem hlt)
      obtain ⟨d, hd⟩ : ∃ d, d = l[k]! := ⟨_, rfl⟩
      rw [← hd] at hm1 hsz
      clear hd
      have m0 : wr.cell? ⟨b, off + k * 7, none⟩ = some (.int .i64 d.id) := hm1 0 _ rfl
      have m6 : wr.cell? ⟨b, off + k * 7 + 6, none⟩ = some (.string d.so) := hm1 6 _ rfl
      have HSZ := Lib.hid hsz
      clear hsz
      go_wp2_with ((refine wpList_load_mid rfl 105 _ rfl _ (off + k * 7) (by first | rfl | simp) ([.int .i64 (d).id, .int .i64 (d).ac, .int .i64 (d).ki, .int .i64 (d).am, .int .i64 (d).fr, .int .i64 (d).too, .string (d).so]) _ (hm1) Tryz.underlying105 rfl (by kernel_rfl) ?_))
      refine (rgood23_any d _).mono ?_
      rintro e w2 ⟨⟨q, rfl⟩, hb⟩
      have c2 := bl2 hb hbr
      replace m0 := cell_later hb m0
      replace m6 := cell_later hb m6
      have HC2 := Lib.hid (fun (j : Nat) (hj : j < l.length) => range_later hb (HC.out j hj))
      clear hb hbr hm1 HC
      cases q
      · go_wp2_with fail
        (go_ret; exact ⟨⟨_, rfl⟩, c2⟩)
      go_wp2_with fail
      refine (namew_any d.so _ HSZ.out).mono ?_
      rintro e w' ⟨⟨q, rfl⟩, rfl⟩
      cases q
      · go_wp2_with fail
        (go_ret; exact ⟨⟨_, rfl⟩, c2⟩)
      go_upto_region 10 with fail
      by_cases h0 : k = 0
      · have g0 : decide (0 < k) = false := decide_eq_false (by omega)
        have g0b : decide ((0 : Int) < (k : Int)) = false := decide_eq_false (by omega)
        clear h0
        refine Reg.region_quiet (by kernel_rfl) (by kernel_rfl) ?_
        iterate 16 (first | go_big_quiet_skip | (go_big_quiet_want; (first | (go_big_quiet_op; go_big_quiet_on) | (apply Reg.quiet_run; (intro W hW; skip; go_simp; (first | done | rfl | exact ⟨rfl, rfl⟩ )); (simp only [Act.put, List.setIfInBounds_toArray, List.set_cons_zero, List.set_cons_succ]; go_big_quiet_on)) | (apply Reg.quiet_call; (intro W hW; go_simp; (first | done | rfl | exact ⟨rfl, rfl⟩)); (intro W hW; (first | fail)); (simp only [Act.put, List.setIfInBounds_toArray, List.set_cons_zero, List.set_cons_succ]; go_big_quiet_on)))))
        refine wpQuiet_nil ?_
        intro w8 hW
        have c8 := bl2 hW c2
        go_wp2_with fail
        all_goals first
          | (go_ret; exact ⟨⟨_, rfl⟩, c8⟩)
          | (go_roundg (gk - 1)
             case measure => omega
             case rel => exact ⟨k + 1, by omega, by go_num, c8⟩)
      · have g0 : decide (0 < k) = true := decide_eq_true (by omega)
        have g0b : decide ((0 : Int) < (k : Int)) = true := decide_eq_true (by omega)
        have hw0 : IntKind.i64.wrap ((k : Int) - 1) = ((k - 1 : Nat) : Int) := by rw [IntKind.wrap_i64]; omega
        have i3 : k - 1 < l.length := by omega
        have hm2 := HC2.out (k - 1) i3
        obtain ⟨d2, hd2⟩ : ∃ d2, d2 = l[k - 1]! := ⟨_, rfl⟩
        rw [← hd2] at hm2
        clear hd2 h0
        have p0 : w2.cell? ⟨b, off + (k - 1) * 7, none⟩ = some (.int .i64 d2.id) := hm2 0 _ rfl
        clear hm2
        refine Reg.region_quiet (by kernel_rfl) (by kernel_rfl) ?_
        iterate 16 (first | go_big_quiet_skip | (go_big_quiet_want; (first | (go_big_quiet_op; go_big_quiet_on) | (apply Reg.quiet_run; (intro W hW; (have q0 := hW.cell m0; have q1 := hW.cell p0); go_simp; (first | done | rfl | exact ⟨rfl, rfl⟩ )); (simp only [Act.put, List.setIfInBounds_toArray, List.set_cons_zero, List.set_cons_succ]; go_big_quiet_on)) | (apply Reg.quiet_call; (intro W hW; go_simp; (first | done | rfl | exact ⟨rfl, rfl⟩)); (intro W hW; (first | fail)); (simp only [Act.put, List.setIfInBounds_toArray, List.set_cons_zero, List.set_cons_succ]; go_big_quiet_on)))))
        refine wpQuiet_nil ?_
        intro w8 hW
        have c8 := bl2 hW c2
        go_wp2_with fail
        all_goals first
          | (go_ret; exact ⟨⟨_, rfl⟩, c8⟩)
          | (go_roundg (gk - 1)
             case measure => omega
             case rel => exact ⟨k + 1, by omega, by go_num, c8⟩)
    · go_wp2_with fail
      (go_ret; exact ⟨⟨_, rfl⟩, hbr⟩)
set_option maxHeartbeats 16000000 in
theorem rchk14_any (a : Option Addr) (cap : Nat) (l : List Ti) (w : World) (hl : l.length ≤ maxLen) (h : RowIn tienc w a l) :
    Calls Tryz.prog 105 #[.slice a l.length cap] w fun e w' => IsN e ∧ Below w.heap.size w w' := by
  have H := Lib.hid h
  have hm : l.length ≤ 9223372036854775807 := by unfold maxLen at hl; omega
  clear hl h
  go_enter Tryz.func105, Tryz.ntmps105
  go_wp2_with fail
  all_goals first
    | (go_ret; exact ⟨⟨_, rfl⟩, Below.refl _ _⟩)
    | skip
  go_loopg [3] l.length (CntS l.length w)
  case atStart => exact ⟨0, by omega, rfl, rfl⟩
  case round =>
    obtain ⟨k, hk, rfl, rfl⟩ := hrel
    by_cases hlt : k < l.length
    · obtain ⟨b, off, rfl, hc⟩ := rowat tienc_len H.out (by omega)
      have hm1 := hc k hlt
      clear hc
      obtain ⟨d, hd⟩ : ∃ d, d = l[k]! := ⟨_, rfl⟩
      rw [← hd] at hm1
      clear hd
      have m0 : w.cell? ⟨b, off + k * 2, none⟩ = some (.int .i64 d.fr) := hm1 0 _ rfl
      have m1 : w.cell? ⟨b, off + k * 2 + 1, none⟩ = some (.int .i64 d.pp) := hm1 1 _ rfl
      clear hm1
      go_wp2_with fail
      all_goals first
        | (go_ret; exact ⟨⟨_, rfl⟩, Below.refl _ _⟩)
        | (go_roundg (gk - 1)
           case measure => omega
           case rel => exact ⟨k + 1, by omega, by go_num, rfl⟩)
    · go_wp2_with fail
      clear hlt hk
      go_loopg [4] (l.length - 1) (CntUB l.length w)
      case atStart => exact ⟨1, by omega, by omega, rfl, Below.refl _ _⟩
      case round =>
        obtain ⟨i, hi, hi1, rfl, hbr⟩ := hrel
        by_cases hlt : i < l.length
        · obtain ⟨b, off, rfl, hc⟩ := rowat tienc_len H.out (by omega)
          have hm1 := range_later hbr (hc i hlt)
          have i3 : i - 1 < l.length := by omega
          have hm2 := range_later hbr (hc (i - 1) i3)
          clear hc
          obtain ⟨d, hd⟩ : ∃ d, d = l[i]! := ⟨_, rfl⟩
          obtain ⟨d2, hd2⟩ : ∃ d2, d2 = l[i - 1]! := ⟨_, rfl⟩
          rw [← hd] at hm1
          rw [← hd2] at hm2
          clear hd hd2
          have m0 : wr.cell? ⟨b, off + i * 2, none⟩ = some (.int .i64 d.fr) := hm1 0 _ rfl
          have p0 : wr.cell? ⟨b, off + (i - 1) * 2, none⟩ = some (.int .i64 d2.fr) := hm2 0 _ rfl
          have hw0 : IntKind.i64.wrap ((i : Int) - 1) = ((i - 1 : Nat) : Int) := by rw [IntKind.wrap_i64]; omega
          clear hm1 hm2
          go_upto_region 11 with fail
          refine Reg.region_quiet (by kernel_rfl) (by kernel_rfl) ?_
          iterate 12 (first | go_big_quiet_skip | (go_big_quiet_want; (first | (go_big_quiet_op; go_big_quiet_on) | (apply Reg.quiet_run; (intro W hW; (have q0 := hW.cell m0; have q1 := hW.cell p0); go_simp; (first | done | rfl | exact ⟨rfl, rfl⟩ )); (simp only [Act.put, List.setIfInBounds_toArray, List.set_cons_zero, List.set_cons_succ]; go_big_quiet_on)) | (apply Reg.quiet_call; (intro W hW; go_simp; (first | done | rfl | exact ⟨rfl, rfl⟩)); (intro W hW; (first | fail)); (simp only [Act.put, List.setIfInBounds_toArray, List.set_cons_zero, List.set_cons_succ]; go_big_quiet_on)))))
          refine wpQuiet_nil ?_
          intro w8 hW
          have c8 := bl2 hW hbr
          go_wp2_with fail
          all_goals first
            | (go_ret; exact ⟨⟨_, rfl⟩, c8⟩)
            | (go_roundg (gk - 1)
               case measure => omega
               case rel => exact ⟨i + 1, by omega, by omega, by go_num, c8⟩)
        · by_cases h0 : 0 < l.length
          · obtain ⟨b, off, rfl, hc⟩ := rowat tienc_len H.out h0
            have hm1 := range_later hbr (hc 0 h0)
            have m0 : wr.cell? ⟨b, off, none⟩ = some (.int .i64 (l[0]!).fr) := by simpa using hm1 0 _ rfl
            clear hc hm1
            generalize (l[0]!).fr = x at *
            go_wp2_with fail
            all_goals (go_ret; exact ⟨⟨_, rfl⟩, hbr⟩)
          · go_wp2_with fail
            all_goals (go_ret; exact ⟨⟨_, rfl⟩, hbr⟩)
set_option maxHeartbeats 16000000 in
theorem rbef17_any (p q : Pd) (w : World) : Calls Tryz.prog 67 #[(.agg #[.string (p).nm, .string (p).cu, .string (p).ca, .int .i64 (p).fr, .int .i64 (p).ev, .int .i64 (p).ov, .int .i64 (p).tx, .slice ((p).ci).ta ((p).ci).tn ((p).ci).tk, .bool ((p).ci).mg, .int .i64 ((p).ci).ba, .int .i64 ((p).ci).mo, .bool ((p).ci).kp, .slice ((p).di).ta ((p).di).tn ((p).di).tk, .bool ((p).di).mg, .int .i64 ((p).di).ba, .int .i64 ((p).di).mo, .bool ((p).di).kp, .slice (p).fa (p).fn (p).fk, .slice (p).ra (p).rn (p).rk]), (.agg #[.string (q).nm, .string (q).cu, .string (q).ca, .int .i64 (q).fr, .int .i64 (q).ev, .int .i64 (q).ov, .int .i64 (q).tx, .slice ((q).ci).ta ((q).ci).tn ((q).ci).tk, .bool ((q).ci).mg, .int .i64 ((q).ci).ba, .int .i64 ((q).ci).mo, .bool ((q).ci).kp, .slice ((q).di).ta ((q).di).tn ((q).di).tk, .bool ((q).di).mg, .int .i64 ((q).di).ba, .int .i64 ((q).di).mo, .bool ((q).di).kp, .slice (q).fa (q).fn (q).fk, .slice (q).ra (q).rn (q).rk])] w fun e w' => IsB e ∧ Below w.heap.size w w' := by
  have cw : Below w.heap.size w ((w.alloc (.cells #[.string (p).nm, .string (p).cu, .string (p).ca, .int .i64 (p).fr, .int .i64 (p).ev, .int .i64 (p).ov, .int .i64 (p).tx, .slice ((p).ci).ta ((p).ci).tn ((p).ci).tk, .bool ((p).ci).mg, .int .i64 ((p).ci).ba, .int .i64 ((p).ci).mo, .bool ((p).ci).kp, .slice ((p).di).ta ((p).di).tn ((p).di).tk, .bool ((p).di).mg, .int .i64 ((p).di).ba, .int .i64 ((p).di).mo, .bool ((p).di).kp, .slice (p).fa (p).fn (p).fk, .slice (p).ra (p).rn (p).rk] 73)).alloc (.cells #[.string (q).nm, .string (q).cu, .string (q).ca, .int .i64 (q).fr, .int .i64 (q).ev, .int .i64 (q).ov, .int .i64 (q).tx, .slice ((q).ci).ta ((q).ci).tn ((q).ci).tk, .bool ((q).ci).mg, .int .i64 ((q).ci).ba, .int .i64 ((q).ci).mo, .bool ((q).ci).kp, .slice ((q).di).ta ((q).di).tn ((q).di).tk, .bool ((q).di).mg, .int .i64 ((q).di).ba, .int .i64 ((q).di).mo, .bool ((q).di).kp, .slice (q).fa (q).fn (q).fk, .slice (q).ra (q).rn (q).rk] 73)) := Bk.be
  have kp : Bk.Blk ((w.alloc (.cells #[.string (p).nm, .string (p).cu, .string (p).ca, .int .i64 (p).fr, .int .i64 (p).ev, .int .i64 (p).ov, .int .i64 (p).tx, .slice ((p).ci).ta ((p).ci).tn ((p).ci).tk, .bool ((p).ci).mg, .int .i64 ((p).ci).ba, .int .i64 ((p).ci).mo, .bool ((p).ci).kp, .slice ((p).di).ta ((p).di).tn ((p).di).tk, .bool ((p).di).mg, .int .i64 ((p).di).ba, .int .i64 ((p).di).mo, .bool ((p).di).kp, .slice (p).fa (p).fn (p).fk, .slice (p).ra (p).rn (p).rk] 73)).alloc (.cells #[.string (q).nm, .string (q).cu, .string (q).ca, .int .i64 (q).fr, .int .i64 (q).ev, .int .i64 (q).ov, .int .i64 (q).tx, .slice ((q).ci).ta ((q).ci).tn ((q).ci).tk, .bool ((q).ci).mg, .int .i64 ((q).ci).ba, .int .i64 ((q).ci).mo, .bool ((q).ci).kp, .slice ((q).di).ta ((q).di).tn ((q).di).tk, .bool ((q).di).mg, .int .i64 ((q).di).ba, .int .i64 ((q).di).mo, .bool ((q).di).kp, .slice (q).fa (q).fn (q).fk, .slice (q).ra (q).rn (q).rk] 73)) w.heap.size _ 73 := Bk.Blk.nw20
  have kq : Bk.Blk ((w.alloc (.cells #[.string (p).nm, .string (p).cu, .string (p).ca, .int .i64 (p).fr, .int .i64 (p).ev, .int .i64 (p).ov, .int .i64 (p).tx, .slice ((p).ci).ta ((p).ci).tn ((p).ci).tk, .bool ((p).ci).mg, .int .i64 ((p).ci).ba, .int .i64 ((p).ci).mo, .bool ((p).ci).kp, .slice ((p).di).ta ((p).di).tn ((p).di).tk, .bool ((p).di).mg, .int .i64 ((p).di).ba, .int .i64 ((p).di).mo, .bool ((p).di).kp, .slice (p).fa (p).fn (p).fk, .slice (p).ra (p).rn (p).rk] 73)).alloc (.cells #[.string (q).nm, .string (q).cu, .string (q).ca, .int .i64 (q).fr, .int .i64 (q).ev, .int .i64 (q).ov, .int .i64 (q).tx, .slice ((q).ci).ta ((q).ci).tn ((q).ci).tk, .bool ((q).ci).mg, .int .i64 ((q).ci).ba, .int .i64 ((q).ci).mo, .bool ((q).ci).kp, .slice ((q).di).ta ((q).di).tn ((q).di).tk, .bool ((q).di).mg, .int .i64 ((q).di).ba, .int .i64 ((q).di).mo, .bool ((q).di).kp, .slice (q).fa (q).fn (q).fk, .slice (q).ra (q).rn (q).rk] 73)) (w.heap.size + 1) _ 73 := Bk.Blk.nw21
  go_enter Tryz.func67, Tryz.ntmps67
  go_upto_region 1 with fail
  generalize ((w.alloc (.cells _ 73)).alloc (.cells _ 73)) = w1 at *
  have m0 := kp.c0
  have m3 := kp.c3
  have p0 := kq.c0
  have p3 := kq.c3
  go_wp2_with fail
  all_goals (go_ret; exact ⟨⟨_, rfl⟩, cw⟩)
end Go.Proofs.YtjhpiclnpmdjnaaGreatDoor.Bm
