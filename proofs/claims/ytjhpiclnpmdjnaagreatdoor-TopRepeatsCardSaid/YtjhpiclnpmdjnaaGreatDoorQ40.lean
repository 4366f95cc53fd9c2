/-
  Parts of the proof: Y22.
-/
import Derived.Test.YtjhpiclnpmdjnaaGreatDoorQ39
namespace Go.Proofs.YtjhpiclnpmdjnaaGreatDoor.Bm
open Go Go.RowKit
open Go.Proofs.YtjhpiclnpmdjnaaGreatDoor
open Go.Proofs.YtjhpiclnpmdjnaaGreatDoor.Kl (byt byt_get)
open Go.Proofs.YtjhpiclnpmdjnaaGreatDoor.Ln (SB.mono one_at two_at call_wp value_wp SB tk ts z0 z1 z3 z4 z5 take_at call_at flat flat_len flat_get flat_mem RowIn OwnR Idx bl2 results2_cell Blk_setRow_same Blk_setRow_ne Below_setRow)
set_option linter.unusedSimpArgs false
set_option linter.unusedVariables false
set_option maxRecDepth 100000
def isIn : Value → Bool
  | .int .i64 _ => true
  | _ => false
theorem ints_at {W : World} {g : Nat} {cs : Array Value} {t : TypeId} (h : Bk.Blk W g cs t) (ha : cs.toList.all isIn = true) (i : Nat) (hi : i < cs.size) : ∃ n : Int, W.cell? ⟨g, i, none⟩ = some (.int .i64 n) := by
  rw [h.cell]
  have hm : cs[i] ∈ cs.toList := by simp
  have := List.all_eq_true.1 ha _ hm
  cases hv : cs[i] with
  | int k n =>
    cases k with
    | i64 => exact ⟨n, by rw [Array.getElem?_eq_getElem hi, hv]⟩
    | _ => rw [hv] at this; cases this
  | _ => rw [hv] at this; cases this
def RchR (w : World) (p : Pl) (n : Nat) (g : Nat) (s : Value) (W : World) : Prop := ∃ k : Nat, k + g = n ∧ s = .int .i64 k ∧ Bk.Blk W w.heap.size #[.int .i64 (p).p0, .int .i64 (p).p1, .int .i64 (p).p2, .int .i64 (p).p3, .int .i64 (p).p4, .int .i64 (p).p5, .int .i64 (p).p6, .int .i64 (p).p7, .int .i64 (p).p8, .int .i64 (p).p9, .int .i64 (p).p10, .int .i64 (p).p11, .int .i64 (p).p12, .int .i64 (p).p13] 26 ∧ Below w.heap.size w W
def UsR (w w9 : World) (g : Nat) (s : Value) (W : World) : Prop := ∃ k : Nat, k + g = 14 ∧ s = .int .i64 k ∧ Below w9.heap.size w9 W ∧ Below w.heap.size w W
set_option maxHeartbeats 128000000 in
theorem rchk18_any (a : Option Addr) (cap : Nat) (l : List Gl) (p : Pl) (w : World) (hl : l.length ≤ maxLen) (hcap : l.length ≤ cap) (h : RowIn glenc w a l) (hs : ∀ x ∈ l, x.nm.size ≤ maxLen) :
    Calls Tryz.prog 15 #[.slice a l.length cap, .agg #[.int .i64 (p).p0, .int .i64 (p).p1, .int .i64 (p).p2, .int .i64 (p).p3, .int .i64 (p).p4, .int .i64 (p).p5, .int .i64 (p).p6, .int .i64 (p).p7, .int .i64 (p).p8, .int .i64 (p).p9, .int .i64 (p).p10, .int .i64 (p).p11, .int .i64 (p).p12, .int .i64 (p).p13]] w fun r w' => IsN r ∧ Below w.heap.size w w' := by
  have H := Lib.hid h
  have HS := Lib.hid hs
  have HUS := Lib.hid (fun (id kd : Int) (W : World) (hW : Below w.heap.size w W) => rused_any a cap l id kd W hl (h.later hW))
  have HL := Lib.hid hl
  have hm : l.length ≤ 9223372036854775807 := by unfold maxLen at hl; omega
  clear hl h hs
  have cw : Below w.heap.size w (w.alloc (.cells #[.int .i64 (p).p0, .int .i64 (p).p1, .int .i64 (p).p2, .int .i64 (p).p3, .int .i64 (p).p4, .int .i64 (p).p5, .int .i64 (p).p6, .int .i64 (p).p7, .int .i64 (p).p8, .int .i64 (p).p9, .int .i64 (p).p10, .int .i64 (p).p11, .int .i64 (p).p12, .int .i64 (p).p13] 26)) := Bk.be
  have kp : Bk.Blk (w.alloc (.cells #[.int .i64 (p).p0, .int .i64 (p).p1, .int .i64 (p).p2, .int .i64 (p).p3, .int .i64 (p).p4, .int .i64 (p).p5, .int .i64 (p).p6, .int .i64 (p).p7, .int .i64 (p).p8, .int .i64 (p).p9, .int .i64 (p).p10, .int .i64 (p).p11, .int .i64 (p).p12, .int .i64 (p).p13] 26)) w.heap.size _ 26 := Bk.Blk.nw10
  go_enter Tryz.func15, Tryz.ntmps15
  go_upto_region 1 with fail
  generalize (w.alloc (.cells _ 26)) = w1 at *
  go_wp2_with fail
  all_goals first
    | (go_ret; exact ⟨⟨_, rfl⟩, cw⟩)
    | skip
  go_loopg [5] l.length (RchR w p l.length)
  case atStart => exact ⟨0, by omega, rfl, kp, cw⟩
  case round =>
    clear kp cw
    obtain ⟨k, hk, rfl, kp, hbr⟩ := hrel
    by_cases hlt : k < l.length
    · obtain ⟨b, off, rfl, hc⟩ := rowat glenc_len H.out (by omega)
      have HC := Lib.hid (fun (j : Nat) (hj : j < l.length) => range_later hbr (hc j hj))
      clear hc
      have hm1 := HC.out k hlt
      have hsz := HS.out l[k]! (by rw [getElem!_pos l k hlt]; exact List.getElem_mem hlt)
      obtain ⟨d, hd⟩ : ∃ d, d = l[k]! := ⟨_, rfl⟩
      rw [← hd] at hm1 hsz
      clear hd
      have HSZ := Lib.hid hsz
      clear hsz
      have hkl : (l.take k).length = k := by rw [List.length_take]; omega
      have hsl := slto_gl (some ⟨b, off, none⟩) l.length cap k (by omega)
      have HFD := Lib.hid (fun (W : World) (hW : Below w.heap.size w W) => (hkl ▸ rcfind_any (some ⟨b, off, none⟩) cap (l.take k) d.pa W (by have := HL.out; omega) (row_take k (H.out.later hW)) : Calls Tryz.prog 33 #[.slice (some ⟨b, off, none⟩) k cap, .int .i64 d.pa] W fun e w' => (∃ (x : Gl) (q : Bool), e = .returned (.tuple #[(.agg #[.int .i64 (x).id, .int .i64 (x).pa, .int .i64 (x).ki, .string (x).nm]), .bool q])) ∧ Below W.heap.size W w'))
      clear hkl
      have hgp := kp.lt
      go_upto_region 7 with (first | (refine wpList_load_mid rfl 64 _ rfl _ (off + k * 4) (by first | rfl | simp) ([.int .i64 (d).id, .int .i64 (d).pa, .int .i64 (d).ki, .string (d).nm]) _ (hm1) Tryz.underlying64 rfl (by kernel_rfl) ?_) | (refine wpList_store_row rfl 64 _ _ rfl _ _ rfl rfl _ _ (Bk.Blk.nw10) (by kernel_rfl) rfl (by simp [Value.oneCell']) ?_))
      have cx : Below wr.heap.size wr ((wr.alloc (.cells #[.int .i64 0, .int .i64 0, .int .i64 0, .string { data := #[] }] 64)).setRow wr.heap.size #[.int .i64 (d).id, .int .i64 (d).pa, .int .i64 (d).ki, .string (d).nm]) := Below_setRow ((Below.refl _ _).alloc (Nat.le_refl _) _) (Nat.le_refl _) _
      have kx : Bk.Blk ((wr.alloc (.cells #[.int .i64 0, .int .i64 0, .int .i64 0, .string { data := #[] }] 64)).setRow wr.heap.size #[.int .i64 (d).id, .int .i64 (d).pa, .int .i64 (d).ki, .string (d).nm]) wr.heap.size _ 64 := Blk_setRow_same Bk.Blk.nw10
      have c3 := bl2 cx hbr
      replace kp := kp.later cx
      have HC3 := Lib.hid (fun (j : Nat) (hj : j < l.length) => range_later cx (HC.out j hj))
      clear HC hm1 hgp
      clear cx hbr
      (try simp only [Act.put])
      generalize ((wr.alloc (.cells _ 64)).setRow wr.heap.size _) = w3 at *
      generalize wr.heap.size = gw3 at *
      have x0 := kx.c0
      have x2 := kx.c2
      by_cases e0 : d.id < 1
      · go_wp2_with fail
        (go_ret; exact ⟨⟨_, rfl⟩, c3⟩)
      by_cases e1 : 999 < d.id
      · go_wp2_with fail
        (go_ret; exact ⟨⟨_, rfl⟩, c3⟩)
      by_cases e2 : d.ki < 1
      · go_wp2_with fail
        (go_ret; exact ⟨⟨_, rfl⟩, c3⟩)
      by_cases e3 : 5 < d.ki
      · go_wp2_with fail
        (go_ret; exact ⟨⟨_, rfl⟩, c3⟩)
      go_upto_region 9 with fail
      clear e0 e1 e2 e3 x2
      have m0 := x0
      clear x0
      by_cases h0 : k = 0
      · have g0 : decide (0 < k) = false := decide_eq_false (by omega)
        have g0b : decide ((0 : Int) < (k : Int)) = false := decide_eq_false (by omega)
        clear h0
        refine Reg.region_quiet (by kernel_rfl) (by kernel_rfl) ?_
        iterate 13 (first | go_big_quiet_skip | (go_big_quiet_want; (first | (go_big_quiet_op; go_big_quiet_on) | (apply Reg.quiet_run; (intro W hW; skip; go_simp; (first | done | rfl | exact ⟨rfl, rfl⟩ )); (simp only [Act.put, List.setIfInBounds_toArray, List.set_cons_zero, List.set_cons_succ]; go_big_quiet_on)) | (apply Reg.quiet_call; (intro W hW; go_simp; (first | done | rfl | exact ⟨rfl, rfl⟩)); (intro W hW; (first | fail)); (simp only [Act.put, List.setIfInBounds_toArray, List.set_cons_zero, List.set_cons_succ]; go_big_quiet_on)))))
        refine wpQuiet_nil ?_
        intro w8 hW
        have c8 := bl2 hW c3
        replace kx := kx.later hW
        replace kp := kp.later hW
        have HCW := Lib.hid (range_later hW (HC3.out k hlt))
        clear hW m0
        have x3 := kx.c3
        go_wp2_with fail
        all_goals first
          | (go_ret; exact ⟨⟨_, rfl⟩, c8⟩)
          | skip
        refine (name18_any _ _ HSZ.out).mono ?_
        rintro e w' ⟨⟨q, rfl⟩, rfl⟩
        clear x3
        cases q
        · go_wp2_with fail
          (go_ret; exact ⟨⟨_, rfl⟩, c8⟩)
        have x1 := kx.c1
        cases hp0 : (d.pa == 0)
        · go_upto_region 14 with fail
          clear x1 hp0
          have hS0 : SB w8 w8.drew := (Below.refl _ _).drew
          refine wp_region_held_drew (S := SB w8) (by kernel_rfl) hS0 (fun hS => ?_)
          clear hS0
          refine tk 0 (by decide) ?_ hS (by kernel_rfl) (by kernel_rfl) (by kernel_rfl) (by rfl) (fun _ _ _ h => h) ?_ ?_
          rotate_left
          · intro W hW
            clear hW
            simp only [z0, z1]
            go_simp
            first | done | with_reducible rfl
          simp only [z0, z1, Act.put, z3, z4, z5]
          refine tk 1 (by decide) ?_ hS (by kernel_rfl) (by kernel_rfl) (by kernel_rfl) (by rfl) (fun _ _ _ h => h) ?_ ?_
          rotate_left
          · intro W hW
            clear hW
            simp only [z0, z1]
            go_simp
            first | done | with_reducible rfl
          simp only [z0, z1, Act.put, z3, z4, z5]
          refine tk 2 (by decide) ?_ hS (by kernel_rfl) (by kernel_rfl) (by kernel_rfl) (by rfl) (fun _ _ _ h => h) ?_ ?_
          rotate_left
          · intro W hW
            clear hW
            simp only [z0, z1]
            go_simp
            first | done | with_reducible rfl
          simp only [z0, z1, Act.put, z3, z4, z5]
          refine tk 3 (by decide) ?_ hS (by kernel_rfl) (by kernel_rfl) (by kernel_rfl) (by rfl) (fun _ _ _ h => h) ?_ ?_
          rotate_left
          · intro W hW
            clear hW
            simp only [z0, z1]
            go_simp
            first | done | with_reducible rfl
          simp only [z0, z1, Act.put, z3, z4, z5]
          refine tk 4 (by decide) ?_ hS (by kernel_rfl) (by kernel_rfl) (by kernel_rfl) (by rfl) (fun _ _ _ h => h) ?_ ?_
          rotate_left
          · intro W hW
            have q0 := (kx.later hW).c1
            clear hW
            simp only [z0, z1]
            go_simp
            first | done | with_reducible rfl
          simp only [z0, z1, Act.put, z3, z4, z5]
          refine two_at 5 9 (by decide) (by decide) (by kernel_rfl) (by rfl) (by rfl) (fun K hK => ?_) (fun K hK => ?_)
          · refine call_wp (by simp only [z0, z1]; go_simp; first | done | rfl | exact ⟨rfl, rfl⟩ | exact ⟨rfl, rfl, rfl⟩ | exact ⟨rfl, rfl, rfl, rfl⟩) ((HFD.out _ (bl2 hS c8)).mono ?_)
            rintro e v1 ⟨⟨y, q, rfl⟩, hb⟩
            have hT := SB.mono _ _ hS hb
            refine ⟨_, rfl, hK.out _ _ hT (fun hT' => ?_)⟩
            clear hT' hS
            simp only [z0, z1, Act.put, z3, z4, z5]
            refine tk 6 (by decide) ?_ hT (by kernel_rfl) (by kernel_rfl) (by kernel_rfl) (by rfl) (fun _ _ _ h => h) ?_ ?_
            rotate_left
            · intro W hW
              clear hW
              simp only [z0, z1]
              go_simp
              first | done | with_reducible rfl
            simp only [z0, z1, Act.put, z3, z4, z5]
            refine tk 7 (by decide) ?_ hT (by kernel_rfl) (by kernel_rfl) (by kernel_rfl) (by rfl) (fun _ _ _ h => h) ?_ ?_
            rotate_left
            · intro W hW
              clear hW
              simp only [z0, z1]
              go_simp
              first | done | with_reducible rfl
            simp only [z0, z1, Act.put, z3, z4, z5]
            refine tk 8 (by decide) ?_ hT (by kernel_rfl) (by kernel_rfl) (by kernel_rfl) (by rfl) (fun _ _ _ h => h) ?_ ?_
            rotate_left
            · intro W hW
              clear hW
              simp only [z0, z1]
              go_simp
              first | done | with_reducible rfl
            simp only [z0, z1, Act.put, z3, z4, z5]
            refine one_at 9 (by decide) (by kernel_rfl) (by rfl) (fun K hK => ?_)
            refine value_wp (by simp only [z0, z1]; go_simp; first | done | rfl | exact ⟨rfl, rfl⟩) ?_
            have hU : SB w8 (v1.alloc (.cells #[.int .i64 0, .int .i64 0, .int .i64 0, .string { data := #[] }] 64)) := SB.mono _ _ hT ((Below.refl _ _).alloc (Nat.le_refl _) _)
            refine hK.out _ _ hU (fun hU' => ?_)
            clear hU'
            simp only [z0, z1, Act.put, z3, z4, z5]
            refine one_at 10 (by decide) (by kernel_rfl) (by rfl) (fun K hK => ?_)
            simp only [z0, z1]
            refine wp_store_row 64 _ _ rfl v1.heap.size _ rfl rfl _ _ (Bk.Blk.nw10) (by kernel_rfl) rfl (by simp [Value.oneCell']) ?_
            have hX : Below v1.heap.size v1 ((v1.alloc (.cells #[.int .i64 0, .int .i64 0, .int .i64 0, .string { data := #[] }] 64)).setRow v1.heap.size #[.int .i64 (y).id, .int .i64 (y).pa, .int .i64 (y).ki, .string (y).nm]) := Below_setRow ((Below.refl _ _).alloc (Nat.le_refl _) _) (Nat.le_refl _) _
            have hS9 : SB w8 ((v1.alloc (.cells #[.int .i64 0, .int .i64 0, .int .i64 0, .string { data := #[] }] 64)).setRow v1.heap.size #[.int .i64 (y).id, .int .i64 (y).pa, .int .i64 (y).ki, .string (y).nm]) := SB.mono _ _ hT hX
            have ky : Bk.Blk ((v1.alloc (.cells #[.int .i64 0, .int .i64 0, .int .i64 0, .string { data := #[] }] 64)).setRow v1.heap.size #[.int .i64 (y).id, .int .i64 (y).pa, .int .i64 (y).ki, .string (y).nm]) v1.heap.size _ 64 := Blk_setRow_same Bk.Blk.nw10
            refine hK.out _ _ hS9 (fun hU' => ?_)
            clear hU' hU hT hK hX hb
            simp only [z0, z1, Act.put, z3, z4, z5]
            generalize ((v1.alloc (.cells _ 64)).setRow v1.heap.size _) = w9 at *
            generalize v1.heap.size = g9 at *
            refine tk 11 (by decide) ?_ hS9 (by kernel_rfl) (by kernel_rfl) (by kernel_rfl) (by rfl) (fun _ _ _ h => h) ?_ ?_
            rotate_left
            · intro W hW
              clear hW
              simp only [z0, z1]
              go_simp
              first | done | with_reducible rfl
            simp only [z0, z1, Act.put, z3, z4, z5]
            refine wpAnyH_done (by kernel_rfl) ?_ _
            have c9 := bl2 hS9 c8
            replace kx := kx.later hS9
            replace kp := kp.later hS9
            clear hS9 c8
            have x2 := kx.c2
            have y2 := ky.c2
            cases q
            · go_wp2_with fail
              (go_ret; exact ⟨⟨_, rfl⟩, c9⟩)
            go_wp2_with fail
            all_goals first
              | (go_ret; exact ⟨⟨_, rfl⟩, c9⟩)
              | (go_roundg (gk - 1)
                 case measure => omega
                 case rel => exact ⟨k + 1, by omega, by go_num, kp, c9⟩)
          · refine value_wp (by simp only [z0, z1]; go_simp; first | done | rfl | exact ⟨rfl, rfl⟩) ?_
            have hT : SB w8 ((w8.alloc (.cells #[.int .i64 0, .int .i64 0, .int .i64 0, .string { data := #[] }] 64)).drew) := ((Below.refl _ _).alloc (Nat.le_refl _) _).drew
            have hN : Bk.Blk ((w8.alloc (.cells #[.int .i64 0, .int .i64 0, .int .i64 0, .string { data := #[] }] 64)).drew) w8.heap.size _ 64 := Bk.Blk.drew Bk.Blk.nw10
            refine hK.out _ _ hT (fun hT' => ?_)
            clear hT' hK hS
            simp only [z0, z1, Act.put, z3, z4, z5]
            have hlt9 := hN.lt
            have hge9 : w8.heap.size ≤ w8.heap.size := Nat.le_refl _
            generalize ((w8.alloc (.cells _ 64)).drew) = u1 at *
            obtain ⟨g9, eg9⟩ : ∃ g, g = w8.heap.size := ⟨_, rfl⟩
            rw [← eg9] at hN hlt9
            replace hge9 : w8.heap.size ≤ g9 := by omega
            rw [← eg9]
            clear eg9
            refine one_at 5 (by decide) (by kernel_rfl) (by rfl) (fun K hK => ?_)
            refine call_wp (by simp only [z0, z1]; go_simp; first | done | rfl | exact ⟨rfl, rfl⟩ | exact ⟨rfl, rfl, rfl⟩ | exact ⟨rfl, rfl, rfl, rfl⟩) ((HFD.out _ (bl2 hT c8)).mono ?_)
            rintro e v1 ⟨⟨y, q, rfl⟩, hb⟩
            have hU := SB.mono _ _ hT hb
            replace hN := hN.later hb
            refine ⟨_, rfl, hK.out _ _ hU (fun hU' => ?_)⟩
            clear hU' hT hK
            simp only [z0, z1, Act.put, z3, z4, z5]
            refine tk 6 (by decide) ?_ hU (by kernel_rfl) (by kernel_rfl) (by kernel_rfl) (by rfl) (fun _ _ _ h => h) ?_ ?_
            rotate_left
            · intro W hW
              clear hW
              simp only [z0, z1]
              go_simp
              first | done | with_reducible rfl
            simp only [z0, z1, Act.put, z3, z4, z5]
            refine tk 7 (by decide) ?_ hU (by kernel_rfl) (by kernel_rfl) (by kernel_rfl) (by rfl) (fun _ _ _ h => h) ?_ ?_
            rotate_left
            · intro W hW
              clear hW
              simp only [z0, z1]
              go_simp
              first | done | with_reducible rfl
            simp only [z0, z1, Act.put, z3, z4, z5]
            refine tk 8 (by decide) ?_ hU (by kernel_rfl) (by kernel_rfl) (by kernel_rfl) (by rfl) (fun _ _ _ h => h) ?_ ?_
            rotate_left
            · intro W hW
              clear hW
              simp only [z0, z1]
              go_simp
              first | done | with_reducible rfl
            simp only [z0, z1, Act.put, z3, z4, z5]
            refine one_at 10 (by decide) (by kernel_rfl) (by rfl) (fun K hK => ?_)
            simp only [z0, z1]
            refine wp_store_row 64 _ _ rfl g9 _ rfl rfl _ _ (hN) (by kernel_rfl) rfl (by simp [Value.oneCell']) ?_
            have hS9 : SB w8 (v1.setRow g9 #[.int .i64 (y).id, .int .i64 (y).pa, .int .i64 (y).ki, .string (y).nm]) := Below_setRow hU hge9 _
            have ky : Bk.Blk (v1.setRow g9 #[.int .i64 (y).id, .int .i64 (y).pa, .int .i64 (y).ki, .string (y).nm]) g9 _ 64 := Blk_setRow_same hN
            refine hK.out _ _ hS9 (fun hU' => ?_)
            clear hU' hU hK hb hlt9 hge9 hN
            simp only [z0, z1, Act.put, z3, z4, z5]
            generalize (v1.setRow g9 #[.int .i64 (y).id, .int .i64 (y).pa, .int .i64 (y).ki, .string (y).nm]) = w9 at *
            refine tk 11 (by decide) ?_ hS9 (by kernel_rfl) (by kernel_rfl) (by kernel_rfl) (by rfl) (fun _ _ _ h => h) ?_ ?_
            rotate_left
            · intro W hW
              clear hW
              simp only [z0, z1]
              go_simp
              first | done | with_reducible rfl
            simp only [z0, z1, Act.put, z3, z4, z5]
            refine wpAnyH_done (by kernel_rfl) ?_ _
            have c9 := bl2 hS9 c8
            replace kx := kx.later hS9
            replace kp := kp.later hS9
            clear hS9 c8
            have x2 := kx.c2
            have y2 := ky.c2
            cases q
            · go_wp2_with fail
              (go_ret; exact ⟨⟨_, rfl⟩, c9⟩)
            go_wp2_with fail
            all_goals first
              | (go_ret; exact ⟨⟨_, rfl⟩, c9⟩)
              | (go_roundg (gk - 1)
                 case measure => omega
                 case rel => exact ⟨k + 1, by omega, by go_num, kp, c9⟩)
        · go_wp2_with fail
          go_roundg (gk - 1)
          case measure => omega
          case rel => exact ⟨k + 1, by omega, by go_num, kp, c8⟩
      · have g0 : decide (0 < k) = true := decide_eq_true (by omega)
        have g0b : decide ((0 : Int) < (k : Int)) = true := decide_eq_true (by omega)
        have hw0 : IntKind.i64.wrap ((k : Int) - 1) = ((k - 1 : Nat) : Int) := by rw [IntKind.wrap_i64]; omega
        have i3 : k - 1 < l.length := by omega
        have hm2 := HC3.out (k - 1) i3
        obtain ⟨d2, hd2⟩ : ∃ d2, d2 = l[k - 1]! := ⟨_, rfl⟩
        rw [← hd2] at hm2
        clear hd2 h0
        have p0 : w3.cell? ⟨b, off + (k - 1) * 4, none⟩ = some (.int .i64 d2.id) := hm2 0 _ rfl
        clear hm2
        refine Reg.region_quiet (by kernel_rfl) (by kernel_rfl) ?_
        iterate 13 (first | go_big_quiet_skip | (go_big_quiet_want; (first | (go_big_quiet_op; go_big_quiet_on) | (apply Reg.quiet_run; (intro W hW; (have q0 := hW.cell m0; have q1 := hW.cell p0); go_simp; (first | done | rfl | exact ⟨rfl, rfl⟩ )); (simp only [Act.put, List.setIfInBounds_toArray, List.set_cons_zero, List.set_cons_succ]; go_big_quiet_on)) | (apply Reg.quiet_call; (intro W hW; go_simp; (first | done | rfl | exact ⟨rfl, rfl⟩)); (intro W hW; (first | fail)); (simp only [Act.put, List.setIfInBounds_toArray, List.set_cons_zero, List.set_cons_succ]; go_big_quiet_on)))))
        refine wpQuiet_nil ?_
        intro w8 hW
        have c8 := bl2 hW c3
        replace kx := kx.later hW
        replace kp := kp.later hW
        have HCW := Lib.hid (range_later hW (HC3.out k hlt))
        clear hW m0
        have x3 := kx.c3
        go_wp2_with fail
        all_goals first
          | (go_ret; exact ⟨⟨_, rfl⟩, c8⟩)
          | skip
        refine (name18_any _ _ HSZ.out).mono ?_
        rintro e w' ⟨⟨q, rfl⟩, rfl⟩
        clear x3
        cases q
        · go_wp2_with fail
          (go_ret; exact ⟨⟨_, rfl⟩, c8⟩)
        have x1 := kx.c1
        cases hp0 : (d.pa == 0)
        · go_upto_region 14 with fail
          clear x1 hp0
          have hS0 : SB w8 w8.drew := (Below.refl _ _).drew
          refine wp_region_held_drew (S := SB w8) (by kernel_rfl) hS0 (fun hS => ?_)
          clear hS0
          refine tk 0 (by decide) ?_ hS (by kernel_rfl) (by kernel_rfl) (by kernel_rfl) (by rfl) (fun _ _ _ h => h) ?_ ?_
          rotate_left
          · intro W hW
            clear hW
            simp only [z0, z1]
            go_simp
            first | done | with_reducible rfl
          simp only [z0, z1, Act.put, z3, z4, z5]
          refine tk 1 (by decide) ?_ hS (by kernel_rfl) (by kernel_rfl) (by kernel_rfl) (by rfl) (fun _ _ _ h => h) ?_ ?_
          rotate_left
          · intro W hW
            clear hW
            simp only [z0, z1]
            go_simp
            first | done | with_reducible rfl
          simp only [z0, z1, Act.put, z3, z4, z5]
          refine tk 2 (by decide) ?_ hS (by kernel_rfl) (by kernel_rfl) (by kernel_rfl) (by rfl) (fun _ _ _ h => h) ?_ ?_
          rotate_left
          · intro W hW
            clear hW
            simp only [z0, z1]
            go_simp
            first | done | with_reducible rfl
          simp only [z0, z1, Act.put, z3, z4, z5]
          refine tk 3 (by decide) ?_ hS (by kernel_rfl) (by kernel_rfl) (by kernel_rfl) (by rfl) (fun _ _ _ h => h) ?_ ?_
          rotate_left
          · intro W hW
            clear hW
            simp only [z0, z1]
            go_simp
            first | done | with_reducible rfl
          simp only [z0, z1, Act.put, z3, z4, z5]
          refine tk 4 (by decide) ?_ hS (by kernel_rfl) (by kernel_rfl) (by kernel_rfl) (by rfl) (fun _ _ _ h => h) ?_ ?_
          rotate_left
          · intro W hW
            have q0 := (kx.later hW).c1
            clear hW
            simp only [z0, z1]
            go_simp
            first | done | with_reducible rfl
          simp only [z0, z1, Act.put, z3, z4, z5]
          refine two_at 5 9 (by decide) (by decide) (by kernel_rfl) (by rfl) (by rfl) (fun K hK => ?_) (fun K hK => ?_)
          · refine call_wp (by simp only [z0, z1]; go_simp; first | done | rfl | exact ⟨rfl, rfl⟩ | exact ⟨rfl, rfl, rfl⟩ | exact ⟨rfl, rfl, rfl, rfl⟩) ((HFD.out _ (bl2 hS c8)).mono ?_)
            rintro e v1 ⟨⟨y, q, rfl⟩, hb⟩
            have hT := SB.mono _ _ hS hb
            refine ⟨_, rfl, hK.out _ _ hT (fun hT' => ?_)⟩
            clear hT' hS
            simp only [z0, z1, Act.put, z3, z4, z5]
            refine tk 6 (by decide) ?_ hT (by kernel_rfl) (by kernel_rfl) (by kernel_rfl) (by rfl) (fun _ _ _ h => h) ?_ ?_
            rotate_left
            · intro W hW
              clear hW
              simp only [z0, z1]
              go_simp
              first | done | with_reducible rfl
            simp only [z0, z1, Act.put, z3, z4, z5]
            refine tk 7 (by decide) ?_ hT (by kernel_rfl) (by kernel_rfl) (by kernel_rfl) (by rfl) (fun _ _ _ h => h) ?_ ?_
            rotate_left
            · intro W hW
              clear hW
              simp only [z0, z1]
              go_simp
              first | done | with_reducible rfl
            simp only [z0, z1, Act.put, z3, z4, z5]
            refine tk 8 (by decide) ?_ hT (by kernel_rfl) (by kernel_rfl) (by kernel_rfl) (by rfl) (fun _ _ _ h => h) ?_ ?_
            rotate_left
            · intro W hW
              clear hW
              simp only [z0, z1]
              go_simp
              first | done | with_reducible rfl
            simp only [z0, z1, Act.put, z3, z4, z5]
            refine one_at 9 (by decide) (by kernel_rfl) (by rfl) (fun K hK => ?_)
            refine value_wp (by simp only [z0, z1]; go_simp; first | done | rfl | exact ⟨rfl, rfl⟩) ?_
            have hU : SB w8 (v1.alloc (.cells #[.int .i64 0, .int .i64 0, .int .i64 0, .string { data := #[] }] 64)) := SB.mono _ _ hT ((Below.refl _ _).alloc (Nat.le_refl _) _)
            refine hK.out _ _ hU (fun hU' => ?_)
            clear hU'
            simp only [z0, z1, Act.put, z3, z4, z5]
            refine one_at 10 (by decide) (by kernel_rfl) (by rfl) (fun K hK => ?_)
            simp only [z0, z1]
            refine wp_store_row 64 _ _ rfl v1.heap.size _ rfl rfl _ _ (Bk.Blk.nw10) (by kernel_rfl) rfl (by simp [Value.oneCell']) ?_
            have hX : Below v1.heap.size v1 ((v1.alloc (.cells #[.int .i64 0, .int .i64 0, .int .i64 0, .string { data := #[] }] 64)).setRow v1.heap.size #[.int .i64 (y).id, .int .i64 (y).pa, .int .i64 (y).ki, .string (y).nm]) := Below_setRow ((Below.refl _ _).alloc (Nat.le_refl _) _) (Nat.le_refl _) _
            have hS9 : SB w8 ((v1.alloc (.cells #[.int .i64 0, .int .i64 0, .int .i64 0, .string { data := #[] }] 64)).setRow v1.heap.size #[.int .i64 (y).id, .int .i64 (y).pa, .int .i64 (y).ki, .string (y).nm]) := SB.mono _ _ hT hX
            have ky : Bk.Blk ((v1.alloc (.cells #[.int .i64 0, .int .i64 0, .int .i64 0, .string { data := #[] }] 64)).setRow v1.heap.size #[.int .i64 (y).id, .int .i64 (y).pa, .int .i64 (y).ki, .string (y).nm]) v1.heap.size _ 64 := Blk_setRow_same Bk.Blk.nw10
            refine hK.out _ _ hS9 (fun hU' => ?_)
            clear hU' hU hT hK hX hb
            simp only [z0, z1, Act.put, z3, z4, z5]
            generalize ((v1.alloc (.cells _ 64)).setRow v1.heap.size _) = w9 at *
            generalize v1.heap.size = g9 at *
            refine tk 11 (by decide) ?_ hS9 (by kernel_rfl) (by kernel_rfl) (by kernel_rfl) (by rfl) (fun _ _ _ h => h) ?_ ?_
            rotate_left
            · intro W hW
              clear hW
              simp only [z0, z1]
              go_simp
              first | done | with_reducible rfl
            simp only [z0, z1, Act.put, z3, z4, z5]
            refine wpAnyH_done (by kernel_rfl) ?_ _
            have c9 := bl2 hS9 c8
            replace kx := kx.later hS9
            replace kp := kp.later hS9
            clear hS9 c8
            have x2 := kx.c2
            have y2 := ky.c2
            cases q
            · go_wp2_with fail
              (go_ret; exact ⟨⟨_, rfl⟩, c9⟩)
            go_wp2_with fail
            all_goals first
              | (go_ret; exact ⟨⟨_, rfl⟩, c9⟩)
              | (go_roundg (gk - 1)
                 case measure => omega
                 case rel => exact ⟨k + 1, by omega, by go_num, kp, c9⟩)
          · refine value_wp (by simp only [z0, z1]; go_simp; first | done | rfl | exact ⟨rfl, rfl⟩) ?_
            have hT : SB w8 ((w8.alloc (.cells #[.int .i64 0, .int .i64 0, .int .i64 0, .string { data := #[] }] 64)).drew) := ((Below.refl _ _).alloc (Nat.le_refl _) _).drew
            have hN : Bk.Blk ((w8.alloc (.cells #[.int .i64 0, .int .i64 0, .int .i64 0, .string { data := #[] }] 64)).drew) w8.heap.size _ 64 := Bk.Blk.drew Bk.Blk.nw10
            refine hK.out _ _ hT (fun hT' => ?_)
            clear hT' hK hS
            simp only [z0, z1, Act.put, z3, z4, z5]
            have hlt9 := hN.lt
            have hge9 : w8.heap.size ≤ w8.heap.size := Nat.le_refl _
            generalize ((w8.alloc (.cells _ 64)).drew) = u1 at *
            obtain ⟨g9, eg9⟩ : ∃ g, g = w8.heap.size := ⟨_, rfl⟩
            rw [← eg9] at hN hlt9
            replace hge9 : w8.heap.size ≤ g9 := by omega
            rw [← eg9]
            clear eg9
            refine one_at 5 (by decide) (by kernel_rfl) (by rfl) (fun K hK => ?_)
            refine call_wp (by simp only [z0, z1]; go_simp; first | done | rfl | exact ⟨rfl, rfl⟩ | exact ⟨rfl, rfl, rfl⟩ | exact ⟨rfl, rfl, rfl, rfl⟩) ((HFD.out _ (bl2 hT c8)).mono ?_)
            rintro e v1 ⟨⟨y, q, rfl⟩, hb⟩
            have hU := SB.mono _ _ hT hb
            replace hN := hN.later hb
            refine ⟨_, rfl, hK.out _ _ hU (fun hU' => ?_)⟩
            clear hU' hT hK
            simp only [z0, z1, Act.put, z3, z4, z5]
            refine tk 6 (by decide) ?_ hU (by kernel_rfl) (by kernel_rfl) (by kernel_rfl) (by rfl) (fun _ _ _ h => h) ?_ ?_
            rotate_left
            · intro W hW
              clear hW
              simp only [z0, z1]
              go_simp
              first | done | with_reducible rfl
            simp only [z0, z1, Act.put, z3, z4, z5]
            refine tk 7 (by decide) ?_ hU (by kernel_rfl) (by kernel_rfl) (by kernel_rfl) (by rfl) (fun _ _ _ h => h) ?_ ?_
            rotate_left
            · intro W hW
              clear hW
              simp only [z0, z1]
              go_simp
              first | done | with_reducible rfl
            simp only [z0, z1, Act.put, z3, z4, z5]
            refine tk 8 (by decide) ?_ hU (by kernel_rfl) (by kernel_rfl) (by kernel_rfl) (by rfl) (fun _ _ _ h => h) ?_ ?_
            rotate_left
            · intro W hW
              clear hW
              simp only [z0, z1]
              go_simp
              first | done | with_reducible rfl
            simp only [z0, z1, Act.put, z3, z4, z5]
            refine one_at 10 (by decide) (by kernel_rfl) (by rfl) (fun K hK => ?_)
            simp only [z0, z1]
            refine wp_store_row 64 _ _ rfl g9 _ rfl rfl _ _ (hN) (by kernel_rfl) rfl (by simp [Value.oneCell']) ?_
            have hS9 : SB w8 (v1.setRow g9 #[.int .i64 (y).id, .int .i64 (y).pa, .int .i64 (y).ki, .string (y).nm]) := Below_setRow hU hge9 _
            have ky : Bk.Blk (v1.setRow g9 #[.int .i64 (y).id, .int .i64 (y).pa, .int .i64 (y).ki, .string (y).nm]) g9 _ 64 := Blk_setRow_same hN
            refine hK.out _ _ hS9 (fun hU' => ?_)
            clear hU' hU hK hb hlt9 hge9 hN
            simp only [z0, z1, Act.put, z3, z4, z5]
            generalize (v1.setRow g9 #[.int .i64 (y).id, .int .i64 (y).pa, .int .i64 (y).ki, .string (y).nm]) = w9 at *
            refine tk 11 (by decide) ?_ hS9 (by kernel_rfl) (by kernel_rfl) (by kernel_rfl) (by rfl) (fun _ _ _ h => h) ?_ ?_
            rotate_left
            · intro W hW
              clear hW
              simp only [z0, z1]
              go_simp
              first | done | with_reducible rfl
            simp only [z0, z1, Act.put, z3, z4, z5]
            refine wpAnyH_done (by kernel_rfl) ?_ _
            have c9 := bl2 hS9 c8
            replace kx := kx.later hS9
            replace kp := kp.later hS9
            clear hS9 c8
            have x2 := kx.c2
            have y2 := ky.c2
            cases q
            · go_wp2_with fail
              (go_ret; exact ⟨⟨_, rfl⟩, c9⟩)
            go_wp2_with fail
            all_goals first
              | (go_ret; exact ⟨⟨_, rfl⟩, c9⟩)
              | (go_roundg (gk - 1)
                 case measure => omega
                 case rel => exact ⟨k + 1, by omega, by go_num, kp, c9⟩)
        · go_wp2_with fail
          go_roundg (gk - 1)
          case measure => omega
          case rel => exact ⟨k + 1, by omega, by go_num, kp, c8⟩
    · have p0 := kp.c0
      have p1 := kp.c1
      have p2 := kp.c2
      have p3 := kp.c3
      have p4 := kp.c4
      have p5 := kp.c5
      have p6 := kp.c6
      have p7 := kp.c7
      have p8 := kp.c8
      have p9 := kp.c9
      have p10 := kp.c10
      have p11 := kp.c11
      have p12 := kp.c12
      have p13 := kp.c13
      go_upto_region 21 with fail
      have cy : Below wr.heap.size wr ((wr.alloc (.cells #[.int .i64 p.p0, .int .i64 p.p1, .int .i64 p.p2, .int .i64 p.p3, .int .i64 p.p4, .int .i64 p.p5, .int .i64 p.p6, .int .i64 p.p7, .int .i64 p.p8, .int .i64 p.p9, .int .i64 p.p10, .int .i64 p.p11, .int .i64 p.p12, .int .i64 p.p13] 3)).alloc (.cells #[.int .i64 1, .int .i64 2, .int .i64 5, .int .i64 4, .int .i64 4, .int .i64 2, .int .i64 1, .int .i64 1, .int .i64 4, .int .i64 4, .int .i64 2, .int .i64 5, .int .i64 5, .int .i64 4] 3)) := Bk.be
      have k1 : Bk.Blk ((wr.alloc (.cells #[.int .i64 p.p0, .int .i64 p.p1, .int .i64 p.p2, .int .i64 p.p3, .int .i64 p.p4, .int .i64 p.p5, .int .i64 p.p6, .int .i64 p.p7, .int .i64 p.p8, .int .i64 p.p9, .int .i64 p.p10, .int .i64 p.p11, .int .i64 p.p12, .int .i64 p.p13] 3)).alloc (.cells #[.int .i64 1, .int .i64 2, .int .i64 5, .int .i64 4, .int .i64 4, .int .i64 2, .int .i64 1, .int .i64 1, .int .i64 4, .int .i64 4, .int .i64 2, .int .i64 5, .int .i64 5, .int .i64 4] 3)) wr.heap.size _ 3 := Bk.Blk.nw20
      have k2 : Bk.Blk ((wr.alloc (.cells #[.int .i64 p.p0, .int .i64 p.p1, .int .i64 p.p2, .int .i64 p.p3, .int .i64 p.p4, .int .i64 p.p5, .int .i64 p.p6, .int .i64 p.p7, .int .i64 p.p8, .int .i64 p.p9, .int .i64 p.p10, .int .i64 p.p11, .int .i64 p.p12, .int .i64 p.p13] 3)).alloc (.cells #[.int .i64 1, .int .i64 2, .int .i64 5, .int .i64 4, .int .i64 4, .int .i64 2, .int .i64 1, .int .i64 1, .int .i64 4, .int .i64 4, .int .i64 2, .int .i64 5, .int .i64 5, .int .i64 4] 3)) (wr.heap.size + 1) _ 3 := Bk.Blk.nw21
      have c9 := bl2 cy hbr
      clear cy hbr kp p0 p1 p2 p3 p4 p5 p6 p7 p8 p9 p10 p11 p12 p13
      (try simp only [Act.put])
      generalize ((wr.alloc (.cells _ 3)).alloc (.cells _ 3)) = w9 at *
      generalize wr.heap.size = g9 at *
      have HK1 := Lib.hid (fun (i : Nat) (hi : i < 14) => ints_at k1 (by rfl) i hi)
      have HK2 := Lib.hid (fun (i : Nat) (hi : i < 14) => ints_at k2 (by rfl) i hi)
      clear k1 k2
      go_wp2_with fail
      go_loopg [11] 14 (UsR w w9)
      case atStart => exact ⟨0, by omega, rfl, Below.refl _ _, c9⟩
      case round =>
        clear c9
        obtain ⟨i, hi, rfl, h9, hbr⟩ := hrel
        by_cases hlt2 : i < 14
        · obtain ⟨x, m0'⟩ := HK1.out i hlt2
          obtain ⟨y, m1'⟩ := HK2.out i hlt2
          have m0 := cell_later h9 m0'
          have m1 := cell_later h9 m1'
          clear m0' m1'
          go_upto_region 24 with fail
          have hS0 : SB wr wr.drew := (Below.refl _ _).drew
          refine wp_region_held_drew (S := SB wr) (by kernel_rfl) hS0 (fun hS => ?_)
          clear hS0
          refine tk 0 (by decide) ?_ hS (by kernel_rfl) (by kernel_rfl) (by kernel_rfl) (by rfl) (fun _ _ _ h => h) ?_ ?_
          rotate_left
          · intro W hW
            clear hW
            simp only [z0, z1]
            go_simp
            first | done | with_reducible rfl
          simp only [z0, z1, Act.put, z3, z4, z5]
          refine tk 1 (by decide) ?_ hS (by kernel_rfl) (by kernel_rfl) (by kernel_rfl) (by rfl) (fun _ _ _ h => h) ?_ ?_
          rotate_left
          · intro W hW
            clear hW
            simp only [z0, z1]
            go_simp
            first | done | with_reducible rfl
          simp only [z0, z1, Act.put, z3, z4, z5]
          refine tk 2 (by decide) ?_ hS (by kernel_rfl) (by kernel_rfl) (by kernel_rfl) (by rfl) (fun _ _ _ h => h) ?_ ?_
          rotate_left
          · intro W hW
            clear hW
            simp only [z0, z1]
            go_simp
            first | done | with_reducible rfl
          simp only [z0, z1, Act.put, z3, z4, z5]
          refine tk 3 (by decide) ?_ hS (by kernel_rfl) (by kernel_rfl) (by kernel_rfl) (by rfl) (fun _ _ _ h => h) ?_ ?_
          rotate_left
          · intro W hW
            clear hW
            simp only [z0, z1]
            go_simp
            first | done | with_reducible rfl
          simp only [z0, z1, Act.put, z3, z4, z5]
          refine tk 4 (by decide) ?_ hS (by kernel_rfl) (by kernel_rfl) (by kernel_rfl) (by rfl) (fun _ _ _ h => h) ?_ ?_
          rotate_left
          · intro W hW
            have q0 := cell_later hW m0; have q1 := cell_later hW m1
            clear hW
            simp only [z0, z1]
            go_simp
            first | done | with_reducible rfl
          simp only [z0, z1, Act.put, z3, z4, z5]
          refine tk 5 (by decide) ?_ hS (by kernel_rfl) (by kernel_rfl) (by kernel_rfl) (by rfl) (fun _ _ _ h => h) ?_ ?_
          rotate_left
          · intro W hW
            clear hW
            simp only [z0, z1]
            go_simp
            first | done | with_reducible rfl
          simp only [z0, z1, Act.put, z3, z4, z5]
          refine tk 6 (by decide) ?_ hS (by kernel_rfl) (by kernel_rfl) (by kernel_rfl) (by rfl) (fun _ _ _ h => h) ?_ ?_
          rotate_left
          · intro W hW
            clear hW
            simp only [z0, z1]
            go_simp
            first | done | with_reducible rfl
          simp only [z0, z1, Act.put, z3, z4, z5]
          refine tk 7 (by decide) ?_ hS (by kernel_rfl) (by kernel_rfl) (by kernel_rfl) (by rfl) (fun _ _ _ h => h) ?_ ?_
          rotate_left
          · intro W hW
            clear hW
            simp only [z0, z1]
            go_simp
            first | done | with_reducible rfl
          simp only [z0, z1, Act.put, z3, z4, z5]
          refine tk 8 (by decide) ?_ hS (by kernel_rfl) (by kernel_rfl) (by kernel_rfl) (by rfl) (fun _ _ _ h => h) ?_ ?_
          rotate_left
          · intro W hW
            have q0 := cell_later hW m0; have q1 := cell_later hW m1
            clear hW
            simp only [z0, z1]
            go_simp
            first | done | with_reducible rfl
          simp only [z0, z1, Act.put, z3, z4, z5]
          refine call_at 9 (by decide) (Pi := fun v _ => ∃ q : Int, v = .int .i64 q) (by kernel_rfl) (by rfl) (by simp only [z0, z1]; go_simp; first | done | rfl | exact ⟨rfl, rfl⟩ | exact ⟨rfl, rfl, rfl⟩ | exact ⟨rfl, rfl, rfl, rfl⟩) (call_isn hS (HUS.out _ _ _ (bl2 hS hbr))) ?_
          clear hS
          rintro w9 u hS ⟨n, rfl⟩
          simp only [z0, z1, Act.put, z3, z4, z5]
          refine tk 10 (by decide) ?_ hS (by kernel_rfl) (by kernel_rfl) (by kernel_rfl) (by rfl) (fun _ _ _ h => h) ?_ ?_
          rotate_left
          · intro W hW
            clear hW
            simp only [z0, z1]
            go_simp
            first | done | with_reducible rfl
          simp only [z0, z1, Act.put, z3, z4, z5]
          refine wpAnyH_done (by kernel_rfl) ?_ _
          have c10 := bl2 hS hbr
          have h10 := bl2 hS h9
          clear hS hbr h9 m0 m1
          by_cases h0 : n = 0
          · have g0 : (n != 0) = false := by rw [h0]; rfl
            clear h0
            go_wp2_with fail
            go_roundg (gk - 1)
            case measure => omega
            case rel => exact ⟨i + 1, by omega, by go_num, h10, c10⟩
          · have g0 : (n != 0) = true := bne_iff_ne.2 h0
            clear h0
            go_wp2_with fail
            (go_ret; exact ⟨⟨_, rfl⟩, c10⟩)
        · go_wp2_with fail
          (go_ret; exact ⟨⟨_, rfl⟩, hbr⟩)
end Go.Proofs.YtjhpiclnpmdjnaaGreatDoor.Bm
