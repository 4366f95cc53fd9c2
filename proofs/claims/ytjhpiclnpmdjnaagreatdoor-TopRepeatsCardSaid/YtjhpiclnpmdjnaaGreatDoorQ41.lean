/-
  Parts of the proof: Y23.
-/
import Derived.Test.YtjhpiclnpmdjnaaGreatDoorQ40
namespace Go.Proofs.YtjhpiclnpmdjnaaGreatDoor.Bm
open Go Go.RowKit
open Go.Proofs.YtjhpiclnpmdjnaaGreatDoor
open Go.Proofs.YtjhpiclnpmdjnaaGreatDoor.Kl (byt byt_get)
open Go.Proofs.YtjhpiclnpmdjnaaGreatDoor.Ln (load_guarded SB tk ts z0 z1 z3 z4 z5 take_at call_at flat flat_len flat_get flat_mem RowIn OwnR Idx bl2 results2_cell Blk_setRow_same Blk_setRow_ne Below_setRow)
set_option linter.unusedSimpArgs false
set_option linter.unusedVariables false
set_option maxRecDepth 100000
def IsFw (B : Bo) (e : Ending) : Prop := ∃ q : Bool, e = .returned (.bool q) ∧ (q = true → FewB B)
def FwJ (w : World) (B : Bo) (g : Nat) (s : Value) (W : World) : Prop := ∃ k : Nat, k + g = B.js.length ∧ s = .int .i64 k ∧ (∀ j, j < k → (B.js[j]!).lg.length ≤ 12) ∧ Bk.Blk W w.heap.size #[.slice (B).ua (B).us.length (B).uk, .slice (B).ka (B).kn (B).kk, .slice (B).ga (B).gs.length (B).gk, .int .i64 ((B).pl).p0, .int .i64 ((B).pl).p1, .int .i64 ((B).pl).p2, .int .i64 ((B).pl).p3, .int .i64 ((B).pl).p4, .int .i64 ((B).pl).p5, .int .i64 ((B).pl).p6, .int .i64 ((B).pl).p7, .int .i64 ((B).pl).p8, .int .i64 ((B).pl).p9, .int .i64 ((B).pl).p10, .int .i64 ((B).pl).p11, .int .i64 ((B).pl).p12, .int .i64 ((B).pl).p13, .slice (B).pa (B).ps.length (B).pk, .slice (B).aa (B).as.length (B).ak, .slice (B).ja (B).js.length (B).jk, .slice (B).ha (B).hn (B).hk, .slice (B).ba (B).bn (B).bk] 33 ∧ Below w.heap.size w W
set_option maxHeartbeats 64000000 in
theorem few_any (B : Bo) (w : World) (h : BkIn w B) : Calls Tryz.prog 7 #[(.agg #[.slice (B).ua (B).us.length (B).uk, .slice (B).ka (B).kn (B).kk, .slice (B).ga (B).gs.length (B).gk, .int .i64 ((B).pl).p0, .int .i64 ((B).pl).p1, .int .i64 ((B).pl).p2, .int .i64 ((B).pl).p3, .int .i64 ((B).pl).p4, .int .i64 ((B).pl).p5, .int .i64 ((B).pl).p6, .int .i64 ((B).pl).p7, .int .i64 ((B).pl).p8, .int .i64 ((B).pl).p9, .int .i64 ((B).pl).p10, .int .i64 ((B).pl).p11, .int .i64 ((B).pl).p12, .int .i64 ((B).pl).p13, .slice (B).pa (B).ps.length (B).pk, .slice (B).aa (B).as.length (B).ak, .slice (B).ja (B).js.length (B).jk, .slice (B).ha (B).hn (B).hk, .slice (B).ba (B).bn (B).bk])] w fun e w' => IsFw B e ∧ Below w.heap.size w w' := by
  obtain ⟨ks, hkr, hkn, -, -⟩ := h.k
  have HKR := Lib.hid hkr
  have HKN := Lib.hid hkn
  have HJR := Lib.hid h.j.1
  clear h hkr hkn
  have cw : Below w.heap.size w (w.alloc (.cells #[.slice (B).ua (B).us.length (B).uk, .slice (B).ka (B).kn (B).kk, .slice (B).ga (B).gs.length (B).gk, .int .i64 ((B).pl).p0, .int .i64 ((B).pl).p1, .int .i64 ((B).pl).p2, .int .i64 ((B).pl).p3, .int .i64 ((B).pl).p4, .int .i64 ((B).pl).p5, .int .i64 ((B).pl).p6, .int .i64 ((B).pl).p7, .int .i64 ((B).pl).p8, .int .i64 ((B).pl).p9, .int .i64 ((B).pl).p10, .int .i64 ((B).pl).p11, .int .i64 ((B).pl).p12, .int .i64 ((B).pl).p13, .slice (B).pa (B).ps.length (B).pk, .slice (B).aa (B).as.length (B).ak, .slice (B).ja (B).js.length (B).jk, .slice (B).ha (B).hn (B).hk, .slice (B).ba (B).bn (B).bk] 33)) := Bk.be
  have kb : Bk.Blk (w.alloc (.cells #[.slice (B).ua (B).us.length (B).uk, .slice (B).ka (B).kn (B).kk, .slice (B).ga (B).gs.length (B).gk, .int .i64 ((B).pl).p0, .int .i64 ((B).pl).p1, .int .i64 ((B).pl).p2, .int .i64 ((B).pl).p3, .int .i64 ((B).pl).p4, .int .i64 ((B).pl).p5, .int .i64 ((B).pl).p6, .int .i64 ((B).pl).p7, .int .i64 ((B).pl).p8, .int .i64 ((B).pl).p9, .int .i64 ((B).pl).p10, .int .i64 ((B).pl).p11, .int .i64 ((B).pl).p12, .int .i64 ((B).pl).p13, .slice (B).pa (B).ps.length (B).pk, .slice (B).aa (B).as.length (B).ak, .slice (B).ja (B).js.length (B).jk, .slice (B).ha (B).hn (B).hk, .slice (B).ba (B).bn (B).bk] 33)) w.heap.size _ 33 := Bk.Blk.nw10
  go_enter Tryz.func7, Tryz.ntmps7
  go_upto_region 1 with fail
  generalize (w.alloc (.cells _ 33)) = w1 at *
  have b0 := kb.c0
  have b1 := kb.c1
  have b2 := kb.c2
  have b17 := kb.c17
  have b18 := kb.c18
  have b19 := kb.c19
  have b20 := kb.c20
  have b21 := kb.c21
  by_cases h1 : 8 < B.as.length
  · go_wp2_with fail
    (go_ret; exact ⟨⟨_, rfl, fun h => by cases h⟩, cw⟩)
  by_cases h2 : 90 < B.js.length
  · go_wp2_with fail
    (go_ret; exact ⟨⟨_, rfl, fun h => by cases h⟩, cw⟩)
  by_cases h3 : 40 < B.gs.length
  · go_wp2_with fail
    (go_ret; exact ⟨⟨_, rfl, fun h => by cases h⟩, cw⟩)
  by_cases h4 : 12 < B.ps.length
  · go_wp2_with fail
    (go_ret; exact ⟨⟨_, rfl, fun h => by cases h⟩, cw⟩)
  by_cases h5 : 4 < B.kn
  · go_wp2_with fail
    (go_ret; exact ⟨⟨_, rfl, fun h => by cases h⟩, cw⟩)
  by_cases h6 : 20 < B.hn
  · go_wp2_with fail
    (go_ret; exact ⟨⟨_, rfl, fun h => by cases h⟩, cw⟩)
  by_cases h7 : 20 < B.bn
  · go_wp2_with fail
    (go_ret; exact ⟨⟨_, rfl, fun h => by cases h⟩, cw⟩)
  by_cases h8 : 8 < B.us.length
  · go_wp2_with fail
    (go_ret; exact ⟨⟨_, rfl, fun h => by cases h⟩, cw⟩)
  have HF := Lib.hid (fun hl => FewB.mk (B := B) (by omega) (by omega) (by omega) (by omega) (by omega) (by omega) (by omega) (by omega) hl)
  have hmk : B.kn ≤ 4 := by omega
  have hmj : B.js.length ≤ 90 := by omega
  go_wp2_with fail
  clear b0 b1 b2 b17 b18 b19 b20 b21 h1 h2 h3 h4 h5 h6 h7 h8
  go_loopg [3] B.kn (CkR w B B.kn)
  case atStart => exact ⟨0, by omega, rfl, kb, cw⟩
  case round =>
    clear kb cw
    obtain ⟨k, hk, rfl, kb, hbr⟩ := hrel
    have b1 := kb.c1
    by_cases hlt : k < B.kn
    · obtain ⟨b, off, ha, hc⟩ := rowat clenc_len HKR.out (by have := HKN.out; omega)
      have hm1 := range_later hbr (hc k (by have := HKN.out; omega))
      clear hc
      rw [ha] at b1
      clear ha
      obtain ⟨d, hd⟩ : ∃ d, d = ks[k]! := ⟨_, rfl⟩
      rw [← hd] at hm1
      clear hd
      have m1 : wr.cell? ⟨b, off + k * 3 + 1, none⟩ = some (.slice d.wa d.c.wk.length d.wc) := hm1 1 _ rfl
      have m2 : wr.cell? ⟨b, off + k * 3 + 2, none⟩ = some (.slice d.ha d.c.hol.length d.hc) := hm1 2 _ rfl
      clear hm1
      go_wp2_with fail
      all_goals first
        | (go_ret; exact ⟨⟨_, rfl, fun h => by cases h⟩, hbr⟩)
        | (go_roundg (gk - 1)
           case measure => omega
           case rel => exact ⟨k + 1, by omega, by go_num, kb, hbr⟩)
    · go_wp2_with fail
      clear b1 hk hlt
      go_loopg [4] B.js.length (FwJ w B)
      case atStart => exact ⟨0, by omega, rfl, fun j hj => absurd hj (Nat.not_lt_zero j), kb, hbr⟩
      case round =>
        clear kb hbr
        obtain ⟨i, hi, rfl, hall, kb, hbr⟩ := hrel
        have HA := Lib.hid hall
        clear hall
        have b19 := kb.c19
        by_cases hlt2 : i < B.js.length
        · obtain ⟨b, off, ha, hc⟩ := rowat enenc_len HJR.out (by omega)
          have hm1 := range_later hbr (hc i hlt2)
          clear hc
          rw [ha] at b19
          clear ha
          have HST := Lib.hid (fun (h3 : (B.js[i]!).lg.length ≤ 12) (j : Nat) (hj : j < i + 1) => show (B.js[j]!).lg.length ≤ 12 from by
            by_cases hjk : j = i
            · rw [hjk]; exact h3
            · exact HA.out j (by omega))
          obtain ⟨d, hd⟩ : ∃ d, d = B.js[i]! := ⟨_, rfl⟩
          rw [← hd] at hm1 HST
          clear hd
          have m8 : wr.cell? ⟨b, off + i * 10 + 8, none⟩ = some (.slice d.la d.lg.length d.lk) := hm1 8 _ rfl
          clear hm1
          by_cases h12 : 12 < d.lg.length
          · go_wp2_with fail
            (go_ret; exact ⟨⟨_, rfl, fun h => by cases h⟩, hbr⟩)
          · have HS2 := Lib.hid (HST.out (by omega))
            go_wp2_with fail
            go_roundg (gk - 1)
            case measure => omega
            case rel => exact ⟨i + 1, by omega, by go_num, HS2.out, kb, hbr⟩
        · have HFF := Lib.hid (HF.out (fun j hj => HA.out j (by omega)))
          go_wp2_with fail
          (go_ret; exact ⟨⟨_, rfl, fun _ => HFF.out⟩, hbr⟩)
set_option maxHeartbeats 64000000 in
theorem rchk26_any (B : Bo) (w : World) (h : BkIn w B) (hn : B.js.length ≤ 100000) : Calls Tryz.prog 8 #[(.agg #[.slice (B).ua (B).us.length (B).uk, .slice (B).ka (B).kn (B).kk, .slice (B).ga (B).gs.length (B).gk, .int .i64 ((B).pl).p0, .int .i64 ((B).pl).p1, .int .i64 ((B).pl).p2, .int .i64 ((B).pl).p3, .int .i64 ((B).pl).p4, .int .i64 ((B).pl).p5, .int .i64 ((B).pl).p6, .int .i64 ((B).pl).p7, .int .i64 ((B).pl).p8, .int .i64 ((B).pl).p9, .int .i64 ((B).pl).p10, .int .i64 ((B).pl).p11, .int .i64 ((B).pl).p12, .int .i64 ((B).pl).p13, .slice (B).pa (B).ps.length (B).pk, .slice (B).aa (B).as.length (B).ak, .slice (B).ja (B).js.length (B).jk, .slice (B).ha (B).hn (B).hk, .slice (B).ba (B).bn (B).bk])] w fun r w' => IsN r ∧ Below w.heap.size w w' := by
  obtain ⟨ks, hk1, hk2, hk3, hk4⟩ := h.k
  obtain ⟨hs, hh1, hh2, hh3, hh4⟩ := h.h
  obtain ⟨bs, hb1, hb2, hb3, hb4⟩ := h.b
  have hcc := h.c.2.2
  have H1 := Lib.hid (fun (W : World) (hW : Below w.heap.size w W) => rchk03_any B.ua B.uk B.us W h.u.2.1 (h.u.1.later hW) h.u.2.2)
  have H2 := Lib.hid (fun (W : World) (hW : Below w.heap.size w W) => (hk2 ▸ rcals_any B.ka B.kk ks W hk3 (hk1.later hW) (fun x hx => Kl.CalIn.later hW (hk4 x hx)) : Calls Tryz.prog 14 #[.slice B.ka B.kn B.kk] W fun e w' => IsN e ∧ Below W.heap.size W w'))
  have H3 := Lib.hid (fun (W : World) (hW : Below w.heap.size w W) => rchk18_any B.ga B.gk B.gs B.pl W h.g.2.1 h.c.1 (h.g.1.later hW) h.g.2.2)
  have H4 := Lib.hid (fun (W : World) (hW : Below w.heap.size w W) => rprods_any B W (h.later hW))
  have H5 := Lib.hid (fun (W : World) (hW : Below w.heap.size w W) => rchk24_any B W h.a.2.1 (h.a.1.later hW) (fun x hx => (h.a.2.2 x hx).1) h.p.2.1 (h.p.1.later hW))
  have H6 := Lib.hid (fun (W : World) (hW : Below w.heap.size w W) => rents26_any B W (h.later hW) hn)
  have H7 := Lib.hid (fun (W : World) (hW : Below w.heap.size w W) => (hh2 ▸ rchk22_any B.ha B.hk hs W hh3 (hh2 ▸ hcc) (hh1.later hW) hh4 : Calls Tryz.prog 19 #[.slice B.ha B.hn B.hk] W fun e w' => IsN e ∧ Below W.heap.size W w'))
  have H8 := Lib.hid (fun (W : World) (hW : Below w.heap.size w W) => (hb2 ▸ rchk23_any B.ba B.bk bs W hb3 (hb1.later hW) hb4 : Calls Tryz.prog 20 #[.slice B.ba B.bn B.bk] W fun e w' => IsN e ∧ Below W.heap.size W w'))
  clear h hk1 hk2 hk3 hk4 hh1 hh2 hh3 hh4 hb1 hb2 hb3 hb4 hcc hn
  have cw : Below w.heap.size w (w.alloc (.cells #[.slice (B).ua (B).us.length (B).uk, .slice (B).ka (B).kn (B).kk, .slice (B).ga (B).gs.length (B).gk, .int .i64 ((B).pl).p0, .int .i64 ((B).pl).p1, .int .i64 ((B).pl).p2, .int .i64 ((B).pl).p3, .int .i64 ((B).pl).p4, .int .i64 ((B).pl).p5, .int .i64 ((B).pl).p6, .int .i64 ((B).pl).p7, .int .i64 ((B).pl).p8, .int .i64 ((B).pl).p9, .int .i64 ((B).pl).p10, .int .i64 ((B).pl).p11, .int .i64 ((B).pl).p12, .int .i64 ((B).pl).p13, .slice (B).pa (B).ps.length (B).pk, .slice (B).aa (B).as.length (B).ak, .slice (B).ja (B).js.length (B).jk, .slice (B).ha (B).hn (B).hk, .slice (B).ba (B).bn (B).bk] 33)) := Bk.be
  have kb : Bk.Blk (w.alloc (.cells #[.slice (B).ua (B).us.length (B).uk, .slice (B).ka (B).kn (B).kk, .slice (B).ga (B).gs.length (B).gk, .int .i64 ((B).pl).p0, .int .i64 ((B).pl).p1, .int .i64 ((B).pl).p2, .int .i64 ((B).pl).p3, .int .i64 ((B).pl).p4, .int .i64 ((B).pl).p5, .int .i64 ((B).pl).p6, .int .i64 ((B).pl).p7, .int .i64 ((B).pl).p8, .int .i64 ((B).pl).p9, .int .i64 ((B).pl).p10, .int .i64 ((B).pl).p11, .int .i64 ((B).pl).p12, .int .i64 ((B).pl).p13, .slice (B).pa (B).ps.length (B).pk, .slice (B).aa (B).as.length (B).ak, .slice (B).ja (B).js.length (B).jk, .slice (B).ha (B).hn (B).hk, .slice (B).ba (B).bn (B).bk] 33)) w.heap.size _ 33 := Bk.Blk.nw10
  go_enter Tryz.func8, Tryz.ntmps8
  go_upto_region 1 with fail
  generalize (w.alloc (.cells _ 33)) = w1 at *
  have b0 := kb.c0
  go_wp2_with fail
  refine (H1.out _ cw).mono ?_
  rintro r w2 ⟨⟨n, rfl⟩, hb⟩
  have c2 := bl2 hb cw
  replace kb := kb.later hb
  clear hb cw b0
  by_cases h0 : n = 0
  rotate_left
  · have g0 : (n == 0) = false := beq_eq_false_iff_ne.2 h0
    clear h0
    go_wp2_with fail
    (go_ret; exact ⟨⟨_, rfl⟩, c2⟩)
  have gw2 : (n == 0) = true := by rw [h0]; rfl
  clear h0
  have b1 := kb.c1
  go_wp2_with fail
  refine (H2.out _ c2).mono ?_
  rintro r w3 ⟨⟨n, rfl⟩, hb⟩
  have c3 := bl2 hb c2
  replace kb := kb.later hb
  clear hb c2 b1 gw2
  by_cases h0 : n = 0
  rotate_left
  · have g0 : (n == 0) = false := beq_eq_false_iff_ne.2 h0
    clear h0
    go_wp2_with fail
    (go_ret; exact ⟨⟨_, rfl⟩, c3⟩)
  have gw3 : (n == 0) = true := by rw [h0]; rfl
  clear h0
  have b2 := kb.c2
  have hpl : w3.rangeAt w.heap.size 3 [.int .i64 (B.pl).p0, .int .i64 (B.pl).p1, .int .i64 (B.pl).p2, .int .i64 (B.pl).p3, .int .i64 (B.pl).p4, .int .i64 (B.pl).p5, .int .i64 (B.pl).p6, .int .i64 (B.pl).p7, .int .i64 (B.pl).p8, .int .i64 (B.pl).p9, .int .i64 (B.pl).p10, .int .i64 (B.pl).p11, .int .i64 (B.pl).p12, .int .i64 (B.pl).p13] := rng_blk kb 3 [.int .i64 (B.pl).p0, .int .i64 (B.pl).p1, .int .i64 (B.pl).p2, .int .i64 (B.pl).p3, .int .i64 (B.pl).p4, .int .i64 (B.pl).p5, .int .i64 (B.pl).p6, .int .i64 (B.pl).p7, .int .i64 (B.pl).p8, .int .i64 (B.pl).p9, .int .i64 (B.pl).p10, .int .i64 (B.pl).p11, .int .i64 (B.pl).p12, .int .i64 (B.pl).p13] (fun j v hv => by
    have hj : j < 14 := (List.getElem?_eq_some_iff.1 hv).1
    rcases j with _ | _ | _ | _ | _ | _ | _ | _ | _ | _ | _ | _ | _ | _ | j
    all_goals first
      | exact hv
      | omega)
  go_wp2_with ((refine wpList_load_mid rfl 26 _ rfl _ (3) (by first | rfl | simp) ([.int .i64 (B.pl).p0, .int .i64 (B.pl).p1, .int .i64 (B.pl).p2, .int .i64 (B.pl).p3, .int .i64 (B.pl).p4, .int .i64 (B.pl).p5, .int .i64 (B.pl).p6, .int .i64 (B.pl).p7, .int .i64 (B.pl).p8, .int .i64 (B.pl).p9, .int .i64 (B.pl).p10, .int .i64 (B.pl).p11, .int .i64 (B.pl).p12, .int .i64 (B.pl).p13]) _ (hpl) Tryz.underlying26 rfl (by kernel_rfl) ?_))
  refine (H3.out _ c3).mono ?_
  rintro r w4 ⟨⟨n, rfl⟩, hb⟩
  have c4 := bl2 hb c3
  replace kb := kb.later hb
  clear hb c3 b2 hpl gw3
  by_cases h0 : n = 0
  rotate_left
  · have g0 : (n == 0) = false := beq_eq_false_iff_ne.2 h0
    clear h0
    go_wp2_with fail
    (go_ret; exact ⟨⟨_, rfl⟩, c4⟩)
  have gw4 : (n == 0) = true := by rw [h0]; rfl
  clear h0
  go_wp2_with ((refine wpList_load_row rfl 33 _ rfl _ rfl _ _ _ _ (kb) Tryz.underlying33 rfl (by kernel_rfl) ?_))
  refine (H4.out _ c4).mono ?_
  rintro r w5 ⟨⟨n, rfl⟩, hb⟩
  have c5 := bl2 hb c4
  replace kb := kb.later hb
  clear hb c4 gw4
  by_cases h0 : n = 0
  rotate_left
  · have g0 : (n == 0) = false := beq_eq_false_iff_ne.2 h0
    clear h0
    go_wp2_with fail
    (go_ret; exact ⟨⟨_, rfl⟩, c5⟩)
  have gw5 : (n == 0) = true := by rw [h0]; rfl
  clear h0
  go_wp2_with ((refine wpList_load_row rfl 33 _ rfl _ rfl _ _ _ _ (kb) Tryz.underlying33 rfl (by kernel_rfl) ?_))
  refine (H5.out _ c5).mono ?_
  rintro r w6 ⟨⟨n, rfl⟩, hb⟩
  have c6 := bl2 hb c5
  replace kb := kb.later hb
  clear hb c5 gw5
  by_cases h0 : n = 0
  rotate_left
  · have g0 : (n == 0) = false := beq_eq_false_iff_ne.2 h0
    clear h0
    go_wp2_with fail
    (go_ret; exact ⟨⟨_, rfl⟩, c6⟩)
  have gw6 : (n == 0) = true := by rw [h0]; rfl
  clear h0
  go_wp2_with ((refine wpList_load_row rfl 33 _ rfl _ rfl _ _ _ _ (kb) Tryz.underlying33 rfl (by kernel_rfl) ?_))
  refine (H6.out _ c6).mono ?_
  rintro r w7 ⟨⟨n, rfl⟩, hb⟩
  have c7 := bl2 hb c6
  replace kb := kb.later hb
  clear hb c6 gw6
  by_cases h0 : n = 0
  rotate_left
  · have g0 : (n == 0) = false := beq_eq_false_iff_ne.2 h0
    clear h0
    go_wp2_with fail
    (go_ret; exact ⟨⟨_, rfl⟩, c7⟩)
  have gw7 : (n == 0) = true := by rw [h0]; rfl
  clear h0
  have b20 := kb.c20
  go_wp2_with fail
  refine (H7.out _ c7).mono ?_
  rintro r w8 ⟨⟨n, rfl⟩, hb⟩
  have c8 := bl2 hb c7
  replace kb := kb.later hb
  clear hb c7 gw7 b20
  by_cases h0 : n = 0
  rotate_left
  · have g0 : (n == 0) = false := beq_eq_false_iff_ne.2 h0
    clear h0
    go_wp2_with fail
    (go_ret; exact ⟨⟨_, rfl⟩, c8⟩)
  have gw8 : (n == 0) = true := by rw [h0]; rfl
  clear h0
  have b21 := kb.c21
  go_wp2_with fail
  refine (H8.out _ c8).mono ?_
  rintro r w9 ⟨⟨n, rfl⟩, hb⟩
  have c9 := bl2 hb c8
  clear hb
  go_wp2_with fail
  (go_ret; exact ⟨⟨_, rfl⟩, c9⟩)
set_option maxHeartbeats 16000000 in
theorem sound_any (B : Bo) (w : World) (h : BkIn w B) : Calls Tryz.prog 4 #[(.agg #[.slice (B).ua (B).us.length (B).uk, .slice (B).ka (B).kn (B).kk, .slice (B).ga (B).gs.length (B).gk, .int .i64 ((B).pl).p0, .int .i64 ((B).pl).p1, .int .i64 ((B).pl).p2, .int .i64 ((B).pl).p3, .int .i64 ((B).pl).p4, .int .i64 ((B).pl).p5, .int .i64 ((B).pl).p6, .int .i64 ((B).pl).p7, .int .i64 ((B).pl).p8, .int .i64 ((B).pl).p9, .int .i64 ((B).pl).p10, .int .i64 ((B).pl).p11, .int .i64 ((B).pl).p12, .int .i64 ((B).pl).p13, .slice (B).pa (B).ps.length (B).pk, .slice (B).aa (B).as.length (B).ak, .slice (B).ja (B).js.length (B).jk, .slice (B).ha (B).hn (B).hk, .slice (B).ba (B).bn (B).bk])] w fun e w' => IsFw B e ∧ Below w.heap.size w w' := by
  have HF := Lib.hid (fun (W : World) (hW : Below w.heap.size w W) => few_any B W (h.later hW))
  have HC := Lib.hid (fun (hn : B.js.length ≤ 100000) (W : World) (hW : Below w.heap.size w W) => rchk26_any B W (h.later hW) hn)
  clear h
  have cw : Below w.heap.size w (w.alloc (.cells #[.slice (B).ua (B).us.length (B).uk, .slice (B).ka (B).kn (B).kk, .slice (B).ga (B).gs.length (B).gk, .int .i64 ((B).pl).p0, .int .i64 ((B).pl).p1, .int .i64 ((B).pl).p2, .int .i64 ((B).pl).p3, .int .i64 ((B).pl).p4, .int .i64 ((B).pl).p5, .int .i64 ((B).pl).p6, .int .i64 ((B).pl).p7, .int .i64 ((B).pl).p8, .int .i64 ((B).pl).p9, .int .i64 ((B).pl).p10, .int .i64 ((B).pl).p11, .int .i64 ((B).pl).p12, .int .i64 ((B).pl).p13, .slice (B).pa (B).ps.length (B).pk, .slice (B).aa (B).as.length (B).ak, .slice (B).ja (B).js.length (B).jk, .slice (B).ha (B).hn (B).hk, .slice (B).ba (B).bn (B).bk] 33)) := Bk.be
  have kb : Bk.Blk (w.alloc (.cells #[.slice (B).ua (B).us.length (B).uk, .slice (B).ka (B).kn (B).kk, .slice (B).ga (B).gs.length (B).gk, .int .i64 ((B).pl).p0, .int .i64 ((B).pl).p1, .int .i64 ((B).pl).p2, .int .i64 ((B).pl).p3, .int .i64 ((B).pl).p4, .int .i64 ((B).pl).p5, .int .i64 ((B).pl).p6, .int .i64 ((B).pl).p7, .int .i64 ((B).pl).p8, .int .i64 ((B).pl).p9, .int .i64 ((B).pl).p10, .int .i64 ((B).pl).p11, .int .i64 ((B).pl).p12, .int .i64 ((B).pl).p13, .slice (B).pa (B).ps.length (B).pk, .slice (B).aa (B).as.length (B).ak, .slice (B).ja (B).js.length (B).jk, .slice (B).ha (B).hn (B).hk, .slice (B).ba (B).bn (B).bk] 33)) w.heap.size _ 33 := Bk.Blk.nw10
  go_enter Tryz.func4, Tryz.ntmps4
  go_upto_region 1 with fail
  generalize (w.alloc (.cells _ 33)) = w1 at *
  go_wp2_with ((refine wpList_load_row rfl 33 _ rfl _ rfl _ _ _ _ (kb) Tryz.underlying33 rfl (by kernel_rfl) ?_))
  refine (HF.out _ cw).mono ?_
  rintro r w2 ⟨⟨q, rfl, hq⟩, hb⟩
  have c2 := bl2 hb cw
  replace kb := kb.later hb
  have HQ := Lib.hid hq
  clear hb cw hq
  cases q
  · go_wp2_with fail
    (go_ret; exact ⟨⟨_, rfl, fun h => by cases h⟩, c2⟩)
  have HFB := Lib.hid (HQ.out (by first | rfl | trivial))
  go_wp2_with (first | (refine load_guarded 33 _ rfl rfl _ rfl _ _ _ _ (kb) Tryz.underlying33 rfl (by kernel_rfl) ?_) | (refine wpList_load_row rfl 33 _ rfl _ rfl _ _ _ _ (kb) Tryz.underlying33 rfl (by kernel_rfl) ?_))
  refine (HC.out (by have := HFB.out.j; omega) _ c2).mono ?_
  rintro r w3 ⟨⟨n, rfl⟩, hb⟩
  have c3 := bl2 hb c2
  clear hb
  go_wp2_with fail
  (go_ret; exact ⟨⟨_, rfl, fun _ => HFB.out⟩, c3⟩)
end Go.Proofs.YtjhpiclnpmdjnaaGreatDoor.Bm
