/-
  Parts of the proof: Y18, Y19.
-/
import Derived.Test.YtjhpiclnpmdjnaaGreatDoorQ36
namespace Go.Proofs.YtjhpiclnpmdjnaaGreatDoor.Bm
open Go Go.RowKit
open Go.Proofs.YtjhpiclnpmdjnaaGreatDoor
open Go.Proofs.YtjhpiclnpmdjnaaGreatDoor.Kl (byt byt_get)
open Go.Proofs.YtjhpiclnpmdjnaaGreatDoor.Ln (SB tk ts z0 z1 z3 z4 z5 take_at call_at flat flat_len flat_get flat_mem RowIn OwnR Idx bl2 results2_cell Blk_setRow_same Blk_setRow_ne Below_setRow)
set_option linter.unusedSimpArgs false
set_option linter.unusedVariables false
set_option maxRecDepth 100000
def ShE (e : En) : Prop := (e.ke.size : Int) ≤ 48 ∧ (e.tx.size : Int) ≤ 64 ∧ e.lg.length ≤ 12 ∧ ∀ j, j < e.lg.length → (e.lg[j]!).cu.size = 3
def IsEc (e : En) (r : Ending) : Prop := ∃ n : Int, r = .returned (.int .i64 n) ∧ (n = 0 → ShE e)
def LkR (w : World) (e : En) (g : Nat) (s : Value) (W : World) : Prop := ∃ k : Nat, k + g = e.lg.length ∧ s = .int .i64 k ∧ (∀ j, j < k → (e.lg[j]!).cu.size = 3) ∧ Bk.Blk W w.heap.size #[.int .i64 (e).id, .int .i64 (e).bo, .int .i64 (e).va, .int .i64 (e).ki, .int .i64 (e).au, .int .i64 (e).pe, .string (e).ke, .string (e).tx, .slice (e).la (e).lg.length (e).lk, .int .u64 (e).ch] 39 ∧ Below w.heap.size w W
set_option maxHeartbeats 64000000 in
theorem rchk19_any (e : En) (w : World) (h : EnIn w e) : Calls Tryz.prog 108 #[(.agg #[.int .i64 (e).id, .int .i64 (e).bo, .int .i64 (e).va, .int .i64 (e).ki, .int .i64 (e).au, .int .i64 (e).pe, .string (e).ke, .string (e).tx, .slice (e).la (e).lg.length (e).lk, .int .u64 (e).ch])] w fun r w' => IsEc e r ∧ Below w.heap.size w w' := by
  have HKE := Lib.hid h.m.1
  have HTX := Lib.hid h.m.2.1
  have HCU := Lib.hid h.m.2.2.2
  have HR := Lib.hid h.l
  clear h
  have cw : Below w.heap.size w (w.alloc (.cells #[.int .i64 (e).id, .int .i64 (e).bo, .int .i64 (e).va, .int .i64 (e).ki, .int .i64 (e).au, .int .i64 (e).pe, .string (e).ke, .string (e).tx, .slice (e).la (e).lg.length (e).lk, .int .u64 (e).ch] 39)) := Bk.be
  have ke : Bk.Blk (w.alloc (.cells #[.int .i64 (e).id, .int .i64 (e).bo, .int .i64 (e).va, .int .i64 (e).ki, .int .i64 (e).au, .int .i64 (e).pe, .string (e).ke, .string (e).tx, .slice (e).la (e).lg.length (e).lk, .int .u64 (e).ch] 39)) w.heap.size _ 39 := Bk.Blk.nw10
  go_enter Tryz.func108, Tryz.ntmps108
  go_upto_region 1 with fail
  generalize (w.alloc (.cells _ 39)) = w1 at *
  have e1 := ke.c1
  have e2 := ke.c2
  have e3 := ke.c3
  have e4 := ke.c4
  have e5 := ke.c5
  have e6 := ke.c6
  have e7 := ke.c7
  go_wp2_with fail
  refine (key07_any _ _ HKE.out).mono ?_
  rintro r w' ⟨⟨q, rfl, hq⟩, rfl⟩
  have HQ1 := Lib.hid hq
  clear hq
  cases q
  · go_wp2_with fail
    (go_ret; exact ⟨⟨_, rfl, fun h => absurd h (by decide)⟩, cw⟩)
  go_wp2_with fail
  refine (printed_any _ 64 32 _ HTX.out).mono ?_
  rintro r w' ⟨⟨q, rfl, hq⟩, rfl⟩
  have HQ2 := Lib.hid hq
  clear hq
  cases q
  · go_wp2_with fail
    (go_ret; exact ⟨⟨_, rfl, fun h => absurd h (by decide)⟩, cw⟩)
  go_wp2_with fail
  refine (valid04_any _ _).mono ?_
  rintro r w' ⟨⟨q, rfl⟩, rfl⟩
  cases q
  · go_wp2_with fail
    (go_ret; exact ⟨⟨_, rfl, fun h => absurd h (by decide)⟩, cw⟩)
  go_wp2_with fail
  refine (valid04_any _ _).mono ?_
  rintro r w' ⟨⟨q, rfl⟩, rfl⟩
  cases q
  · go_wp2_with fail
    (go_ret; exact ⟨⟨_, rfl, fun h => absurd h (by decide)⟩, cw⟩)
  by_cases h1 : e.ki < 1
  · go_wp2_with fail
    (go_ret; exact ⟨⟨_, rfl, fun h => absurd h (by decide)⟩, cw⟩)
  by_cases h2 : 14 < e.ki
  · go_wp2_with fail
    (go_ret; exact ⟨⟨_, rfl, fun h => absurd h (by decide)⟩, cw⟩)
  by_cases h3 : e.au < 0
  · go_wp2_with fail
    (go_ret; exact ⟨⟨_, rfl, fun h => absurd h (by decide)⟩, cw⟩)
  by_cases h4 : 3 < e.au
  · go_wp2_with fail
    (go_ret; exact ⟨⟨_, rfl, fun h => absurd h (by decide)⟩, cw⟩)
  cases bp : (e.pe != 0)
  · go_upto_region 5 with fail
    clear e1 e2 e3 e4 e5 e6 e7 h1 h2 h3 h4 bp
    have e8 := ke.c8
    by_cases hl2 : e.lg.length < 2
    · go_wp2_with fail
      (go_ret; exact ⟨⟨_, rfl, fun h => absurd h (by decide)⟩, cw⟩)
    by_cases hl12 : 12 < e.lg.length
    · go_wp2_with fail
      (go_ret; exact ⟨⟨_, rfl, fun h => absurd h (by decide)⟩, cw⟩)
    go_wp2_with fail
    clear e8
    go_loopg [3] e.lg.length (LkR w e)
    case atStart => exact ⟨0, by omega, rfl, fun j hj => absurd hj (Nat.not_lt_zero j), ke, cw⟩
    case round =>
      clear ke cw
      obtain ⟨k, hk, rfl, hll, ke, hbr⟩ := hrel
      have HLL := Lib.hid hll
      clear hll
      have e8 := ke.c8
      by_cases hlt : k < e.lg.length
      · obtain ⟨b, off, ha, hc⟩ := rowat lgenc_len HR.out (by omega)
        have hm1 := range_later hbr (hc k hlt)
        clear hc
        rw [ha] at e8
        clear ha
        have hsz := HCU.out e.lg[k]! (by rw [getElem!_pos e.lg k hlt]; exact List.getElem_mem hlt)
        have HST := Lib.hid (fun (h3 : (e.lg[k]!).cu.size = 3) (j : Nat) (hj : j < k + 1) => show (e.lg[j]!).cu.size = 3 from by
          by_cases hjk : j = k
          · rw [hjk]; exact h3
          · exact HLL.out j (by omega))
        obtain ⟨d, hd⟩ : ∃ d, d = e.lg[k]! := ⟨_, rfl⟩
        rw [← hd] at hm1 hsz HST
        clear hd
        have HSZ := Lib.hid hsz
        clear hsz
        go_wp2_with ((refine wpList_load_mid rfl 50 _ rfl _ (off + k * 3) (by first | rfl | simp) ([.int .i64 (d).ac, .int .i64 (d).am, .string (d).cu]) _ (hm1) Tryz.underlying50 rfl (by kernel_rfl) ?_))
        refine (leg19_any d _ HSZ.out).mono ?_
        rintro r w3 ⟨⟨n, rfl, hn⟩, hb⟩
        have c3 := bl2 hb hbr
        replace ke := ke.later hb
        have HN := Lib.hid hn
        clear hb hbr e8 hm1 hn
        by_cases h0 : n = 0
        · have g0 : (n != 0) = false := by rw [h0]; rfl
          have HS1 := Lib.hid (HST.out (HN.out h0))
          clear h0
          go_wp2_with fail
          go_roundg (gk - 1)
          case measure => omega
          case rel => exact ⟨k + 1, by omega, by go_num, HS1.out, ke, c3⟩
        · have g0 : (n != 0) = true := bne_iff_ne.2 h0
          have HN0 := Lib.hid h0
          clear h0
          go_wp2_with fail
          (go_ret; exact ⟨⟨_, rfl, fun h => absurd h HN0.out⟩, c3⟩)
      · have HSU := Lib.hid (fun (W : World) (hW : Below w.heap.size w W) => rsums19_any e.la e.lk e.lg W (by omega) (HR.out.later hW))
        go_wp2_with fail
        refine (HSU.out _ hbr).mono ?_
        rintro r w3 ⟨⟨v, ms, rfl, hv, hms⟩, hb⟩
        have c3 := bl2 hb hbr
        obtain ⟨am, cm, rfl, hrm, -⟩ := hv.row
        have HRM := Lib.hid hrm
        have hmm : ms.length ≤ 9223372036854775807 := by omega
        clear hb hbr e8 hv hrm HSU ke
        go_wp2_with fail
        go_loopg [6] ms.length (VlR w w3 ms.length)
        case atStart => exact ⟨0, by omega, rfl, Below.refl _ _, c3⟩
        case round =>
          clear c3
          obtain ⟨i, hi, rfl, h5, hbr⟩ := hrel
          by_cases hlt2 : i < ms.length
          · obtain ⟨b, off, rfl, hc⟩ := rowat mnenc_len (HRM.out.later h5) (by omega)
            have hm1 := hc i hlt2
            clear hc
            obtain ⟨d, hd⟩ : ∃ d, d = ms[i]! := ⟨_, rfl⟩
            rw [← hd] at hm1
            clear hd
            have m1 : wr.cell? ⟨b, off + i * 2 + 1, none⟩ = some (.int .i64 d.am) := hm1 1 _ rfl
            clear hm1
            go_wp2_with fail
            all_goals first
              | (go_ret; exact ⟨⟨_, rfl, fun h => absurd h (by decide)⟩, hbr⟩)
              | (go_roundg (gk - 1)
                 case measure => omega
                 case rel => exact ⟨i + 1, by omega, by go_num, h5, hbr⟩)
          · go_wp2_with fail
            (go_ret; exact ⟨⟨_, rfl, fun _ => ⟨HQ1.out (by first | rfl | trivial), HQ2.out (by first | rfl | trivial), by omega, fun j hj => HLL.out j (by omega)⟩⟩, hbr⟩)
  · go_wp2_with fail
    refine (valid04_any _ _).mono ?_
    rintro r w' ⟨⟨q, rfl⟩, rfl⟩
    cases q
    · go_wp2_with fail
      (go_ret; exact ⟨⟨_, rfl, fun h => absurd h (by decide)⟩, cw⟩)
    go_upto_region 5 with fail
    clear e1 e2 e3 e4 e5 e6 e7 h1 h2 h3 h4 bp
    have e8 := ke.c8
    by_cases hl2 : e.lg.length < 2
    · go_wp2_with fail
      (go_ret; exact ⟨⟨_, rfl, fun h => absurd h (by decide)⟩, cw⟩)
    by_cases hl12 : 12 < e.lg.length
    · go_wp2_with fail
      (go_ret; exact ⟨⟨_, rfl, fun h => absurd h (by decide)⟩, cw⟩)
    go_wp2_with fail
    clear e8
    go_loopg [3] e.lg.length (LkR w e)
    case atStart => exact ⟨0, by omega, rfl, fun j hj => absurd hj (Nat.not_lt_zero j), ke, cw⟩
    case round =>
      clear ke cw
      obtain ⟨k, hk, rfl, hll, ke, hbr⟩ := hrel
      have HLL := Lib.hid hll
      clear hll
      have e8 := ke.c8
      by_cases hlt : k < e.lg.length
      · obtain ⟨b, off, ha, hc⟩ := rowat lgenc_len HR.out (by omega)
        have hm1 := range_later hbr (hc k hlt)
        clear hc
        rw [ha] at e8
        clear ha
        have hsz := HCU.out e.lg[k]! (by rw [getElem!_pos e.lg k hlt]; exact List.getElem_mem hlt)
        have HST := Lib.hid (fun (h3 : (e.lg[k]!).cu.size = 3) (j : Nat) (hj : j < k + 1) => show (e.lg[j]!).cu.size = 3 from by
          by_cases hjk : j = k
          · rw [hjk]; exact h3
          · exact HLL.out j (by omega))
        obtain ⟨d, hd⟩ : ∃ d, d = e.lg[k]! := ⟨_, rfl⟩
        rw [← hd] at hm1 hsz HST
        clear hd
        have HSZ := Lib.hid hsz
        clear hsz
        go_wp2_with ((refine wpList_load_mid rfl 50 _ rfl _ (off + k * 3) (by first | rfl | simp) ([.int .i64 (d).ac, .int .i64 (d).am, .string (d).cu]) _ (hm1) Tryz.underlying50 rfl (by kernel_rfl) ?_))
        refine (leg19_any d _ HSZ.out).mono ?_
        rintro r w3 ⟨⟨n, rfl, hn⟩, hb⟩
        have c3 := bl2 hb hbr
        replace ke := ke.later hb
        have HN := Lib.hid hn
        clear hb hbr e8 hm1 hn
        by_cases h0 : n = 0
        · have g0 : (n != 0) = false := by rw [h0]; rfl
          have HS1 := Lib.hid (HST.out (HN.out h0))
          clear h0
          go_wp2_with fail
          go_roundg (gk - 1)
          case measure => omega
          case rel => exact ⟨k + 1, by omega, by go_num, HS1.out, ke, c3⟩
        · have g0 : (n != 0) = true := bne_iff_ne.2 h0
          have HN0 := Lib.hid h0
          clear h0
          go_wp2_with fail
          (go_ret; exact ⟨⟨_, rfl, fun h => absurd h HN0.out⟩, c3⟩)
      · have HSU := Lib.hid (fun (W : World) (hW : Below w.heap.size w W) => rsums19_any e.la e.lk e.lg W (by omega) (HR.out.later hW))
        go_wp2_with fail
        refine (HSU.out _ hbr).mono ?_
        rintro r w3 ⟨⟨v, ms, rfl, hv, hms⟩, hb⟩
        have c3 := bl2 hb hbr
        obtain ⟨am, cm, rfl, hrm, -⟩ := hv.row
        have HRM := Lib.hid hrm
        have hmm : ms.length ≤ 9223372036854775807 := by omega
        clear hb hbr e8 hv hrm HSU ke
        go_wp2_with fail
        go_loopg [6] ms.length (VlR w w3 ms.length)
        case atStart => exact ⟨0, by omega, rfl, Below.refl _ _, c3⟩
        case round =>
          clear c3
          obtain ⟨i, hi, rfl, h5, hbr⟩ := hrel
          by_cases hlt2 : i < ms.length
          · obtain ⟨b, off, rfl, hc⟩ := rowat mnenc_len (HRM.out.later h5) (by omega)
            have hm1 := hc i hlt2
            clear hc
            obtain ⟨d, hd⟩ : ∃ d, d = ms[i]! := ⟨_, rfl⟩
            rw [← hd] at hm1
            clear hd
            have m1 : wr.cell? ⟨b, off + i * 2 + 1, none⟩ = some (.int .i64 d.am) := hm1 1 _ rfl
            clear hm1
            go_wp2_with fail
            all_goals first
              | (go_ret; exact ⟨⟨_, rfl, fun h => absurd h (by decide)⟩, hbr⟩)
              | (go_roundg (gk - 1)
                 case measure => omega
                 case rel => exact ⟨i + 1, by omega, by go_num, h5, hbr⟩)
          · go_wp2_with fail
            (go_ret; exact ⟨⟨_, rfl, fun _ => ⟨HQ1.out (by first | rfl | trivial), HQ2.out (by first | rfl | trivial), by omega, fun j hj => HLL.out j (by omega)⟩⟩, hbr⟩)
end Go.Proofs.YtjhpiclnpmdjnaaGreatDoor.Bm
namespace Go.Proofs.YtjhpiclnpmdjnaaGreatDoor.Bm
open Go Go.RowKit
open Go.Proofs.YtjhpiclnpmdjnaaGreatDoor
open Go.Proofs.YtjhpiclnpmdjnaaGreatDoor.Kl (byt byt_get)
open Go.Proofs.YtjhpiclnpmdjnaaGreatDoor.Ln (one_at call_wp value_wp SQ SQ.mono SB tk ts z0 z1 z3 z4 z5 take_at call_at flat flat_len flat_get flat_mem RowIn OwnR Idx bl2 results2_cell Blk_setRow_same Blk_setRow_ne Below_setRow)
open Go.Proofs.YtjhpiclnpmdjnaaGreatDoor.Sr (GV)
set_option linter.unusedSimpArgs false
set_option linter.unusedVariables false
set_option maxRecDepth 100000
theorem szL_snoc : ∀ (xs : List ByteArray) (s : ByteArray), szL (xs ++ [s]) = szL xs + s.size
 | [], s => by simp [szL]
 | x :: t, s => by
  rw [List.cons_append, szL, szL, szL_snoc t s]
  omega
theorem int07_any' (n : Int) (w : World) (h0 : -9223372036854775808 ≤ n) (h1 : n ≤ 9223372036854775807) : Calls Tryz.prog 146 #[.int .i64 n] w fun e w' => IsT 21 e ∧ Below w.heap.size w w' :=
 (int07_any n w h0 h1).mono fun _ _ ⟨he, hw⟩ => ⟨he, hw ▸ Below.refl _ _⟩
def ReR (w : World) (e : En) (g : Nat) (s3 s4 : Value) (W : World) : Prop := ∃ (k : Nat) (xs : List ByteArray), k + g = e.lg.length ∧ s4 = .int .i64 k ∧ xs.length = k ∧ szL xs ≤ 111 * k ∧ GV senc 1 9 W (w.heap.size + 1) s3 xs ∧ Bk.Blk W w.heap.size #[.int .i64 (e).id, .int .i64 (e).bo, .int .i64 (e).va, .int .i64 (e).ki, .int .i64 (e).au, .int .i64 (e).pe, .string (e).ke, .string (e).tx, .slice (e).la (e).lg.length (e).lk, .int .u64 (e).ch] 39 ∧ Below w.heap.size w W
set_option maxHeartbeats 64000000 in
theorem rencode19_any (e0 : En) (w : World) (hg : EnW e0) (hs : ShE e0) (hl : RowIn lgenc w e0.la e0.lg) : Calls Tryz.prog 111 #[(.agg #[.int .i64 (e0).id, .int .i64 (e0).bo, .int .i64 (e0).va, .int .i64 (e0).ki, .int .i64 (e0).au, .int .i64 (e0).pe, .string (e0).ke, .string (e0).tx, .slice (e0).la (e0).lg.length (e0).lk, .int .u64 (e0).ch])] w fun e w' => IsT 10000 e ∧ Below w.heap.size w w' := by
 have cw : Below w.heap.size w (w.alloc (.cells #[.int .i64 (e0).id, .int .i64 (e0).bo, .int .i64 (e0).va, .int .i64 (e0).ki, .int .i64 (e0).au, .int .i64 (e0).pe, .string (e0).ke, .string (e0).tx, .slice (e0).la (e0).lg.length (e0).lk, .int .u64 (e0).ch] 39)) := Bk.be
 have ke : Bk.Blk (w.alloc (.cells #[.int .i64 (e0).id, .int .i64 (e0).bo, .int .i64 (e0).va, .int .i64 (e0).ki, .int .i64 (e0).au, .int .i64 (e0).pe, .string (e0).ke, .string (e0).tx, .slice (e0).la (e0).lg.length (e0).lk, .int .u64 (e0).ch] 39)) w.heap.size _ 39 := Bk.Blk.nw10
 have HL := Lib.hid (fun (W : World) (hW : Below w.heap.size w W) => hl.later hW)
 have HG := Lib.hid hg
 have HSH := Lib.hid hs
 have hln := hs.2.2.1
 clear hl hg hs
 go_enter Tryz.func111, Tryz.ntmps111
 go_upto_region 1 with fail
 generalize (w.alloc (.cells _ 39)) = w1 at *
 go_wp2_with fail
 go_loopg [3, 4] e0.lg.length (ReR w e0)
 case atStart => exact ⟨0, [], by omega, rfl, rfl, by simp [szL], GV.nil _ _, ke, cw⟩
 case round =>
  clear ke cw
  obtain ⟨k, xs, hk, rfl, hxl, hxs, hgv, ke, hbr⟩ := hrel
  have HV := Lib.hid (And.intro hxl (And.intro hxs hgv))
  clear hxl hxs hgv
  have e8 := ke.c8
  by_cases hlt : k < e0.lg.length
  ·obtain ⟨b, off, ha, hc⟩ := rowat lgenc_len (HL.out _ hbr) (by omega)
   have hm := hc k hlt
   clear hc
   have hx1 := HG.out.lg k hlt
   have hx2 := HSH.out.2.2.2 k hlt
   obtain ⟨x, hxx⟩ : ∃ x, x = e0.lg[k]! := ⟨_, rfl⟩
   rw [← hxx] at hm hx1 hx2
   have HX := Lib.hid (And.intro hx1.1 (And.intro hx1.2 hx2))
   clear hxx hx1 hx2
   rw [ha] at e8
   clear ha
   have hz1 := Below.size hbr
   have hown : ∀ j, (_ : Value).ownBlock = some j → j < wr.heap.size := fun j hj => (HV.out.2.2.lt j hj).1
   go_upto_region 6 with (first | (refine wpList_load_mid rfl 50 _ rfl _ (off + k * 3) (by first | rfl | simp) ([.int .i64 (x).ac, .int .i64 (x).am, .string (x).cu]) _ (hm) Tryz.underlying50 rfl (by kernel_rfl) ?_) | (refine wpList_store_row rfl 50 _ _ rfl _ _ rfl rfl _ _ (Bk.Blk.nw10) (by kernel_rfl) rfl (by simp [Value.oneCell']) ?_))
   have cx : Below wr.heap.size wr ((wr.alloc (.cells #[.int .i64 0, .int .i64 0, .string { data := #[] }] 50)).setRow wr.heap.size #[.int .i64 (x).ac, .int .i64 (x).am, .string (x).cu]) := Below_setRow ((Below.refl _ _).alloc (Nat.le_refl _) _) (Nat.le_refl _) _
   have kx : Bk.Blk ((wr.alloc (.cells #[.int .i64 0, .int .i64 0, .string { data := #[] }] 50)).setRow wr.heap.size #[.int .i64 (x).ac, .int .i64 (x).am, .string (x).cu]) wr.heap.size _ 50 := Blk_setRow_same Bk.Blk.nw10
   have c2 := bl2 cx hbr
   have hgv := HV.out.2.2.later cx
   replace ke := ke.later cx
   clear hm e8
   clear cx hbr
   (try simp only [Act.put])
   generalize ((wr.alloc (.cells _ 50)).setRow wr.heap.size _) = w2 at *
   generalize wr.heap.size = gw2 at *
   have HOW := Lib.hid hown
   clear hown
   have hS0 : SQ w gw2 #[.int .i64 (x).ac, .int .i64 (x).am, .string (x).cu] 50 w2.drew := ⟨kx.drew, c2.drew⟩
   have hgv0 := hgv.later (Below.drew (Below.refl w2.heap.size w2))
   have ke0 := ke.drew
   clear kx c2 hgv ke
   refine wp_region_held_drew (S := SQ w gw2 #[.int .i64 (x).ac, .int .i64 (x).am, .string (x).cu] 50) (by kernel_rfl) hS0 (fun hS => ?_)
   clear hS0
   refine tk 0 (by decide) ?_ hS (by kernel_rfl) (by kernel_rfl) (by kernel_rfl) (by rfl) (fun _ _ _ h => h) ?_ ?_
   rotate_left
   ·intro W hW
    have q := hW.1.c0; have q2 := hW.1.c1; have q3 := hW.1.c2
    clear hW
    simp only [z0, z1]
    go_simp
    first | done | with_reducible rfl
   simp only [z0, z1, Act.put, z3, z4, z5]
   refine tk 1 (by decide) ?_ hS (by kernel_rfl) (by kernel_rfl) (by kernel_rfl) (by rfl) (fun _ _ _ h => h) ?_ ?_
   rotate_left
   ·intro W hW
    have q := hW.1.c0; have q2 := hW.1.c1; have q3 := hW.1.c2
    clear hW
    simp only [z0, z1]
    go_simp
    first | done | with_reducible rfl
   simp only [z0, z1, Act.put, z3, z4, z5]
   refine tk 2 (by decide) ?_ hS (by kernel_rfl) (by kernel_rfl) (by kernel_rfl) (by rfl) (fun _ _ _ h => h) ?_ ?_
   rotate_left
   ·intro W hW
    have q := hW.1.c0; have q2 := hW.1.c1; have q3 := hW.1.c2
    clear hW
    simp only [z0, z1]
    go_simp
    first | done | with_reducible rfl
   simp only [z0, z1, Act.put, z3, z4, z5]
   refine tk 4 (by decide) ?_ hS (by kernel_rfl) (by kernel_rfl) (by kernel_rfl) (by rfl) (fun _ _ _ h => h) ?_ ?_
   rotate_left
   ·intro W hW
    have q := hW.1.c0; have q2 := hW.1.c1; have q3 := hW.1.c2
    clear hW
    simp only [z0, z1]
    go_simp
    first | done | with_reducible rfl
   simp only [z0, z1, Act.put, z3, z4, z5]
   refine tk 5 (by decide) ?_ hS (by kernel_rfl) (by kernel_rfl) (by kernel_rfl) (by rfl) (fun _ _ _ h => h) ?_ ?_
   rotate_left
   ·intro W hW
    have q := hW.1.c0; have q2 := hW.1.c1; have q3 := hW.1.c2
    clear hW
    simp only [z0, z1]
    go_simp
    first | done | with_reducible rfl
   simp only [z0, z1, Act.put, z3, z4, z5]
   refine tk 7 (by decide) ?_ hS (by kernel_rfl) (by kernel_rfl) (by kernel_rfl) (by rfl) (fun _ _ _ h => h) ?_ ?_
   rotate_left
   ·intro W hW
    have q := hW.1.c0; have q2 := hW.1.c1; have q3 := hW.1.c2
    clear hW
    simp only [z0, z1]
    go_simp
    first | done | with_reducible rfl
   simp only [z0, z1, Act.put, z3, z4, z5]
   refine tk 8 (by decide) ?_ hS (by kernel_rfl) (by kernel_rfl) (by kernel_rfl) (by rfl) (fun _ _ _ h => h) ?_ ?_
   rotate_left
   ·intro W hW
    have q := hW.1.c0; have q2 := hW.1.c1; have q3 := hW.1.c2
    clear hW
    simp only [z0, z1]
    go_simp
    first | done | with_reducible rfl
   simp only [z0, z1, Act.put, z3, z4, z5]
   refine one_at 3 (by decide) (by kernel_rfl) (by rfl) (fun K hK => ?_)
   refine call_wp (by simp only [z0, z1]; go_simp; first | done | rfl | exact ⟨rfl, rfl⟩ | exact ⟨rfl, rfl, rfl⟩ | exact ⟨rfl, rfl, rfl, rfl⟩) ((int07_any' x.ac _ HX.out.1.1 HX.out.1.2).mono ?_)
   rintro e w3 ⟨⟨s1, rfl, hs1⟩, hb⟩
   have hT := SQ.mono _ _ hS hb
   replace hgv0 := hgv0.later hb
   replace ke0 := ke0.later hb
   refine ⟨_, rfl, hK.out _ _ hT (fun hT' => ?_)⟩
   clear hT' hS hK hb
   have hS := hT
   clear hT
   simp only [z0, z1, Act.put, z3, z4, z5]
   refine one_at 6 (by decide) (by kernel_rfl) (by rfl) (fun K hK => ?_)
   refine call_wp (by simp only [z0, z1]; go_simp; first | done | rfl | exact ⟨rfl, rfl⟩ | exact ⟨rfl, rfl, rfl⟩ | exact ⟨rfl, rfl, rfl, rfl⟩) ((int07_any' x.am _ HX.out.2.1.1 HX.out.2.1.2).mono ?_)
   rintro e w4 ⟨⟨s2, rfl, hs2⟩, hb⟩
   have hT := SQ.mono _ _ hS hb
   replace hgv0 := hgv0.later hb
   replace ke0 := ke0.later hb
   refine ⟨_, rfl, hK.out _ _ hT (fun hT' => ?_)⟩
   clear hT' hS hK hb
   have hS := hT
   clear hT
   simp only [z0, z1, Act.put, z3, z4, z5]
   refine one_at 9 (by decide) (by kernel_rfl) (by rfl) (fun K hK => ?_)
   refine value_wp (by simp only [z0, z1]; go_simp; first | done | rfl | exact ⟨rfl, rfl⟩) ?_
   have hb : Below w4.heap.size w4 (w4.alloc (.cells #[.string s1, .string s2, .string x.cu] 9)) := (Below.refl _ _).alloc (Nat.le_refl _) _
   have hT := SQ.mono _ _ hS hb
   have hN : Bk.Blk (w4.alloc (.cells #[.string s1, .string s2, .string x.cu] 9)) w4.heap.size #[.string s1, .string s2, .string x.cu] 9 := Bk.Blk.nw10
   replace hgv0 := hgv0.later hb
   replace ke0 := ke0.later hb
   refine hK.out _ _ hT (fun hT' => ?_)
   clear hT' hK hS hb
   have hS := hT
   clear hT
   simp only [z0, z1, Act.put, z3, z4, z5]
   generalize (w4.alloc (.cells #[.string s1, .string s2, .string x.cu] 9)) = w5 at *
   obtain ⟨g5, eg5⟩ : ∃ g, g = w4.heap.size := ⟨_, rfl⟩
   rw [← eg5] at hN ⊢
   have hrow := rowS3 hN
   refine one_at 10 (by decide) (by kernel_rfl) (by rfl) (fun K hK => ?_)
   refine call_wp (by simp only [z0, z1]; go_simp; first | done | rfl | exact ⟨rfl, rfl⟩ | exact ⟨rfl, rfl, rfl⟩ | exact ⟨rfl, rfl, rfl, rfl⟩) ((pack07_any (some ⟨g5, 0, none⟩) 3 [s1, s2, x.cu] _ hrow (by simp) (by have := HX.out.2.2; simp only [szL]; omega)).mono ?_)
   rintro e w6 ⟨⟨s3, rfl, hs3⟩, hb⟩
   have hT := SQ.mono _ _ hS hb
   replace hgv0 := hgv0.later hb
   replace ke0 := ke0.later hb
   refine ⟨_, rfl, hK.out _ _ hT (fun hT' => ?_)⟩
   clear hT' hS hK hb
   have hS := hT
   clear hT
   simp only [z0, z1, Act.put, z3, z4, z5]
   replace hs3 : s3.size ≤ 111 := by have := HX.out.2.2; simp only [szL, List.length_cons, List.length_nil] at hs3; omega
   clear hN hrow
   refine one_at 11 (by decide) (by kernel_rfl) (by rfl) (fun K hK => ?_)
   refine value_wp (by simp only [z0, z1]; go_simp; first | done | rfl | exact ⟨rfl, rfl⟩) ?_
   have hb : Below w6.heap.size w6 (w6.alloc (.cells #[.string s3] 9)) := (Below.refl _ _).alloc (Nat.le_refl _) _
   have hT := SQ.mono _ _ hS hb
   have hN : Bk.Blk (w6.alloc (.cells #[.string s3] 9)) w6.heap.size #[.string s3] 9 := Bk.Blk.nw10
   replace hgv0 := hgv0.later hb
   replace ke0 := ke0.later hb
   refine hK.out _ _ hT (fun hT' => ?_)
   clear hT' hK hS hb
   have hS := hT
   clear hT
   simp only [z0, z1, Act.put, z3, z4, z5]
   generalize (w6.alloc (.cells #[.string s3] 9)) = w7 at *
   obtain ⟨g7, eg7⟩ : ∃ g, g = w6.heap.size := ⟨_, rfl⟩
   rw [← eg7] at hN ⊢
   have hN7 := hN
   clear hN
   refine one_at 12 (by decide) (by kernel_rfl) (by rfl) (fun K hK => ?_)
   simp only [z0, z1]
   refine app_wp senc_len senc_one (by decide) (by decide) rfl str_info Tryz.underlying206 [s3] rfl (.tmp 18) (.tmp 29) rfl rfl hgv0 (some ⟨g7, 0, none⟩) 1 rfl (rowS1 hN7) (by simp) (by have := HV.out.1; simp; omega) (by have := ke0.lt; omega) ?_
   intro g8 c8 w8 h1 h2 h3 _
   have hT : SQ w gw2 #[.int .i64 (x).ac, .int .i64 (x).am, .string (x).cu] 50 w8 := ⟨(h3.block gw2 hS.1.lt (fun e => absurd (HOW.out gw2 e.symm) (Nat.lt_irrefl _))).trans hS.1, hS.2.trans (h2.mono (by omega))⟩
   have ke8 : Bk.Blk w8 w.heap.size #[.int .i64 (e0).id, .int .i64 (e0).bo, .int .i64 (e0).va, .int .i64 (e0).ki, .int .i64 (e0).au, .int .i64 (e0).pe, .string (e0).ke, .string (e0).tx, .slice (e0).la (e0).lg.length (e0).lk, .int .u64 (e0).ch] 39 := (h2.block _ (by omega)).trans ke0
   rw [show (xs ++ [s3]).length = xs.length + 1 by simp] at h1
   have H1 := Lib.hid h1
   refine hK.out _ _ hT (fun hT' => ?_)
   clear hT' hK hS h1 h2 h3 ke0 hgv0
   have hS := hT
   clear hT
   simp only [z0, z1, Act.put, z3, z4, z5]
   refine tk 13 (by decide) ?_ hS (by kernel_rfl) (by kernel_rfl) (by kernel_rfl) (by rfl) (fun _ _ _ h => h) ?_ ?_
   rotate_left
   ·intro W hW
    clear hW
    simp only [z0, z1]
    go_simp
    first | done | with_reducible rfl
   simp only [z0, z1, Act.put, z3, z4, z5]
   refine wpAnyH_done (by kernel_rfl) ?_ _
   have c9 := hS.2
   clear hS
   go_wp2_with fail
   go_roundg (gk - 1)
   case measure => omega
   case rel => exact ⟨k + 1, xs ++ [s3], by omega, by go_num, by have := HV.out.1; simp; omega, by have := HV.out.2.1; rw [szL_snoc]; omega, H1.out, ke8, c9⟩
  ·have hkl : k = e0.lg.length := by omega
   obtain ⟨a3, c3, e3⟩ := HV.out.2.2.len
   subst e3
   have hgv0 := HV.out.2.2.later (Below.drew (Below.refl wr.heap.size wr))
   have HK := Lib.hid hkl
   clear hkl
   go_upto_region 7 with fail
   clear e8
   have hS0 : (SQ w w.heap.size #[.int .i64 (e0).id, .int .i64 (e0).bo, .int .i64 (e0).va, .int .i64 (e0).ki, .int .i64 (e0).au, .int .i64 (e0).pe, .string (e0).ke, .string (e0).tx, .slice (e0).la (e0).lg.length (e0).lk, .int .u64 (e0).ch] 39) wr.drew := ⟨ke.drew, hbr.drew⟩
   clear ke hbr
   refine wp_region_held_drew (S := (SQ w w.heap.size #[.int .i64 (e0).id, .int .i64 (e0).bo, .int .i64 (e0).va, .int .i64 (e0).ki, .int .i64 (e0).au, .int .i64 (e0).pe, .string (e0).ke, .string (e0).tx, .slice (e0).la (e0).lg.length (e0).lk, .int .u64 (e0).ch] 39)) (by kernel_rfl) hS0 (fun hS => ?_)
   clear hS0
   refine tk 0 (by decide) ?_ hS (by kernel_rfl) (by kernel_rfl) (by kernel_rfl) (by rfl) (fun _ _ _ h => h) ?_ ?_
   rotate_left
   ·intro W hW
    have q0 := hW.1.c0; have q1 := hW.1.c1; have q2 := hW.1.c2; have q3 := hW.1.c3; have q4 := hW.1.c4; have q5 := hW.1.c5; have q6 := hW.1.c6; have q7 := hW.1.c7
    clear hW
    simp only [z0, z1]
    go_simp
    first | done | with_reducible rfl
   simp only [z0, z1, Act.put, z3, z4, z5]
   refine tk 1 (by decide) ?_ hS (by kernel_rfl) (by kernel_rfl) (by kernel_rfl) (by rfl) (fun _ _ _ h => h) ?_ ?_
   rotate_left
   ·intro W hW
    have q0 := hW.1.c0; have q1 := hW.1.c1; have q2 := hW.1.c2; have q3 := hW.1.c3; have q4 := hW.1.c4; have q5 := hW.1.c5; have q6 := hW.1.c6; have q7 := hW.1.c7
    clear hW
    simp only [z0, z1]
    go_simp
    first | done | with_reducible rfl
   simp only [z0, z1, Act.put, z3, z4, z5]
   refine tk 3 (by decide) ?_ hS (by kernel_rfl) (by kernel_rfl) (by kernel_rfl) (by rfl) (fun _ _ _ h => h) ?_ ?_
   rotate_left
   ·intro W hW
    have q0 := hW.1.c0; have q1 := hW.1.c1; have q2 := hW.1.c2; have q3 := hW.1.c3; have q4 := hW.1.c4; have q5 := hW.1.c5; have q6 := hW.1.c6; have q7 := hW.1.c7
    clear hW
    simp only [z0, z1]
    go_simp
    first | done | with_reducible rfl
   simp only [z0, z1, Act.put, z3, z4, z5]
   refine tk 4 (by decide) ?_ hS (by kernel_rfl) (by kernel_rfl) (by kernel_rfl) (by rfl) (fun _ _ _ h => h) ?_ ?_
   rotate_left
   ·intro W hW
    have q0 := hW.1.c0; have q1 := hW.1.c1; have q2 := hW.1.c2; have q3 := hW.1.c3; have q4 := hW.1.c4; have q5 := hW.1.c5; have q6 := hW.1.c6; have q7 := hW.1.c7
    clear hW
    simp only [z0, z1]
    go_simp
    first | done | with_reducible rfl
   simp only [z0, z1, Act.put, z3, z4, z5]
   refine tk 6 (by decide) ?_ hS (by kernel_rfl) (by kernel_rfl) (by kernel_rfl) (by rfl) (fun _ _ _ h => h) ?_ ?_
   rotate_left
   ·intro W hW
    have q0 := hW.1.c0; have q1 := hW.1.c1; have q2 := hW.1.c2; have q3 := hW.1.c3; have q4 := hW.1.c4; have q5 := hW.1.c5; have q6 := hW.1.c6; have q7 := hW.1.c7
    clear hW
    simp only [z0, z1]
    go_simp
    first | done | with_reducible rfl
   simp only [z0, z1, Act.put, z3, z4, z5]
   refine tk 7 (by decide) ?_ hS (by kernel_rfl) (by kernel_rfl) (by kernel_rfl) (by rfl) (fun _ _ _ h => h) ?_ ?_
   rotate_left
   ·intro W hW
    have q0 := hW.1.c0; have q1 := hW.1.c1; have q2 := hW.1.c2; have q3 := hW.1.c3; have q4 := hW.1.c4; have q5 := hW.1.c5; have q6 := hW.1.c6; have q7 := hW.1.c7
    clear hW
    simp only [z0, z1]
    go_simp
    first | done | with_reducible rfl
   simp only [z0, z1, Act.put, z3, z4, z5]
   refine tk 9 (by decide) ?_ hS (by kernel_rfl) (by kernel_rfl) (by kernel_rfl) (by rfl) (fun _ _ _ h => h) ?_ ?_
   rotate_left
   ·intro W hW
    have q0 := hW.1.c0; have q1 := hW.1.c1; have q2 := hW.1.c2; have q3 := hW.1.c3; have q4 := hW.1.c4; have q5 := hW.1.c5; have q6 := hW.1.c6; have q7 := hW.1.c7
    clear hW
    simp only [z0, z1]
    go_simp
    first | done | with_reducible rfl
   simp only [z0, z1, Act.put, z3, z4, z5]
   refine tk 10 (by decide) ?_ hS (by kernel_rfl) (by kernel_rfl) (by kernel_rfl) (by rfl) (fun _ _ _ h => h) ?_ ?_
   rotate_left
   ·intro W hW
    have q0 := hW.1.c0; have q1 := hW.1.c1; have q2 := hW.1.c2; have q3 := hW.1.c3; have q4 := hW.1.c4; have q5 := hW.1.c5; have q6 := hW.1.c6; have q7 := hW.1.c7
    clear hW
    simp only [z0, z1]
    go_simp
    first | done | with_reducible rfl
   simp only [z0, z1, Act.put, z3, z4, z5]
   refine tk 12 (by decide) ?_ hS (by kernel_rfl) (by kernel_rfl) (by kernel_rfl) (by rfl) (fun _ _ _ h => h) ?_ ?_
   rotate_left
   ·intro W hW
    have q0 := hW.1.c0; have q1 := hW.1.c1; have q2 := hW.1.c2; have q3 := hW.1.c3; have q4 := hW.1.c4; have q5 := hW.1.c5; have q6 := hW.1.c6; have q7 := hW.1.c7
    clear hW
    simp only [z0, z1]
    go_simp
    first | done | with_reducible rfl
   simp only [z0, z1, Act.put, z3, z4, z5]
   refine tk 13 (by decide) ?_ hS (by kernel_rfl) (by kernel_rfl) (by kernel_rfl) (by rfl) (fun _ _ _ h => h) ?_ ?_
   rotate_left
   ·intro W hW
    have q0 := hW.1.c0; have q1 := hW.1.c1; have q2 := hW.1.c2; have q3 := hW.1.c3; have q4 := hW.1.c4; have q5 := hW.1.c5; have q6 := hW.1.c6; have q7 := hW.1.c7
    clear hW
    simp only [z0, z1]
    go_simp
    first | done | with_reducible rfl
   simp only [z0, z1, Act.put, z3, z4, z5]
   refine tk 15 (by decide) ?_ hS (by kernel_rfl) (by kernel_rfl) (by kernel_rfl) (by rfl) (fun _ _ _ h => h) ?_ ?_
   rotate_left
   ·intro W hW
    have q0 := hW.1.c0; have q1 := hW.1.c1; have q2 := hW.1.c2; have q3 := hW.1.c3; have q4 := hW.1.c4; have q5 := hW.1.c5; have q6 := hW.1.c6; have q7 := hW.1.c7
    clear hW
    simp only [z0, z1]
    go_simp
    first | done | with_reducible rfl
   simp only [z0, z1, Act.put, z3, z4, z5]
   refine tk 16 (by decide) ?_ hS (by kernel_rfl) (by kernel_rfl) (by kernel_rfl) (by rfl) (fun _ _ _ h => h) ?_ ?_
   rotate_left
   ·intro W hW
    have q0 := hW.1.c0; have q1 := hW.1.c1; have q2 := hW.1.c2; have q3 := hW.1.c3; have q4 := hW.1.c4; have q5 := hW.1.c5; have q6 := hW.1.c6; have q7 := hW.1.c7
    clear hW
    simp only [z0, z1]
    go_simp
    first | done | with_reducible rfl
   simp only [z0, z1, Act.put, z3, z4, z5]
   refine tk 18 (by decide) ?_ hS (by kernel_rfl) (by kernel_rfl) (by kernel_rfl) (by rfl) (fun _ _ _ h => h) ?_ ?_
   rotate_left
   ·intro W hW
    have q0 := hW.1.c0; have q1 := hW.1.c1; have q2 := hW.1.c2; have q3 := hW.1.c3; have q4 := hW.1.c4; have q5 := hW.1.c5; have q6 := hW.1.c6; have q7 := hW.1.c7
    clear hW
    simp only [z0, z1]
    go_simp
    first | done | with_reducible rfl
   simp only [z0, z1, Act.put, z3, z4, z5]
   refine tk 19 (by decide) ?_ hS (by kernel_rfl) (by kernel_rfl) (by kernel_rfl) (by rfl) (fun _ _ _ h => h) ?_ ?_
   rotate_left
   ·intro W hW
    have q0 := hW.1.c0; have q1 := hW.1.c1; have q2 := hW.1.c2; have q3 := hW.1.c3; have q4 := hW.1.c4; have q5 := hW.1.c5; have q6 := hW.1.c6; have q7 := hW.1.c7
    clear hW
    simp only [z0, z1]
    go_simp
    first | done | with_reducible rfl
   simp only [z0, z1, Act.put, z3, z4, z5]
   refine tk 20 (by decide) ?_ hS (by kernel_rfl) (by kernel_rfl) (by kernel_rfl) (by rfl) (fun _ _ _ h => h) ?_ ?_
   rotate_left
   ·intro W hW
    have q0 := hW.1.c0; have q1 := hW.1.c1; have q2 := hW.1.c2; have q3 := hW.1.c3; have q4 := hW.1.c4; have q5 := hW.1.c5; have q6 := hW.1.c6; have q7 := hW.1.c7
    clear hW
    simp only [z0, z1]
    go_simp
    first | done | with_reducible rfl
   simp only [z0, z1, Act.put, z3, z4, z5]
   refine tk 21 (by decide) ?_ hS (by kernel_rfl) (by kernel_rfl) (by kernel_rfl) (by rfl) (fun _ _ _ h => h) ?_ ?_
   rotate_left
   ·intro W hW
    have q0 := hW.1.c0; have q1 := hW.1.c1; have q2 := hW.1.c2; have q3 := hW.1.c3; have q4 := hW.1.c4; have q5 := hW.1.c5; have q6 := hW.1.c6; have q7 := hW.1.c7
    clear hW
    simp only [z0, z1]
    go_simp
    first | done | with_reducible rfl
   simp only [z0, z1, Act.put, z3, z4, z5]
   refine tk 22 (by decide) ?_ hS (by kernel_rfl) (by kernel_rfl) (by kernel_rfl) (by rfl) (fun _ _ _ h => h) ?_ ?_
   rotate_left
   ·intro W hW
    have q0 := hW.1.c0; have q1 := hW.1.c1; have q2 := hW.1.c2; have q3 := hW.1.c3; have q4 := hW.1.c4; have q5 := hW.1.c5; have q6 := hW.1.c6; have q7 := hW.1.c7
    clear hW
    simp only [z0, z1]
    go_simp
    first | done | with_reducible rfl
   simp only [z0, z1, Act.put, z3, z4, z5]
   refine one_at 2 (by decide) (by kernel_rfl) (by rfl) (fun K hK => ?_)
   refine call_wp (by simp only [z0, z1]; go_simp; first | done | rfl | exact ⟨rfl, rfl⟩ | exact ⟨rfl, rfl, rfl⟩ | exact ⟨rfl, rfl, rfl, rfl⟩) ((int07_any' e0.id _ HG.out.n0.1 HG.out.n0.2).mono ?_)
   rintro e v0 ⟨⟨t0, rfl, ht0⟩, hb⟩
   have hT := SQ.mono _ _ hS hb
   replace hgv0 := hgv0.later hb
   refine ⟨_, rfl, hK.out _ _ hT (fun hT' => ?_)⟩
   clear hT' hS hK hb
   have hS := hT
   clear hT
   simp only [z0, z1, Act.put, z3, z4, z5]
   refine one_at 5 (by decide) (by kernel_rfl) (by rfl) (fun K hK => ?_)
   refine call_wp (by simp only [z0, z1]; go_simp; first | done | rfl | exact ⟨rfl, rfl⟩ | exact ⟨rfl, rfl, rfl⟩ | exact ⟨rfl, rfl, rfl, rfl⟩) ((int07_any' e0.bo _ HG.out.n1.1 HG.out.n1.2).mono ?_)
   rintro e v1 ⟨⟨t1, rfl, ht1⟩, hb⟩
   have hT := SQ.mono _ _ hS hb
   replace hgv0 := hgv0.later hb
   refine ⟨_, rfl, hK.out _ _ hT (fun hT' => ?_)⟩
   clear hT' hS hK hb
   have hS := hT
   clear hT
   simp only [z0, z1, Act.put, z3, z4, z5]
   refine one_at 8 (by decide) (by kernel_rfl) (by rfl) (fun K hK => ?_)
   refine call_wp (by simp only [z0, z1]; go_simp; first | done | rfl | exact ⟨rfl, rfl⟩ | exact ⟨rfl, rfl, rfl⟩ | exact ⟨rfl, rfl, rfl, rfl⟩) ((int07_any' e0.va _ HG.out.n2.1 HG.out.n2.2).mono ?_)
   rintro e v2 ⟨⟨t2, rfl, ht2⟩, hb⟩
   have hT := SQ.mono _ _ hS hb
   replace hgv0 := hgv0.later hb
   refine ⟨_, rfl, hK.out _ _ hT (fun hT' => ?_)⟩
   clear hT' hS hK hb
   have hS := hT
   clear hT
   simp only [z0, z1, Act.put, z3, z4, z5]
   refine one_at 11 (by decide) (by kernel_rfl) (by rfl) (fun K hK => ?_)
   refine call_wp (by simp only [z0, z1]; go_simp; first | done | rfl | exact ⟨rfl, rfl⟩ | exact ⟨rfl, rfl, rfl⟩ | exact ⟨rfl, rfl, rfl, rfl⟩) ((int07_any' e0.ki _ HG.out.n3.1 HG.out.n3.2).mono ?_)
   rintro e v3 ⟨⟨t3, rfl, ht3⟩, hb⟩
   have hT := SQ.mono _ _ hS hb
   replace hgv0 := hgv0.later hb
   refine ⟨_, rfl, hK.out _ _ hT (fun hT' => ?_)⟩
   clear hT' hS hK hb
   have hS := hT
   clear hT
   simp only [z0, z1, Act.put, z3, z4, z5]
   refine one_at 14 (by decide) (by kernel_rfl) (by rfl) (fun K hK => ?_)
   refine call_wp (by simp only [z0, z1]; go_simp; first | done | rfl | exact ⟨rfl, rfl⟩ | exact ⟨rfl, rfl, rfl⟩ | exact ⟨rfl, rfl, rfl, rfl⟩) ((int07_any' e0.au _ HG.out.n4.1 HG.out.n4.2).mono ?_)
   rintro e v4 ⟨⟨t4, rfl, ht4⟩, hb⟩
   have hT := SQ.mono _ _ hS hb
   replace hgv0 := hgv0.later hb
   refine ⟨_, rfl, hK.out _ _ hT (fun hT' => ?_)⟩
   clear hT' hS hK hb
   have hS := hT
   clear hT
   simp only [z0, z1, Act.put, z3, z4, z5]
   refine one_at 17 (by decide) (by kernel_rfl) (by rfl) (fun K hK => ?_)
   refine call_wp (by simp only [z0, z1]; go_simp; first | done | rfl | exact ⟨rfl, rfl⟩ | exact ⟨rfl, rfl, rfl⟩ | exact ⟨rfl, rfl, rfl, rfl⟩) ((int07_any' e0.pe _ HG.out.n5.1 HG.out.n5.2).mono ?_)
   rintro e v5 ⟨⟨t5, rfl, ht5⟩, hb⟩
   have hT := SQ.mono _ _ hS hb
   replace hgv0 := hgv0.later hb
   refine ⟨_, rfl, hK.out _ _ hT (fun hT' => ?_)⟩
   clear hT' hS hK hb
   have hS := hT
   clear hT
   simp only [z0, z1, Act.put, z3, z4, z5]
   obtain ⟨a5, c5, e5, hrow5, _⟩ := hgv0.row
   have hrow : RowIn senc v5 a3 xs := by
    have := Value.slice.inj e5
    rw [this.1]; exact hrow5
   clear e5 hrow5
   refine one_at 23 (by decide) (by kernel_rfl) (by rfl) (fun K hK => ?_)
   refine call_wp (by simp only [z0, z1]; go_simp; first | done | rfl | exact ⟨rfl, rfl⟩ | exact ⟨rfl, rfl, rfl⟩ | exact ⟨rfl, rfl, rfl, rfl⟩) ((pack07_any a3 c3 xs _ hrow (by have := HV.out.1; omega) (by have := HV.out.2.1; have := HV.out.1; omega)).mono ?_)
   rintro e v6 ⟨⟨p1, rfl, hp1⟩, hb⟩
   have hT := SQ.mono _ _ hS hb
   replace hgv0 := hgv0.later hb
   refine ⟨_, rfl, hK.out _ _ hT (fun hT' => ?_)⟩
   clear hT' hS hK hb
   have hS := hT
   clear hT
   simp only [z0, z1, Act.put, z3, z4, z5]
   clear hrow hgv0
   replace hp1 : p1.size ≤ 1600 := by have := HV.out.2.1; have := HV.out.1; omega
   refine one_at 24 (by decide) (by kernel_rfl) (by rfl) (fun K hK => ?_)
   refine value_wp (by simp only [z0, z1]; go_simp; first | done | rfl | exact ⟨rfl, rfl⟩) ?_
   have hb : Below v6.heap.size v6 (v6.alloc (.cells #[.string t0, .string t1, .string t2, .string t3, .string t4, .string t5, .string e0.ke, .string e0.tx, .string p1] 9)) := (Below.refl _ _).alloc (Nat.le_refl _) _
   have hT := SQ.mono _ _ hS hb
   have hN : Bk.Blk (v6.alloc (.cells #[.string t0, .string t1, .string t2, .string t3, .string t4, .string t5, .string e0.ke, .string e0.tx, .string p1] 9)) v6.heap.size _ 9 := Bk.Blk.nw10
   refine hK.out _ _ hT (fun hT' => ?_)
   clear hT' hK hS hb
   have hS := hT
   clear hT
   simp only [z0, z1, Act.put, z3, z4, z5]
   generalize (v6.alloc (.cells _ 9)) = v7 at *
   obtain ⟨g9, eg9⟩ : ∃ g, g = v6.heap.size := ⟨_, rfl⟩
   rw [← eg9] at hN ⊢
   have hrow : RowIn senc v7 (some ⟨g9, 0, none⟩) [t0, t1, t2, t3, t4, t5, e0.ke, e0.tx, p1] := row_blk hN (by simp [flat, senc])
   clear hN
   refine one_at 25 (by decide) (by kernel_rfl) (by rfl) (fun K hK => ?_)
   refine call_wp (by simp only [z0, z1]; go_simp; first | done | rfl | exact ⟨rfl, rfl⟩ | exact ⟨rfl, rfl, rfl⟩ | exact ⟨rfl, rfl, rfl, rfl⟩) ((pack07_any (some ⟨g9, 0, none⟩) 9 [t0, t1, t2, t3, t4, t5, e0.ke, e0.tx, p1] _ hrow (by simp) (by have := HSH.out.1; have := HSH.out.2.1; simp only [szL]; omega)).mono ?_)
   rintro e v8 ⟨⟨p2, rfl, hp2⟩, hb⟩
   have hT := SQ.mono _ _ hS hb
   refine ⟨_, rfl, hK.out _ _ hT (fun hT' => ?_)⟩
   clear hT' hS hK hb
   have hS := hT
   clear hT
   simp only [z0, z1, Act.put, z3, z4, z5]
   refine tk 26 (by decide) ?_ hS (by kernel_rfl) (by kernel_rfl) (by kernel_rfl) (by rfl) (fun _ _ _ h => h) ?_ ?_
   rotate_left
   ·intro W hW
    clear hW
    simp only [z0, z1]
    go_simp
    first | done | with_reducible rfl
   simp only [z0, z1, Act.put, z3, z4, z5]
   refine wpAnyH_done (by kernel_rfl) ?_ _
   have c9 := hS.2
   clear hS
   go_wp2_with fail
   go_ret
   exact ⟨⟨p2, rfl, by have := HSH.out.1; have := HSH.out.2.1; simp only [szL, List.length_cons, List.length_nil] at hp2; omega⟩, c9⟩
end Go.Proofs.YtjhpiclnpmdjnaaGreatDoor.Bm
