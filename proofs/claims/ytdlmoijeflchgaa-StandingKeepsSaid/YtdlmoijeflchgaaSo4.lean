/-
  The next day of a standing order: the program's and the reference's.
-/
import Derived.Test.YtdlmoijeflchgaaSo3
namespace Go.Proofs.Ytdlmoijeflchgaa.So
open Go Go.RowKit
open Go.Proofs.Ytdlmoijeflchgaa
open Go.Proofs.Ytdlmoijeflchgaa.Kl (Cl CalIn adj adj_in addM addM_in mend mend_bd oV oE oV_some oE_some oV_none oE_none)
open Go.Proofs.Ytdlmoijeflchgaa.Ln (bl2)
set_option linter.unusedSimpArgs false
set_option linter.unusedVariables false
set_option maxRecDepth 100000

theorem mvd_none {c : Cl} {n : Int} (h : adj c n = none) : mvd c n = n := by unfold mvd; rw [h]
theorem mvd_yes {c : Cl} {n x : Int} (h : adj c n = some x) (he : mend x = mend n) : mvd c n = x := by unfold mvd; rw [h]; exact if_pos he
theorem mvd_no {c : Cl} {n x : Int} (h : adj c n = some x) (he : mend x ≠ mend n) : mvd c n = n := by unfold mvd; rw [h]; exact if_neg he
theorem nx_0 {o : Od} {c : Cl} (h : o.ev = 0) : nx o c = none := if_pos h
theorem nx_none {o : Od} {c : Cl} (h : o.ev ≠ 0) (ha : addM o.day o.ev o.an = none) : nx o c = none := by unfold nx; rw [if_neg h, ha]
theorem nx_late {o : Od} {c : Cl} {n : Int} (h : o.ev ≠ 0) (ha : addM o.day o.ev o.an = some n) (hu : ¬ mvd c n ≤ o.un) : nx o c = none := by unfold nx; rw [if_neg h, ha]; exact if_neg hu
theorem nx_yes {o : Od} {c : Cl} {n : Int} (h : o.ev ≠ 0) (ha : addM o.day o.ev o.an = some n) (hu : mvd c n ≤ o.un) : nx o c = some (mvd c n) := by unfold nx; rw [if_neg h, ha]; exact if_pos hu
set_option maxHeartbeats 4000000 in
theorem adjd_any (o : Od) (c : Cl) (wa ha : Option Addr) (wc hc : Nat) (d : Int) (w : World) (h : CalIn w c wa ha) (h0 : 0 ≤ d) (h1 : d ≤ 73048) : Calls Try.prog 40 #[.agg #[.int .i64 (o).id, .int .i64 (o).fr, .int .i64 (o).too, .int .i64 (o).am, .int .i64 (o).day, .int .i64 (o).ev, .int .i64 (o).an, .int .i64 (o).un, .int .i64 (o).tr, .string (o).tx, .string c.nm, .slice wa c.wk.length wc, .slice ha c.hol.length hc], .int .i64 d] w fun e w' => e = .returned (.int .i64 (mvd c d)) ∧ Below w.heap.size w w' := by
  have cw : Below w.heap.size w (w.alloc (.cells #[.int .i64 (o).id, .int .i64 (o).fr, .int .i64 (o).too, .int .i64 (o).am, .int .i64 (o).day, .int .i64 (o).ev, .int .i64 (o).an, .int .i64 (o).un, .int .i64 (o).tr, .string (o).tx, .string c.nm, .slice wa c.wk.length wc, .slice ha c.hol.length hc] 50)) := (Below.refl _ _).alloc (Nat.le_refl _) _
  have k0 : Bk.Blk (w.alloc (.cells #[.int .i64 (o).id, .int .i64 (o).fr, .int .i64 (o).too, .int .i64 (o).am, .int .i64 (o).day, .int .i64 (o).ev, .int .i64 (o).an, .int .i64 (o).un, .int .i64 (o).tr, .string (o).tx, .string c.nm, .slice wa c.wk.length wc, .slice ha c.hol.length hc] 50)) w.heap.size #[.int .i64 (o).id, .int .i64 (o).fr, .int .i64 (o).too, .int .i64 (o).am, .int .i64 (o).day, .int .i64 (o).ev, .int .i64 (o).an, .int .i64 (o).un, .int .i64 (o).tr, .string (o).tx, .string c.nm, .slice wa c.wk.length wc, .slice ha c.hol.length hc] 50 := Bk.Blk.nw10
  have hi := h.later cw
  clear h
  go_enter Try.func40, Try.ntmps40
  go_upto_region 1 with fail
  generalize (w.alloc (.cells #[.int .i64 (o).id, .int .i64 (o).fr, .int .i64 (o).too, .int .i64 (o).am, .int .i64 (o).day, .int .i64 (o).ev, .int .i64 (o).an, .int .i64 (o).un, .int .i64 (o).tr, .string (o).tx, .string c.nm, .slice wa c.wk.length wc, .slice ha c.hol.length hc] 50)) = w1 at *
  have cw1 := cw
  clear cw
  have l10 := k0.c10
  have l11 := k0.c11
  have l12 := k0.c12
  go_wp2_with fail
  clear l10 l11 l12
  refine (Kl.adj_any c wa ha wc hc d _ hi h0 h1).mono ?_
  rintro e w2 ⟨rfl, hb⟩
  replace k0 := k0.later hb
  replace hi := hi.later hb
  have cw2 := bl2 hb cw1
  clear hb cw1
  have HB := Lib.hid (fun x (hx : adj c d = some x) => adj_in h0 h1 hx)
  have HM := Lib.hid (mend_bd h0 h1)
  rcases hz : adj c d with _ | x
  · rw [oV_none, oE_none]
    have HF := Lib.hid (mvd_none hz)
    clear hz HB
    go_wp2_with fail
    refine (Dt.mend_any d _ h0 h1).mono ?_
    rintro e w3 ⟨rfl, hb⟩
    have cw3 := bl2 hb cw2
    clear hb cw2
    generalize mend d = md at *
    go_wp2_with fail
    go_ret
    exact ⟨by rw [HF.out]; try rfl, cw3⟩
  · rw [oV_some, oE_some]
    have hx := HB.out x hz
    have HX := Lib.hid (mend_bd hx.1 hx.2)
    have HY := Lib.hid (fun he => mvd_yes (n := d) hz he)
    have HN := Lib.hid (fun he => mvd_no (n := d) hz he)
    clear hz HB
    go_wp2_with fail
    refine (Dt.mend_any d _ h0 h1).mono ?_
    rintro e w3 ⟨rfl, hb⟩
    have cw3 := bl2 hb cw2
    clear hb cw2
    by_cases hlt : mend d < x
    · have HF := Lib.hid (HN.out (by have := HX.out; omega))
      clear HN HY HX HM
      generalize mend d = md at *
      go_wp2_with fail
      go_ret
      exact ⟨by rw [HF.out]; try rfl, cw3⟩
    · have hgt : ¬ mend d < x := hlt
      go_wp2_with fail
      refine (Dt.mend_any x _ hx.1 hx.2).mono ?_
      rintro e w4 ⟨rfl, hb⟩
      have cw4 := bl2 hb cw3
      clear hb cw3
      by_cases he : mend x = mend d
      · have HF := Lib.hid (HY.out he)
        have g1 : (mend x != mend d) = false := by rw [he]; exact bne_self_eq_false' _
        clear he HN HY
        generalize mend d = md at *
        generalize mend x = mx at *
        go_wp2_with fail
        go_ret
        exact ⟨by rw [HF.out]; try rfl, cw4⟩
      · have HF := Lib.hid (HN.out he)
        have g1 : (mend x != mend d) = true := bne_iff_ne.2 he
        clear he HN HY
        generalize mend d = md at *
        generalize mend x = mx at *
        go_wp2_with fail
        go_ret
        exact ⟨by rw [HF.out]; try rfl, cw4⟩
set_option maxHeartbeats 4000000 in
theorem moved_any (c : Cl) (wa ha : Option Addr) (wc hc : Nat) (d : Int) (w : World) (h : CalIn w c wa ha) (h0 : 0 ≤ d) (h1 : d ≤ 73048) : Calls Try.prog 24 #[.int .i64 d, (.agg #[.string (c).nm, .slice wa (c).wk.length wc, .slice ha (c).hol.length hc])] w fun e w' => e = .returned (.int .i64 (mvd c d)) ∧ Below w.heap.size w w' := by
  have cw : Below w.heap.size w (w.alloc (.cells #[.string c.nm, .slice wa c.wk.length wc, .slice ha c.hol.length hc] 26)) := (Below.refl _ _).alloc (Nat.le_refl _) _
  have k0 : Bk.Blk (w.alloc (.cells #[.string c.nm, .slice wa c.wk.length wc, .slice ha c.hol.length hc] 26)) w.heap.size #[.string c.nm, .slice wa c.wk.length wc, .slice ha c.hol.length hc] 26 := Bk.Blk.nw10
  have hi := h.later cw
  clear h
  go_enter Try.func24, Try.ntmps24
  go_upto_region 1 with fail
  generalize (w.alloc (.cells #[.string c.nm, .slice wa c.wk.length wc, .slice ha c.hol.length hc] 26)) = w1 at *
  have cw1 := cw
  clear cw
  have l0 := k0.c0
  have l1 := k0.c1
  have l2 := k0.c2
  go_wp2_with fail
  clear l0 l1 l2
  refine (Kl.radj_any c wa ha wc hc d _ hi h0 h1).mono ?_
  rintro e w2 ⟨rfl, hb⟩
  replace k0 := k0.later hb
  replace hi := hi.later hb
  have cw2 := bl2 hb cw1
  clear hb cw1
  have HB := Lib.hid (fun x (hx : adj c d = some x) => adj_in h0 h1 hx)
  rcases hz : adj c d with _ | x
  · rw [oV_none, oE_none]
    have HF := Lib.hid (mvd_none hz)
    clear hz HB
    go_wp2_with fail
    go_ret
    exact ⟨by rw [HF.out]; try rfl, cw2⟩
  · rw [oV_some, oE_some]
    have hx := HB.out x hz
    have HY := Lib.hid (fun he => mvd_yes (n := d) hz he)
    have HN := Lib.hid (fun he => mvd_no (n := d) hz he)
    clear hz HB
    go_wp2_with fail
    refine (Dt.rmend_any x _ hx.1 hx.2).mono ?_
    rintro e w' ⟨rfl, rfl⟩
    go_wp2_with fail
    refine (Dt.rmend_any d _ h0 h1).mono ?_
    rintro e w' ⟨rfl, rfl⟩
    by_cases he : mend x = mend d
    · have HF := Lib.hid (HY.out he)
      have g1 : (mend x != mend d) = false := by rw [he]; exact bne_self_eq_false' _
      clear he HN HY
      generalize mend d = md at *
      generalize mend x = mx at *
      go_wp2_with fail
      go_ret
      exact ⟨by rw [HF.out]; try rfl, cw2⟩
    · have HF := Lib.hid (HN.out he)
      have g1 : (mend x != mend d) = true := bne_iff_ne.2 he
      clear he HN HY
      generalize mend d = md at *
      generalize mend x = mx at *
      go_wp2_with fail
      go_ret
      exact ⟨by rw [HF.out]; try rfl, cw2⟩
set_option maxHeartbeats 8000000 in
theorem snext_any (o : Od) (c : Cl) (wa ha : Option Addr) (wc hc : Nat) (w : World) (h : CalIn w c wa ha) (ho : Ok o) : Calls Try.prog 22 #[.agg #[.int .i64 (o).id, .int .i64 (o).fr, .int .i64 (o).too, .int .i64 (o).am, .int .i64 (o).day, .int .i64 (o).ev, .int .i64 (o).an, .int .i64 (o).un, .int .i64 (o).tr, .string (o).tx, .string c.nm, .slice wa c.wk.length wc, .slice ha c.hol.length hc]] w fun e w' => e = .returned (.tuple #[.int .i64 (oV (nx o c)), .int .i64 (oE (nx o c) 23)]) ∧ Below w.heap.size w w' := by
  have cw : Below w.heap.size w (w.alloc (.cells #[.int .i64 (o).id, .int .i64 (o).fr, .int .i64 (o).too, .int .i64 (o).am, .int .i64 (o).day, .int .i64 (o).ev, .int .i64 (o).an, .int .i64 (o).un, .int .i64 (o).tr, .string (o).tx, .string c.nm, .slice wa c.wk.length wc, .slice ha c.hol.length hc] 50)) := (Below.refl _ _).alloc (Nat.le_refl _) _
  have k0 : Bk.Blk (w.alloc (.cells #[.int .i64 (o).id, .int .i64 (o).fr, .int .i64 (o).too, .int .i64 (o).am, .int .i64 (o).day, .int .i64 (o).ev, .int .i64 (o).an, .int .i64 (o).un, .int .i64 (o).tr, .string (o).tx, .string c.nm, .slice wa c.wk.length wc, .slice ha c.hol.length hc] 50)) w.heap.size #[.int .i64 (o).id, .int .i64 (o).fr, .int .i64 (o).too, .int .i64 (o).am, .int .i64 (o).day, .int .i64 (o).ev, .int .i64 (o).an, .int .i64 (o).un, .int .i64 (o).tr, .string (o).tx, .string c.nm, .slice wa c.wk.length wc, .slice ha c.hol.length hc] 50 := Bk.Blk.nw10
  have hi := h.later cw
  clear h
  go_enter Try.func22, Try.ntmps22
  go_upto_region 1 with fail
  generalize (w.alloc (.cells #[.int .i64 (o).id, .int .i64 (o).fr, .int .i64 (o).too, .int .i64 (o).am, .int .i64 (o).day, .int .i64 (o).ev, .int .i64 (o).an, .int .i64 (o).un, .int .i64 (o).tr, .string (o).tx, .string c.nm, .slice wa c.wk.length wc, .slice ha c.hol.length hc] 50)) = w1 at *
  have cw1 := cw
  clear cw
  have l5 := k0.c5
  by_cases h5 : o.ev = 0
  · have g5 : (o.ev == 0) = true := by simp [h5]
    have HF := Lib.hid (nx_0 (c := c) h5)
    clear h5
    go_wp2_with fail
    go_ret2
    exact ⟨by rw [HF.out]; try rfl, cw1⟩
  · have g5 : (o.ev == 0) = false := by simp [h5]
    have hev : -2400 ≤ o.ev ∧ o.ev ≤ 2400 := by have := ho.evs; omega
    have had := ho.an
    have hdd := ho.days.1
    have l4 := k0.c4
    have l6 := k0.c6
    go_wp2_with fail
    clear l4 l5 l6
    refine (Dt.addm_any o.day o.ev o.an _ hdd.1 hdd.2 hev.1 hev.2 had.1 had.2).mono ?_
    rintro e w2 ⟨rfl, hb⟩
    replace k0 := k0.later hb
    replace hi := hi.later hb
    have cw2 := bl2 hb cw1
    clear hb cw1
    have HB := Lib.hid (fun x (hx : addM o.day o.ev o.an = some x) => addM_in had.1 hx)
    rcases hz : addM o.day o.ev o.an with _ | x
    · rw [oV_none, oE_none]
      have HF := Lib.hid (nx_none (c := c) h5 hz)
      clear hz HB h5
      go_wp2_with fail
      go_ret2
      exact ⟨by rw [HF.out]; try rfl, cw2⟩
    · rw [oV_some, oE_some]
      have hx := HB.out x hz
      have HY := Lib.hid (fun he => nx_yes (c := c) h5 hz he)
      have HN := Lib.hid (fun he => nx_late (c := c) h5 hz he)
      clear hz HB h5
      go_wp2_with (refine wpList_load_row rfl 50 _ rfl _ rfl _ _ _ _ k0 Try.underlying50 rfl (by kernel_rfl) ?_)
      refine (adjd_any o c wa ha wc hc x _ hi hx.1 hx.2).mono ?_
      rintro e w3 ⟨rfl, hb⟩
      replace k0 := k0.later hb
      replace hi := hi.later hb
      have cw3 := bl2 hb cw2
      clear hb cw2
      obtain ⟨y, hy⟩ : ∃ y, y = mvd c x := ⟨_, rfl⟩
      rw [← hy] at HY HN ⊢
      clear hy
      have l7 := k0.c7
      by_cases hu : y ≤ o.un
      · have HF := Lib.hid (HY.out hu)
        have hu2 : ¬ o.un < y := by omega
        clear HY HN
        go_wp2_with fail
        go_ret2
        exact ⟨by rw [HF.out]; try rfl, cw3⟩
      · have HF := Lib.hid (HN.out (by omega))
        have hu2 : o.un < y := by omega
        clear HY HN
        go_wp2_with fail
        go_ret2
        exact ⟨by rw [HF.out]; try rfl, cw3⟩
set_option maxHeartbeats 8000000 in
theorem next_any (o : Od) (c : Cl) (wa ha : Option Addr) (wc hc : Nat) (w : World) (h : CalIn w c wa ha) (hs : o.tx.size ≤ maxLen) : Calls Try.prog 8 #[(.agg #[.int .i64 (o).id, .int .i64 (o).fr, .int .i64 (o).too, .int .i64 (o).am, .int .i64 (o).day, .int .i64 (o).ev, .int .i64 (o).an, .int .i64 (o).un, .int .i64 (o).tr, .string (o).tx]), (.agg #[.string (c).nm, .slice wa (c).wk.length wc, .slice ha (c).hol.length hc])] w fun e w' => e = .returned (.tuple #[.int .i64 (nxV o c), .int .i64 (nxE o c)]) ∧ Below w.heap.size w w' := by
  have cw : Below w.heap.size w ((w.alloc (.cells #[.int .i64 (o).id, .int .i64 (o).fr, .int .i64 (o).too, .int .i64 (o).am, .int .i64 (o).day, .int .i64 (o).ev, .int .i64 (o).an, .int .i64 (o).un, .int .i64 (o).tr, .string (o).tx] 23)).alloc (.cells #[.string c.nm, .slice wa c.wk.length wc, .slice ha c.hol.length hc] 26)) := ((Below.refl _ _).alloc (Nat.le_refl _) _).alloc (by simp) _
  have k0 : Bk.Blk ((w.alloc (.cells #[.int .i64 (o).id, .int .i64 (o).fr, .int .i64 (o).too, .int .i64 (o).am, .int .i64 (o).day, .int .i64 (o).ev, .int .i64 (o).an, .int .i64 (o).un, .int .i64 (o).tr, .string (o).tx] 23)).alloc (.cells #[.string c.nm, .slice wa c.wk.length wc, .slice ha c.hol.length hc] 26)) w.heap.size #[.int .i64 (o).id, .int .i64 (o).fr, .int .i64 (o).too, .int .i64 (o).am, .int .i64 (o).day, .int .i64 (o).ev, .int .i64 (o).an, .int .i64 (o).un, .int .i64 (o).tr, .string (o).tx] 23 := Bk.Blk.nw20
  have kc : Bk.Blk ((w.alloc (.cells #[.int .i64 (o).id, .int .i64 (o).fr, .int .i64 (o).too, .int .i64 (o).am, .int .i64 (o).day, .int .i64 (o).ev, .int .i64 (o).an, .int .i64 (o).un, .int .i64 (o).tr, .string (o).tx] 23)).alloc (.cells #[.string c.nm, .slice wa c.wk.length wc, .slice ha c.hol.length hc] 26)) (w.heap.size + 1) #[.string c.nm, .slice wa c.wk.length wc, .slice ha c.hol.length hc] 26 := Bk.Blk.nw21
  have hi := h.later cw
  clear h
  go_enter Try.func8, Try.ntmps8
  go_upto_region 1 with fail
  generalize ((w.alloc (.cells #[.int .i64 (o).id, .int .i64 (o).fr, .int .i64 (o).too, .int .i64 (o).am, .int .i64 (o).day, .int .i64 (o).ev, .int .i64 (o).an, .int .i64 (o).un, .int .i64 (o).tr, .string (o).tx] 23)).alloc (.cells #[.string c.nm, .slice wa c.wk.length wc, .slice ha c.hol.length hc] 26)) = w1 at *
  have cw1 := cw
  clear cw
  go_wp2_with (refine wpList_load_row rfl 23 _ rfl _ rfl _ _ _ _ k0 Try.underlying23 rfl (by kernel_rfl) ?_)
  refine (odchk_any o _ hs).mono ?_
  rintro e wq ⟨rfl, hb⟩
  replace k0 := k0.later hb
  replace kc := kc.later hb
  replace hi := hi.later hb
  have cwq := bl2 hb cw1
  clear hb cw1
  by_cases hE : odE o ≠ 0
  · have HF := Lib.hid (show nxV o c = 0 ∧ nxE o c = 1 from ⟨if_pos hE, if_pos hE⟩)
    have g1 : (odE o != 0) = true := by simpa using hE
    clear hE
    generalize odE o = E at *
    go_wp2_with fail
    go_ret2
    exact ⟨by rw [HF.out.1, HF.out.2]; try rfl, cwq⟩
  · have hE0 : odE o = 0 := Classical.byContradiction hE
    have ho := ok_of hE0
    have HF2 := Lib.hid (show nxV o c = oV (nx o c) ∧ nxE o c = oE (nx o c) 23 from ⟨if_neg hE, if_neg hE⟩)
    have g1 : (odE o != 0) = false := by rw [hE0]; rfl
    clear hE hE0
    generalize odE o = E at g1 ⊢
    go_wp2_with (first | (refine wpList_load_row rfl 23 _ rfl _ rfl _ _ _ _ k0 Try.underlying23 rfl (by kernel_rfl) ?_) | (refine wpList_load_row rfl 26 _ rfl _ rfl _ _ _ _ kc Try.underlying26 rfl (by kernel_rfl) ?_))
    refine (snext_any o c wa ha wc hc _ hi ho).mono ?_
    rintro e w3 ⟨rfl, hb⟩
    replace hi := hi.later hb
    have cw3 := bl2 hb cwq
    clear hb cwq
    generalize oV (nx o c) = v at *
    generalize oE (nx o c) 23 = ee at *
    go_wp2_with fail
    go_ret2
    exact ⟨by rw [HF2.out.1, HF2.out.2]; try rfl, cw3⟩
set_option maxHeartbeats 8000000 in
theorem rnext_any (o : Od) (c : Cl) (wa ha : Option Addr) (wc hc : Nat) (w : World) (h : CalIn w c wa ha) (hs : o.tx.size ≤ maxLen) : Calls Try.prog 9 #[(.agg #[.int .i64 (o).id, .int .i64 (o).fr, .int .i64 (o).too, .int .i64 (o).am, .int .i64 (o).day, .int .i64 (o).ev, .int .i64 (o).an, .int .i64 (o).un, .int .i64 (o).tr, .string (o).tx]), (.agg #[.string (c).nm, .slice wa (c).wk.length wc, .slice ha (c).hol.length hc])] w fun e w' => e = .returned (.tuple #[.int .i64 (nxV o c), .int .i64 (nxE o c)]) ∧ Below w.heap.size w w' := by
  have cw : Below w.heap.size w ((w.alloc (.cells #[.int .i64 (o).id, .int .i64 (o).fr, .int .i64 (o).too, .int .i64 (o).am, .int .i64 (o).day, .int .i64 (o).ev, .int .i64 (o).an, .int .i64 (o).un, .int .i64 (o).tr, .string (o).tx] 23)).alloc (.cells #[.string c.nm, .slice wa c.wk.length wc, .slice ha c.hol.length hc] 26)) := ((Below.refl _ _).alloc (Nat.le_refl _) _).alloc (by simp) _
  have k0 : Bk.Blk ((w.alloc (.cells #[.int .i64 (o).id, .int .i64 (o).fr, .int .i64 (o).too, .int .i64 (o).am, .int .i64 (o).day, .int .i64 (o).ev, .int .i64 (o).an, .int .i64 (o).un, .int .i64 (o).tr, .string (o).tx] 23)).alloc (.cells #[.string c.nm, .slice wa c.wk.length wc, .slice ha c.hol.length hc] 26)) w.heap.size #[.int .i64 (o).id, .int .i64 (o).fr, .int .i64 (o).too, .int .i64 (o).am, .int .i64 (o).day, .int .i64 (o).ev, .int .i64 (o).an, .int .i64 (o).un, .int .i64 (o).tr, .string (o).tx] 23 := Bk.Blk.nw20
  have kc : Bk.Blk ((w.alloc (.cells #[.int .i64 (o).id, .int .i64 (o).fr, .int .i64 (o).too, .int .i64 (o).am, .int .i64 (o).day, .int .i64 (o).ev, .int .i64 (o).an, .int .i64 (o).un, .int .i64 (o).tr, .string (o).tx] 23)).alloc (.cells #[.string c.nm, .slice wa c.wk.length wc, .slice ha c.hol.length hc] 26)) (w.heap.size + 1) #[.string c.nm, .slice wa c.wk.length wc, .slice ha c.hol.length hc] 26 := Bk.Blk.nw21
  have hi := h.later cw
  clear h
  go_enter Try.func9, Try.ntmps9
  go_upto_region 1 with fail
  generalize ((w.alloc (.cells #[.int .i64 (o).id, .int .i64 (o).fr, .int .i64 (o).too, .int .i64 (o).am, .int .i64 (o).day, .int .i64 (o).ev, .int .i64 (o).an, .int .i64 (o).un, .int .i64 (o).tr, .string (o).tx] 23)).alloc (.cells #[.string c.nm, .slice wa c.wk.length wc, .slice ha c.hol.length hc] 26)) = w1 at *
  have cw1 := cw
  clear cw
  go_wp2_with (refine wpList_load_row rfl 23 _ rfl _ rfl _ _ _ _ k0 Try.underlying23 rfl (by kernel_rfl) ?_)
  refine (rodchk_any o _ hs).mono ?_
  rintro e wq ⟨rfl, hb⟩
  replace k0 := k0.later hb
  replace kc := kc.later hb
  replace hi := hi.later hb
  have cwq := bl2 hb cw1
  clear hb cw1
  by_cases hE : odE o ≠ 0
  · have HF := Lib.hid (show nxV o c = 0 ∧ nxE o c = 1 from ⟨if_pos hE, if_pos hE⟩)
    have g1 : (odE o != 0) = true := by simpa using hE
    clear hE
    generalize odE o = E at *
    go_wp2_with fail
    go_ret2
    exact ⟨by rw [HF.out.1, HF.out.2]; try rfl, cwq⟩
  · have hE0 : odE o = 0 := Classical.byContradiction hE
    have ho := ok_of hE0
    have HF2 := Lib.hid (show nxV o c = oV (nx o c) ∧ nxE o c = oE (nx o c) 23 from ⟨if_neg hE, if_neg hE⟩)
    have g1 : (odE o != 0) = false := by rw [hE0]; rfl
    clear hE hE0
    generalize odE o = E at g1 ⊢
    have l5 := k0.c5
    by_cases h5 : o.ev = 0
    · have g5 : (o.ev == 0) = true := by simp [h5]
      have HF := Lib.hid (nx_0 (c := c) h5)
      clear h5
      go_wp2_with fail
      go_ret2
      exact ⟨by rw [HF2.out.1, HF2.out.2, HF.out]; try rfl, cwq⟩
    · have g5 : (o.ev == 0) = false := by simp [h5]
      have hev : -2400 ≤ o.ev ∧ o.ev ≤ 2400 := by have := ho.evs; omega
      have had := ho.an
      have hdd := ho.days.1
      have l4 := k0.c4
      have l6 := k0.c6
      go_wp2_with fail
      clear l4 l5 l6
      refine (Dt.raddm_any o.day o.ev o.an _ hdd.1 hdd.2 hev.1 hev.2 had.1 had.2).mono ?_
      rintro e w' ⟨rfl, rfl⟩
      have cw2 := cwq
      clear cwq
      have HB := Lib.hid (fun x (hx : addM o.day o.ev o.an = some x) => addM_in had.1 hx)
      rcases hz : addM o.day o.ev o.an with _ | x
      · rw [oV_none, oE_none]
        have HF := Lib.hid (nx_none (c := c) h5 hz)
        clear hz HB h5
        go_wp2_with fail
        go_ret2
        exact ⟨by rw [HF2.out.1, HF2.out.2, HF.out]; try rfl, cw2⟩
      · rw [oV_some, oE_some]
        have hx := HB.out x hz
        have HY := Lib.hid (fun he => nx_yes (c := c) h5 hz he)
        have HN := Lib.hid (fun he => nx_late (c := c) h5 hz he)
        clear hz HB h5
        have m0 := kc.c0
        have m1 := kc.c1
        have m2 := kc.c2
        go_wp2_with fail
        clear m0 m1 m2
        refine (moved_any c wa ha wc hc x _ hi hx.1 hx.2).mono ?_
        rintro e w3 ⟨rfl, hb⟩
        replace k0 := k0.later hb
        replace hi := hi.later hb
        replace kc := kc.later hb
        have cw3 := bl2 hb cw2
        clear hb cw2
        obtain ⟨y, hy⟩ : ∃ y, y = mvd c x := ⟨_, rfl⟩
        rw [← hy] at HY HN ⊢
        clear hy
        have l7 := k0.c7
        by_cases hu : y ≤ o.un
        · have HF := Lib.hid (HY.out hu)
          have hu2 : ¬ o.un < y := by omega
          clear HY HN
          go_wp2_with fail
          go_ret2
          exact ⟨by rw [HF2.out.1, HF2.out.2, HF.out]; try rfl, cw3⟩
        · have HF := Lib.hid (HN.out (by omega))
          have hu2 : o.un < y := by omega
          clear HY HN
          go_wp2_with fail
          go_ret2
          exact ⟨by rw [HF2.out.1, HF2.out.2, HF.out]; try rfl, cw3⟩
end Go.Proofs.Ytdlmoijeflchgaa.So
